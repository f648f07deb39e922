/- Regions that draw their order, with calls of which two or three may come first: a tree of orders. -/
import Derived.Test.YtpbanfkjeiihbaaDoorV
set_option linter.unusedVariables false
set_option linter.unusedSimpArgs false
namespace Go.Proofs.YtpbanfkjeiihbaaDoor
open Go.RowKit


/-- An operation that neither reads nor writes memory. -/
def freeB (o : Oper) : Bool :=
  match o.op with
  | .move _ | .assign _ | .extract .. => true
  | _ => false
theorem free_run {P : Program} {ρ : Operand → Value} {o : Oper} (h : freeB o = true) {v : Value} {w w1 : World} (hr : (execOp ρ o).run P w = .ok (.value v) w1) : w1 = w ∧ ∀ w', (execOp ρ o).run P w' = .ok (.value v) w' := by
  unfold freeB at h
  unfold execOp at *
  split at h
  all_goals (rename_i heq; simp only [heq] at hr ⊢)
  · simp only [Sem.run_pure, Result.ok.injEq, Next.value.injEq] at hr
    obtain ⟨rfl, rfl⟩ := hr
    exact ⟨rfl, fun _ => rfl⟩
  · simp only [Sem.run_pure, Result.ok.injEq, Next.value.injEq] at hr
    obtain ⟨rfl, rfl⟩ := hr
    exact ⟨rfl, fun _ => rfl⟩
  · rename_i x i
    rw [Sem.run_bind] at hr
    unfold Instr.extract at *
    split at hr
    · split at hr
      · simp only [Sem.run_pure, Result.andThen_ok, Result.ok.injEq, Next.value.injEq] at hr
        obtain ⟨rfl, rfl⟩ := hr
        refine ⟨rfl, fun w' => ?_⟩
        simp_all
      · cases hr
    · cases hr
  · cases h

section
variable {P : Program} {ops : Array Oper}
/-- In this state, now and in each world that X leads to, the operation gives v. -/
def YX (P : Program) (ops : Array Oper) (X : World → World → Prop) (o : Oper) (v : Value) (a : Act) (w : World) : Prop :=
  (Region.wanted o (yielded ops a.tmps) = true ∧ ∀ w', X w w' → (execOp a.eval o).run P w' = .ok (.value v) w') ∨ (Region.wanted o (yielded ops a.tmps) = false ∧ v = undef)
theorem YX.opE {X : World → World → Prop} (hrefl : ∀ w, X w w) {need : Nat → Bool} {i : Nat} {o : Oper} {v : Value} {a : Act} {w : World} (hi : ops[i]? = some o) (hy : YX P ops X o v a w) {K : Act → World → Prop} (h : K (a.put o.dst v) w) : opE P ops need i K a w := by
  unfold Go.Proofs.YtpbanfkjeiihbaaDoor.opE
  simp only [hi]
  rcases hy with ⟨hw, hv⟩ | ⟨hw, rfl⟩
  · simp only [hw, if_true]
    unfold stepE
    rw [hv w (hrefl _)]
    exact ⟨fun _ => Ext.refl _, h⟩
  · simp only [hw, Bool.false_eq_true, if_false]; exact h
theorem YX.of_same {X : World → World → Prop} (htrans : ∀ a b c, X a b → X b c → X a c) {o : Oper} {v : Value} {a a' : Act} {w w' : World} (hy : YX P ops X o v a w) (hx : X w w') (he : execOp a'.eval o = execOp a.eval o)
    (hw : Region.wanted o (yielded ops a'.tmps) = Region.wanted o (yielded ops a.tmps)) : YX P ops X o v a' w' := by
  unfold YX at *
  rw [he, hw]
  rcases hy with ⟨h1, h2⟩ | h
  · exact .inl ⟨h1, fun w'' h3 => h2 w'' (htrans _ _ _ hx h3)⟩
  · exact .inr h

theorem opE_putX {X : World → World → Prop} (hrefl : ∀ w, X w w) (htrans : ∀ a b c, X a b → X b c → X a c) {need : Nat → Bool} {j : Nat} {oi oj : Oper} {v : Value} (hj : ops[j]? = some oj) (hap : oi.apart ops oj = true)
    (hsi : ∀ cs b, oi.op ≠ .select cs b) (hsj : ∀ cs b, oj.op ≠ .select cs b) (hX : ∀ w w', (need j = true → Ext w w') → X w w') {K : Act → World → Prop} {a : Act} {w : World}
    (hy : YX P ops X oi v a w) (h : opE P ops need j K (a.put oi.dst v) w) :
    opE P ops need j (fun a' w' => YX P ops X oi v a' w' ∧ K (a'.put oi.dst v) w') a w := by
  obtain ⟨h1, h2, h3⟩ := Oper.apart_spec hap
  have keep : ∀ (w' : World), X w w' → ∀ u, YX P ops X oi v (a.put oj.dst u) w' := fun w' hx u =>
    hy.of_same htrans hx (execOp_put oi hsi a oj.dst u h3) (wanted_put oi a oj.dst u h3)
  unfold opE at *
  simp only [hj] at *
  rw [wanted_put oj a oi.dst v h1] at h
  split
  · rename_i hw
    simp only [hw, if_true] at h
    unfold stepE at h ⊢
    rw [execOp_put oj hsj a oi.dst v h1] at h
    generalize (execOp a.eval oj).run P w = r at *
    cases r with
    | halt x w' => exact h.elim
    | ok n w' =>
      cases n <;> first | exact h.elim | skip
      case value u => exact ⟨h.1, keep _ (hX _ _ h.1) u, by rw [← Act.put_comm a v u h2]; exact h.2⟩
      case skip => exact ⟨h.1, keep _ (hX _ _ h.1) undef, by rw [← Act.put_comm a v undef h2]; exact h.2⟩
      case defer d =>
        have h4 : K ({ (a.put oi.dst v) with defers := d :: (a.put oi.dst v).defers }.put oj.dst undef) w' := h.2
        rw [Act.put_defers, Act.put_comm _ v undef h2] at h4
        refine ⟨h.1, ?_, h4⟩
        have h3' := keep _ (hX _ _ h.1) undef
        exact h3'.of_same htrans (hrefl _) (by cases oj.dst <;> rfl) (by cases oj.dst <;> rfl)
      case row r args => exact h.mono fun u w'' ⟨hx, hk⟩ => ⟨hx, keep _ (hX _ _ hx) u, by rw [← Act.put_comm a v u h2]; exact hk⟩
      case enter f args => exact h.mono fun e w'' ⟨u, he, hx, hk⟩ => ⟨u, he, hx, keep _ (hX _ _ hx) u, by rw [← Act.put_comm a v u h2]; exact hk⟩
  · rename_i hw
    simp only [hw] at h
    exact ⟨keep _ (hrefl _) _, by rw [← Act.put_comm a v undef h2]; exact h⟩

/-- Must the operation keep what was there? Where another one that looks at memory may come before it or behind it. -/
def needF (ops : Array Oper) (j : Nat) : Bool := (List.range ops.size).any fun i => i != j && !ancB ops ops.size i j && !ancB ops ops.size j i && !(match ops[i]? with | some o => freeB o | none => false)
theorem needF_of_ready {listed : Array Bool} (hc : ClosedL ops listed) {i j : Nat} {oi : Oper} (hoi : ops[i]? = some oi) (hfr : freeB oi = false) (hi : i ∈ Region.ready .any ops listed) (hj : j ∈ Region.ready .any ops listed) (hne : i ≠ j) : needF ops j = true := by
  unfold needF
  have hlt : ∀ {k}, k ∈ Region.ready .any ops listed → k < ops.size := fun hk => by
    obtain ⟨_, ok, hok, _⟩ := mem_ready.1 hk
    exact (Array.getElem?_eq_some_iff.1 hok).1
  have hun : ∀ {k}, k ∈ Region.ready .any ops listed → listed.getD k false = false := fun {k} hk => by
    have := (mem_ready.1 hk).1
    rcases Nat.lt_or_ge k listed.size with h' | h'
    · simp [h'] at this ⊢; exact this
    · simp [Array.getElem?_eq_none h'] at this
  refine List.any_eq_true.2 ⟨i, List.mem_range.2 (hlt hi), ?_⟩
  have h1 : ancB ops ops.size i j = false := by
    cases h : ancB ops ops.size i j with
    | false => rfl
    | true => have := anc_listed hc _ _ _ (ready_parents hj) h; rw [hun hi] at this; cases this
  have h2 : ancB ops ops.size j i = false := by
    cases h : ancB ops ops.size j i with
    | false => rfl
    | true => have := anc_listed hc _ _ _ (ready_parents hi) h; rw [hun hj] at this; cases this
  simp [hne, h1, h2, hoi, hfr]

/-- An operation that may come up now may be taken first, if what it gives it gives in each world that the others lead to. -/
theorem anyE_firstX {X : World → World → Prop} (hrefl : ∀ w, X w w) (htrans : ∀ a b c, X a b → X b c → X a c) {need : Nat → Bool} {R : Act → World → Prop} {i : Nat} {oi : Oper} {v : Value} (hi : ops[i]? = some oi) (hsel : ∀ (j : Nat) (o : Oper) cs b, ops[j]? = some o → o.op ≠ .select cs b)
    (hneed : ∀ (listed : Array Bool) (j : Nat), ClosedL ops listed → i ∈ Region.ready .any ops listed → j ∈ Region.ready .any ops listed → i ≠ j → ∀ w w', (need j = true → Ext w w') → X w w') :
    ∀ (f : Nat) (listed : Array Bool) (a : Act) (w : World), ClosedL ops listed →
      (∀ j oj, ops[j]? = some oj → j ≠ i → listed.getD j true = false → (∀ e ∈ oj.after, Region.binds .any e = true → e.on ≠ i) → oi.apart ops oj = true) →
      i ∈ Region.ready .any ops listed → YX P ops X oi v a w →
      anyE P ops need R f (listed.setIfInBounds i true) (a.put oi.dst v) w → anyE P ops need R (f + 1) listed a w := by
  intro f
  induction f with
  | zero =>
    intro listed a w hc _ hr hy H
    refine ⟨fun h => (by rw [h] at hr; cases hr), fun j hj => ?_⟩
    by_cases hji : j = i
    · subst hji; exact hy.opE hrefl hi H
    · have := ready_mono hj hji
      rw [H.1] at this
      cases this
  | succ f ih =>
    intro listed a w hc hfree hr hy H
    refine ⟨fun h => (by rw [h] at hr; cases hr), fun j hj => ?_⟩
    by_cases hji : j = i
    · subst hji; exact hy.opE hrefl hi H
    · have h1 := H.2 j (ready_mono hj hji)
      obtain ⟨hjun, oj, hoj, hall⟩ := mem_ready.1 hj
      have hnot : ∀ e ∈ oj.after, Region.binds .any e = true → e.on ≠ i := fun e he hb heq => by
        have h1 := hall e he hb
        have h0 := (mem_ready.1 hr).1
        rw [heq] at h1
        rcases Nat.lt_or_ge i listed.size with h' | h'
        · simp [h'] at h0 h1; rw [h0] at h1; cases h1
        · simp [Array.getElem?_eq_none h'] at h1
      have h2 := opE_putX hrefl htrans hoj (hfree j oj hoj hji hjun hnot) (fun cs b => hsel i oi cs b hi) (fun cs b => hsel j oj cs b hoj) (hneed listed j hc hr hj (Ne.symm hji)) hy h1
      have hfree' : ∀ k ok, ops[k]? = some ok → k ≠ i → (listed.setIfInBounds j true).getD k true = false →
          (∀ e ∈ ok.after, Region.binds .any e = true → e.on ≠ i) → oi.apart ops ok = true := fun k ok hk hki hun hno => by
        refine hfree k ok hk hki ?_ hno
        by_cases hjk : j = k
        · subst hjk; exact hjun
        · rw [getD_set_ne true hjk] at hun; exact hun
      refine opE_mono (fun a' w' _ h3 => ih (listed.setIfInBounds j true) a' w' (hc.set hj) hfree' (ready_mono hr (Ne.symm hji)) h3.1 ?_) h2
      rw [Array.setIfInBounds_comm _ _ hji]
      exact h3.2

theorem anyE_segX {l : List Oper} {R : Act → World → Prop} (hsel : ∀ (j : Nat) (o : Oper) cs b, l.toArray[j]? = some o → o.op ≠ .select cs b) (f : Nat) {R' : Act → Prop} {w : World} {listed' : Array Bool} (hR : ∀ a', R' a' → ClosedL l.toArray listed' → anyE P l.toArray (needF l.toArray) R f listed' a' w) :
    ∀ (is : List Nat) (listed : Array Bool) (a : Act), seg0 P l.toArray is listed = some listed' → ClosedL l.toArray listed → wpList P l.toArray (strict fun a' w' => w' = w ∧ R' a') (pickL l is) a w → anyE P l.toArray (needF l.toArray) R (is.length + f) listed a w
  | [], listed, a, hs, hc, h => by
    simp only [seg0, Option.some.injEq] at hs
    subst hs
    simp only [List.length_nil, Nat.zero_add]
    exact hR a h.2.2 hc
  | i :: is, listed, a, hs, hc, h => by
    unfold seg0 at hs
    split at hs
    · rename_i hb
      obtain ⟨o, ho, hp, hr', hf⟩ := okB_spec hb
      have hn : nthL l i = some o := by rw [nthL_eq]; simpa using ho
      have hpick : pickL l (i :: is) = o :: pickL l is := by simp only [pickL, hn]
      rw [hpick] at h
      have hall : (pickL l is).all (quietB P) = true := by
        clear h hpick
        have : ∀ (is : List Nat) (listed : Array Bool), seg0 P l.toArray is listed = some listed' → (pickL l is).all (quietB P) = true := by
          intro is
          induction is with
          | nil => intro _ _; rfl
          | cons j js ih =>
            intro listed hs
            unfold seg0 at hs
            split at hs
            · rename_i hb
              obtain ⟨oj, hj, hpj, _, _⟩ := okB_spec hb
              have hnj : nthL l j = some oj := by rw [nthL_eq]; simpa using hj
              simp only [pickL, hnj, List.all_cons, Bool.and_eq_true]
              exact ⟨by simp [quietB, hpj], ih _ hs⟩
            · cases hs
        exact this is _ hs
      have hlen : (i :: is).length + f = (is.length + f) + 1 := by simp; omega
      rw [hlen]
      unfold wpList at h
      split at h
      · rename_i hw
        rcases h with h | h
        · have hq : quietB P o = true := by simp [quietB, hp]
          obtain ⟨v, w2, hrun, hg, hk⟩ := pure_wp hq (strict_panic _) h
          have hg2 := pure_list_grew (fun a w h => h.1) _ _ _ hall hk
          have : w2 = w := hg2.antisymm hg
          subst this
          cases hfr : freeB o with
          | true =>
            have hy : YX P l.toArray (fun _ _ => True) o v a w2 := .inl ⟨hw, fun w' _ => (free_run hfr hrun).2 w'⟩
            exact anyE_firstX (fun _ => trivial) (fun _ _ _ _ _ => trivial) ho hsel (fun _ _ _ _ _ _ _ _ _ => trivial) _ listed a w2 hc (Region.free_spec ho hf) hr' hy (anyE_segX hsel f hR is _ _ hs (hc.set hr') hk)
          | false =>
            obtain ⟨s, hsb, hsr⟩ := stab_gives (ρ := a.eval) hp
            have hst : s.run P w2 = .ok v w2 := by
              rw [hsr] at hrun
              cases hx : s.run P w2 with
              | halt x w1 => rw [hx] at hrun; cases hrun
              | ok u w1 =>
                rw [hx] at hrun
                simp only [Result.andThen, Result.ok.injEq, Next.value.injEq] at hrun
                rw [hrun.1, hrun.2]
            have hy : YX P l.toArray Ext o v a w2 := .inl ⟨hw, fun w' hx => by rw [hsr, hsb.st _ _ hst _ hx]; rfl⟩
            exact anyE_firstX Ext.refl (fun _ _ _ h1 h2 => h1.trans h2) ho hsel (fun listed j hc hi hj hne w w' h => h (needF_of_ready hc ho hfr hi hj hne)) _ listed a w2 hc (Region.free_spec ho hf) hr' hy (anyE_segX hsel f hR is _ _ hs (hc.set hr') hk)
        · exact (strict_out _ h.2).elim
      · rename_i hw
        have hy : YX P l.toArray (fun _ _ => True) o undef a w := .inr ⟨by simpa using hw, rfl⟩
        exact anyE_firstX (fun _ => trivial) (fun _ _ _ _ _ => trivial) ho hsel (fun _ _ _ _ _ _ _ _ _ => trivial) _ listed a w hc (Region.free_spec ho hf) hr' hy (anyE_segX hsel f hR is _ _ hs (hc.set hr') h)
    · cases hs
end

/-- The orders: quiet operations in a row; one operation that alone may come; two, or three, of which each may come first ('true': it keeps what was there). -/
inductive Ord where
  | done
  | q (is : List Nat) (r : Ord)
  | one (x : Bool) (i : Nat) (r : Ord)
  | two (x : Bool) (i : Nat) (r : Ord) (y : Bool) (j : Nat) (s : Ord)
  | three (x : Bool) (i : Nat) (r : Ord) (y : Bool) (j : Nat) (s : Ord) (z : Bool) (k : Nat) (t : Ord)

section
variable {P : Program} {ops : Array Oper}
def walkT (P : Program) (l : List Oper) (R : Act → World → Prop) : Ord → Act → World → Prop
  | .done, a, w => R a w
  | .q is r, a, w => wpList P l.toArray (strict fun a' w' => w' = w ∧ walkT P l R r a' w) (pickL l is) a w
  | .one x i r, a, w => wpList P l.toArray (strict fun a' w' => (x = true → Ext w w') ∧ walkT P l R r a' w') (pickL l [i]) a w
  | .two x i r y j s, a, w => wpList P l.toArray (strict fun a' w' => (x = true → Ext w w') ∧ walkT P l R r a' w') (pickL l [i]) a w ∧
      wpList P l.toArray (strict fun a' w' => (y = true → Ext w w') ∧ walkT P l R s a' w') (pickL l [j]) a w
  | .three x i r y j s z k t, a, w => wpList P l.toArray (strict fun a' w' => (x = true → Ext w w') ∧ walkT P l R r a' w') (pickL l [i]) a w ∧
      wpList P l.toArray (strict fun a' w' => (y = true → Ext w w') ∧ walkT P l R s a' w') (pickL l [j]) a w ∧
      wpList P l.toArray (strict fun a' w' => (z = true → Ext w w') ∧ walkT P l R t a' w') (pickL l [k]) a w
theorem walkT_done {l : List Oper} {R : Act → World → Prop} {a : Act} {w : World} (h : R a w) : walkT P l R .done a w := h
theorem walkT_q {l : List Oper} {R : Act → World → Prop} {is : List Nat} {r : Ord} {a : Act} {w : World} (h : wpList P l.toArray (strict fun a' w' => w' = w ∧ walkT P l R r a' w) (pickL l is) a w) : walkT P l R (.q is r) a w := h
theorem walkT_one {l : List Oper} {R : Act → World → Prop} {i : Nat} {r : Ord} {a : Act} {w : World} (h : wpList P l.toArray (strict fun a' w' => walkT P l R r a' w') (pickL l [i]) a w) : walkT P l R (.one false i r) a w := by
  unfold walkT
  simpa using h
theorem walkT_oneX {l : List Oper} {R : Act → World → Prop} {i : Nat} {r : Ord} {a : Act} {w : World} (h : wpList P l.toArray (strict fun a' w' => Ext w w' ∧ walkT P l R r a' w') (pickL l [i]) a w) : walkT P l R (.one true i r) a w := by
  unfold walkT
  simpa using h
theorem walkT_two {l : List Oper} {R : Act → World → Prop} {x y : Bool} {i j : Nat} {r s : Ord} {a : Act} {w : World} (h : walkT P l R (.one x i r) a w) (h' : walkT P l R (.one y j s) a w) : walkT P l R (.two x i r y j s) a w := ⟨h, h'⟩
theorem walkT_three {l : List Oper} {R : Act → World → Prop} {x y z : Bool} {i j k : Nat} {r s t : Ord} {a : Act} {w : World} (h : walkT P l R (.one x i r) a w) (h' : walkT P l R (.one y j s) a w) (h'' : walkT P l R (.one z k t) a w) : walkT P l R (.three x i r y j s z k t) a w := ⟨h, h', h''⟩

def orderT (P : Program) (ops : Array Oper) : Ord → Array Bool → Bool
  | .done, listed => (Region.ready .any ops listed).isEmpty
  | .q is r, listed => match seg0 P ops is listed with | some listed' => orderT P ops r listed' | none => false
  | .one x i r, listed => Region.ready .any ops listed == [i] && (x || !needF ops i) && orderT P ops r (listed.setIfInBounds i true)
  | .two x i r y j s, listed => Region.ready .any ops listed == [i, j] && (x || !needF ops i) && (y || !needF ops j) && orderT P ops r (listed.setIfInBounds i true) && orderT P ops s (listed.setIfInBounds j true)
  | .three x i r y j s z k t, listed => Region.ready .any ops listed == [i, j, k] && (x || !needF ops i) && (y || !needF ops j) && (z || !needF ops k) && orderT P ops r (listed.setIfInBounds i true) && orderT P ops s (listed.setIfInBounds j true) && orderT P ops t (listed.setIfInBounds k true)
def countT : Ord → Nat
  | .done => 0
  | .q is r => is.length + countT r
  | .one _ _ r => countT r + 1
  | .two _ _ r _ _ _ => countT r + 1
  | .three _ _ r _ _ _ _ _ _ => countT r + 1
/-- each branch has as many -/
def evenT : Ord → Bool
  | .done => true
  | .q _ r => evenT r
  | .one _ _ r => evenT r
  | .two _ _ r _ _ s => evenT r && evenT s && countT r == countT s
  | .three _ _ r _ _ s _ _ t => evenT r && evenT s && evenT t && countT r == countT s && countT r == countT t

theorem opE_of_pick {l : List Oper} {R R' : Act → World → Prop} {x : Bool} {i : Nat} {a : Act} {w : World} {listed : Array Bool} (hi : i ∈ Region.ready .any l.toArray listed) (hx : (x || !needF l.toArray i) = true)
    (hR : ∀ a' w', R' a' w' → R a' w') (h : wpList P l.toArray (strict fun a' w' => (x = true → Ext w w') ∧ R' a' w') (pickL l [i]) a w) : opE P l.toArray (needF l.toArray) i R a w := by
  obtain ⟨_, o, ho, _⟩ := mem_ready.1 hi
  have hnt : nthL l i = some o := by rw [nthL_eq]; simpa using ho
  have hpick : pickL l [i] = [o] := by simp only [pickL, hnt]
  rw [hpick] at h
  refine opE_of_list ho (fun a' w' hk => ⟨fun hn => ?_, hR _ _ hk.2⟩) h
  cases x with
  | true => exact hk.1 rfl
  | false => rw [hn] at hx; cases hx

theorem anyE_of_walkT {l : List Oper} {R : Act → World → Prop} (hsel : ∀ (j : Nat) (o : Oper) cs b, l.toArray[j]? = some o → o.op ≠ .select cs b) :
    ∀ (t : Ord) (listed : Array Bool) (a : Act) (w : World), orderT P l.toArray t listed = true → evenT t = true → ClosedL l.toArray listed → walkT P l R t a w → anyE P l.toArray (needF l.toArray) R (countT t) listed a w
  | .done, listed, a, w, hB, he, hc, h => by
    simp only [orderT, List.isEmpty_iff] at hB
    exact ⟨hB, h⟩
  | .q is r, listed, a, w, hB, he, hc, h => by
    simp only [orderT] at hB
    split at hB
    · rename_i listed' hs
      exact anyE_segX (R' := fun a' => walkT P l R r a' w) hsel _ (fun a' h' hc' => anyE_of_walkT hsel r listed' a' w hB he hc' h') is listed a hs hc h
    · cases hB
  | .one x i r, listed, a, w, hB, he, hc, h => by
    simp only [orderT, Bool.and_eq_true, beq_iff_eq] at hB
    obtain ⟨⟨hr, hn⟩, hB⟩ := hB
    refine ⟨fun h0 => (by rw [hr] at h0; cases h0), fun j hj => ?_⟩
    have hi : i ∈ Region.ready .any l.toArray listed := by rw [hr]; simp
    rw [hr] at hj
    simp only [List.mem_cons, List.not_mem_nil, or_false] at hj
    subst hj
    exact opE_of_pick hi hn (fun a' w' hk => anyE_of_walkT hsel r _ a' w' hB he (hc.set hi) hk) h
  | .two x i r y j s, listed, a, w, hB, he, hc, h => by
    simp only [orderT, Bool.and_eq_true, beq_iff_eq] at hB
    obtain ⟨⟨⟨⟨hr, hn⟩, hn'⟩, hB⟩, hB'⟩ := hB
    simp only [evenT, Bool.and_eq_true, beq_iff_eq] at he
    obtain ⟨⟨he1, he2⟩, hcc⟩ := he
    obtain ⟨h1, h2⟩ := h
    refine ⟨fun h0 => (by rw [hr] at h0; cases h0), fun m hm => ?_⟩
    have hi : i ∈ Region.ready .any l.toArray listed := by rw [hr]; simp
    have hj : j ∈ Region.ready .any l.toArray listed := by rw [hr]; simp
    rw [hr] at hm
    simp only [List.mem_cons, List.not_mem_nil, or_false] at hm
    rcases hm with rfl | rfl
    · exact opE_of_pick hi hn (fun a' w' hk => anyE_of_walkT hsel r _ a' w' hB he1 (hc.set hi) hk) h1
    · have := opE_of_pick hj hn' (fun a' w' hk => anyE_of_walkT hsel s _ a' w' hB' he2 (hc.set hj) hk) h2
      rw [← hcc] at this
      exact this
  | .three x i r y j s z k t, listed, a, w, hB, he, hc, h => by
    simp only [orderT, Bool.and_eq_true, beq_iff_eq] at hB
    obtain ⟨⟨⟨⟨⟨⟨hr, hn⟩, hn'⟩, hn''⟩, hB⟩, hB'⟩, hB''⟩ := hB
    simp only [evenT, Bool.and_eq_true, beq_iff_eq] at he
    obtain ⟨⟨⟨⟨he1, he2⟩, he3⟩, hcc⟩, hcc'⟩ := he
    obtain ⟨h1, h2, h3⟩ := h
    refine ⟨fun h0 => (by rw [hr] at h0; cases h0), fun m hm => ?_⟩
    have hi : i ∈ Region.ready .any l.toArray listed := by rw [hr]; simp
    have hj : j ∈ Region.ready .any l.toArray listed := by rw [hr]; simp
    have hk : k ∈ Region.ready .any l.toArray listed := by rw [hr]; simp
    rw [hr] at hm
    simp only [List.mem_cons, List.not_mem_nil, or_false] at hm
    rcases hm with rfl | rfl | rfl
    · exact opE_of_pick hi hn (fun a' w' hk => anyE_of_walkT hsel r _ a' w' hB he1 (hc.set hi) hk) h1
    · have := opE_of_pick hj hn' (fun a' w' hk => anyE_of_walkT hsel s _ a' w' hB' he2 (hc.set hj) hk) h2
      rw [← hcc] at this
      exact this
    · have := opE_of_pick hk hn'' (fun a' w' hx => anyE_of_walkT hsel t _ a' w' hB'' he3 (hc.set hk) hx) h3
      rw [← hcc'] at this
      exact this

def orderTAll (P : Program) (l : List Oper) (t : Ord) : Bool :=
  Region.noSelect l.toArray && orderT P l.toArray t (Array.replicate l.toArray.size false) && countT t == l.toArray.size && evenT t

/-- **T3**: a region that draws its order, with calls: walked along the tree 't'. -/
theorem wp_tree {id : Nat} {l : List Oper} {Q : Exit → Act → World → Prop} {a : Act} {w : World} (t : Ord) (hm : P.follows .mixedOrders = true) (hB : orderTAll P l t = true)
    (h : walkT P l (fun a' w' => Q .normal a' w') t a w.drew) : (Code.region id l.toArray true).wp P Q a w := by
  simp only [orderTAll, Bool.and_eq_true, beq_iff_eq] at hB
  obtain ⟨⟨⟨hs, hB⟩, hn⟩, he⟩ := hB
  have hc : ClosedL l.toArray (Array.replicate l.toArray.size false) := by
    intro j hj
    rw [getD_replicate_false] at hj
    cases hj
  have hE := anyE_of_walkT (R := fun a' w' => Q .normal a' w') (Region.noSelect_spec hs) t _ a _ hB he hc h
  rw [hn] at hE
  exact wp_region_any hm (wpAny_of_anyE (R := fun a' w' => Q .normal a' w') (fun _ _ h => h) _ _ _ _ hE)
end
end Go.Proofs.YtpbanfkjeiihbaaDoor
