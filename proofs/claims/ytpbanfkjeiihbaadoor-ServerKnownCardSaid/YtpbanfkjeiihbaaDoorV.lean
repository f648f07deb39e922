/- Regions that draw their order: one walk in a fixed order serves every order (the theorems). -/
import Derived.Test.YtpbanfkjeiihbaaDoorW
import Derived.StillTail
import Derived.Tactics
set_option linter.unusedVariables false
set_option linter.unusedSimpArgs false
namespace Go.Proofs.YtpbanfkjeiihbaaDoor
open Go.RowKit

section
variable {P : Program} {ops : Array Oper}

def quietB (P : Program) (o : Oper) : Bool := pureB P o || stabB P o
theorem quiet_gives {ρ : Operand → Value} {o : Oper} (h : quietB P o = true) : GivesValue P (execOp ρ o) := by
  unfold quietB at h
  simp only [Bool.or_eq_true] at h
  rcases h with h | h
  · exact pure_gives h
  · obtain ⟨s, hs, hr⟩ := stab_gives (ρ := ρ) h
    exact ⟨s, hs.nw, hr⟩

/-- What a quiet operation's wp says. -/
theorem pure_wp {o : Oper} {a : Act} {w : World} {K : Act → World → Prop} {Q : Exit → Act → World → Prop} (hp : quietB P o = true) (hQ : ∀ c a w, ¬ Q (.panic c) a w) (h : o.wp P a w K Q) :
    ∃ v w', (execOp a.eval o).run P w = .ok (.value v) w' ∧ Grew w w' ∧ K (a.put o.dst v) w' := by
  obtain ⟨s, hs, hr⟩ := quiet_gives (ρ := a.eval) hp
  unfold Oper.wp at h
  rw [hr w] at h ⊢
  cases hx : s.run P w with
  | halt x w1 =>
    rw [hx] at h
    simp only [Result.andThen] at h
    cases x <;> simp only [Oper.upon] at h
    exact (hQ _ _ _ h).elim
  | ok v w1 =>
    rw [hx] at h
    exact ⟨v, w1, rfl, NW.run s w w1 v hs hx, h⟩

def strict (R : Act → World → Prop) : Exit → Act → World → Prop := fun x a w => x = .normal ∧ R a w
theorem strict_panic (R : Act → World → Prop) : ∀ c a w, ¬ strict R (.panic c) a w := fun _ _ _ h => by cases h.1
theorem strict_out (R : Act → World → Prop) : ¬ LetsOut (strict R) := fun ⟨_, _, h⟩ => by cases h.1

/-- A list of quiet operations, walked from w1, ends in a world that grew. -/
theorem pure_list_grew {R : Act → World → Prop} {W : World} (hR : ∀ a w, R a w → w = W) : ∀ (l : List Oper) (a : Act) (w1 : World), l.all (quietB P) = true → wpList P ops (strict R) l a w1 → Grew w1 W
  | [], a, w1, _, h => by have := hR _ _ h.2; subst this; exact Grew.refl _
  | o :: l, a, w1, hp, h => by
    simp only [List.all_cons, Bool.and_eq_true] at hp
    unfold wpList at h
    split at h
    · rcases h with h | h
      · obtain ⟨v, w2, _, hg, hk⟩ := pure_wp hp.1 (strict_panic R) h
        exact hg.trans (pure_list_grew hR l _ _ hp.2 hk)
      · exact (strict_out R h.2).elim
    · exact pure_list_grew hR l _ _ hp.2 h

theorem still_of_list {R : Act → Prop} {W : World} : ∀ (l : List Oper) (a : Act), l.all (quietB P) = true → wpList P ops (strict fun a' w' => w' = W ∧ R a') l a W → wpStill P ops W R l a
  | [], a, _, h => h.2.2
  | o :: l, a, hp, h => by
    simp only [List.all_cons, Bool.and_eq_true] at hp
    unfold wpList at h
    unfold wpStill
    split at h
    · rename_i hw
      rw [if_pos hw]
      rcases h with h | h
      · obtain ⟨v, w2, hr, hg, hk⟩ := pure_wp hp.1 (strict_panic _) h
        have hg2 := pure_list_grew (fun a w h => h.1) l _ _ hp.2 hk
        have : w2 = W := hg2.antisymm hg
        subst this
        unfold Oper.still
        rw [hr]
        exact ⟨rfl, still_of_list l _ hp.2 hk⟩
      · exact (strict_out _ h.2).elim
    · rename_i hw
      rw [if_neg hw]
      exact still_of_list l _ hp.2 h

/-- **T1**: a region that draws its order and whose operations neither write nor call: it is walked in the order of the text. -/
theorem wp_undraw {id : Nat} {l : List Oper} {Q : Exit → Act → World → Prop} {a : Act} {w : World} (hm : P.follows .mixedOrders = true) (hB : Region.lexB .any l.toArray = true) (hp : l.all (quietB P) = true)
    (h : wpList P l.toArray (strict fun a' w' => w' = w.drew ∧ Q .normal a' w.drew) l a w.drew) : (Code.region id l.toArray true).wp P Q a w :=
  wp_region_still_lit hm hB (still_of_list (R := fun a' => Q .normal a' w.drew) l a hp h)

/-! ### regions with calls -/
/-- One operation, carried out; what it leaves keeps what was there (where 'need'). -/
def stepE (P : Program) (need : Bool) (o : Oper) (a : Act) (w : World) (K : Act → World → Prop) : Prop :=
  match (execOp a.eval o).run P w with
  | .ok (.value v) w' => (need = true → Ext w w') ∧ K (a.put o.dst v) w'
  | .ok .skip w' => (need = true → Ext w w') ∧ K (a.put o.dst undef) w'
  | .ok (.defer d) w' => (need = true → Ext w w') ∧ K ({ a with defers := d :: a.defers }.put o.dst undef) w'
  | .ok (.enter f args) w' => Calls P f args w' fun e w'' => ∃ v, e = .returned v ∧ (need = true → Ext w w'') ∧ K (a.put o.dst v) w''
  | .ok (.row row args) w' => Rows P row args w' fun v w'' => (need = true → Ext w w'') ∧ K (a.put o.dst v) w''
  | _ => False
def opE (P : Program) (ops : Array Oper) (need : Nat → Bool) (i : Nat) (K : Act → World → Prop) (a : Act) (w : World) : Prop :=
  match ops[i]? with
  | none => K a w
  | some o => if Region.wanted o (yielded ops a.tmps) then stepE P (need i) o a w K else K (a.put o.dst undef) w
def anyE (P : Program) (ops : Array Oper) (need : Nat → Bool) (R : Act → World → Prop) : Nat → Array Bool → Act → World → Prop
  | 0, listed, a, w => Region.ready .any ops listed = [] ∧ R a w
  | f + 1, listed, a, w => (Region.ready .any ops listed = [] → R a w) ∧ ∀ i ∈ Region.ready .any ops listed, opE P ops need i (anyE P ops need R f (listed.setIfInBounds i true)) a w

theorem stepE_mono {need : Bool} {o : Oper} {a : Act} {w : World} {K K' : Act → World → Prop} (h : ∀ a' w', (need = true → Ext w w') → K a' w' → K' a' w') (hh : stepE P need o a w K) : stepE P need o a w K' := by
  unfold stepE at *
  generalize (execOp a.eval o).run P w = r at *
  cases r with
  | halt x w' => exact hh
  | ok n w' =>
    cases n <;> first | exact hh.elim | skip
    case value v => exact ⟨hh.1, h _ _ hh.1 hh.2⟩
    case skip => exact ⟨hh.1, h _ _ hh.1 hh.2⟩
    case defer d => exact ⟨hh.1, h _ _ hh.1 hh.2⟩
    case row r args => exact hh.mono fun v w'' ⟨hx, hk⟩ => ⟨hx, h _ _ hx hk⟩
    case enter f args => exact hh.mono fun e w'' ⟨v, he, hx, hk⟩ => ⟨v, he, hx, h _ _ hx hk⟩
theorem opE_mono {need : Nat → Bool} {i : Nat} {a : Act} {w : World} {K K' : Act → World → Prop} (h : ∀ a' w', (need i = true → Ext w w') → K a' w' → K' a' w') (hh : opE P ops need i K a w) : opE P ops need i K' a w := by
  unfold opE at *
  split
  · rename_i ho; simp only [ho] at hh; exact h _ _ (fun _ => Ext.refl _) hh
  · rename_i o ho
    simp only [ho] at hh
    split
    · rename_i hw; simp only [hw, if_true] at hh; exact stepE_mono h hh
    · rename_i hw; simp only [hw] at hh; exact h _ _ (fun _ => Ext.refl _) hh
theorem wp_of_stepE {need : Bool} {o : Oper} {a : Act} {w : World} {K : Act → World → Prop} {Q : Exit → Act → World → Prop} (h : stepE P need o a w K) : o.wp P a w K Q := by
  unfold stepE at h
  unfold Oper.wp
  generalize (execOp a.eval o).run P w = r at *
  cases r with
  | halt x w' => exact h.elim
  | ok n w' =>
    cases n <;> first | exact h.elim | skip
    case value v => exact h.2
    case skip => exact h.2
    case defer d => exact h.2
    case row r args => exact h.mono fun v w'' ⟨_, hk⟩ => hk
    case enter f args => exact h.mono fun e w'' ⟨v, he, _, hk⟩ => by subst he; exact hk
theorem wpAny_of_anyE {need : Nat → Bool} {R : Act → World → Prop} {Q : Exit → Act → World → Prop} (hQ : ∀ a w, R a w → Q .normal a w) : ∀ (f : Nat) (listed : Array Bool) (a : Act) (w : World), anyE P ops need R f listed a w → wpAny P .any ops Q f listed a w
  | 0, _, _, _, h => ⟨h.1, hQ _ _ h.2⟩
  | f + 1, listed, a, w, h => by
    refine ⟨fun h0 => hQ _ _ (h.1 h0), fun i hi => ?_⟩
    have h1 := opE_mono (K' := wpAny P .any ops Q f (listed.setIfInBounds i true)) (fun a' w' _ hk => wpAny_of_anyE hQ f _ a' w' hk) (h.2 i hi)
    unfold opE at h1
    unfold wpOp
    split
    · rename_i ho; simp only [ho] at h1; exact h1
    · rename_i o ho
      simp only [ho] at h1
      split
      · rename_i hw; simp only [hw, if_true] at h1; exact .inl (wp_of_stepE h1)
      · rename_i hw; simp only [hw] at h1; exact h1

/-- In this state, now and in each later world, the operation gives v. -/
def YE (P : Program) (ops : Array Oper) (o : Oper) (v : Value) (a : Act) (w : World) : Prop :=
  (Region.wanted o (yielded ops a.tmps) = true ∧ ∀ w', Ext w w' → (execOp a.eval o).run P w' = .ok (.value v) w') ∨ (Region.wanted o (yielded ops a.tmps) = false ∧ v = undef)
theorem YE.opE {need : Nat → Bool} {i : Nat} {o : Oper} {v : Value} {a : Act} {w : World} (hi : ops[i]? = some o) (hy : YE P ops o v a w) {K : Act → World → Prop} (h : K (a.put o.dst v) w) : opE P ops need i K a w := by
  unfold Go.Proofs.YtpbanfkjeiihbaaDoor.opE
  simp only [hi]
  rcases hy with ⟨hw, hv⟩ | ⟨hw, rfl⟩
  · simp only [hw, if_true]
    unfold stepE
    rw [hv w (Ext.refl _)]
    exact ⟨fun _ => Ext.refl _, h⟩
  · simp only [hw, Bool.false_eq_true, if_false]; exact h
theorem YE.of_same {o : Oper} {v : Value} {a a' : Act} {w w' : World} (hy : YE P ops o v a w) (hx : Ext w w') (he : execOp a'.eval o = execOp a.eval o)
    (hw : Region.wanted o (yielded ops a'.tmps) = Region.wanted o (yielded ops a.tmps)) : YE P ops o v a' w' := by
  unfold YE at *
  rw [he, hw]
  rcases hy with ⟨h1, h2⟩ | h
  · exact .inl ⟨h1, fun w'' h3 => h2 w'' (hx.trans h3)⟩
  · exact .inr h

theorem opE_put {need : Nat → Bool} {j : Nat} {oi oj : Oper} {v : Value} (hj : ops[j]? = some oj) (hap : oi.apart ops oj = true)
    (hsi : ∀ cs b, oi.op ≠ .select cs b) (hsj : ∀ cs b, oj.op ≠ .select cs b) (hn : need j = true) {K : Act → World → Prop} {a : Act} {w : World}
    (hy : YE P ops oi v a w) (h : opE P ops need j K (a.put oi.dst v) w) :
    opE P ops need j (fun a' w' => YE P ops oi v a' w' ∧ K (a'.put oi.dst v) w') a w := by
  obtain ⟨h1, h2, h3⟩ := Oper.apart_spec hap
  have keep : ∀ (w' : World), Ext w w' → ∀ u, YE P ops oi v (a.put oj.dst u) w' := fun w' hx u =>
    hy.of_same hx (execOp_put oi hsi a oj.dst u h3) (wanted_put oi a oj.dst u h3)
  unfold opE at *
  simp only [hj] at *
  rw [wanted_put oj a oi.dst v h1] at h
  split
  · rename_i hw
    simp only [hw, if_true] at h
    unfold stepE at h ⊢
    rw [execOp_put oj hsj a oi.dst v h1] at h
    generalize (execOp a.eval oj).run P w = r at *
    cases r with
    | halt x w' => exact h.elim
    | ok n w' =>
      cases n <;> first | exact h.elim | skip
      case value u => exact ⟨h.1, keep _ (h.1 hn) u, by rw [← Act.put_comm a v u h2]; exact h.2⟩
      case skip => exact ⟨h.1, keep _ (h.1 hn) undef, by rw [← Act.put_comm a v undef h2]; exact h.2⟩
      case defer d =>
        have h4 : K ({ (a.put oi.dst v) with defers := d :: (a.put oi.dst v).defers }.put oj.dst undef) w' := h.2
        rw [Act.put_defers, Act.put_comm _ v undef h2] at h4
        refine ⟨h.1, ?_, h4⟩
        have h3' := keep _ (h.1 hn) undef
        exact h3'.of_same (Ext.refl _) (by cases oj.dst <;> rfl) (by cases oj.dst <;> rfl)
      case row r args => exact h.mono fun u w'' ⟨hx, hk⟩ => ⟨hx, keep _ (hx hn) u, by rw [← Act.put_comm a v u h2]; exact hk⟩
      case enter f args => exact h.mono fun e w'' ⟨u, he, hx, hk⟩ => ⟨u, he, hx, keep _ (hx hn) u, by rw [← Act.put_comm a v u h2]; exact hk⟩
  · rename_i hw
    simp only [hw] at h
    exact ⟨keep _ (Ext.refl _) _, by rw [← Act.put_comm a v undef h2]; exact h⟩

/-! ancestors -/
def parentsB (ops : Array Oper) (j : Nat) : List Nat := match ops[j]? with | some o => (o.after.toList.filter (Region.binds .any)).map (·.on) | none => []
def ancB (ops : Array Oper) : Nat → Nat → Nat → Bool
  | 0, _, _ => false
  | f + 1, i, j => (parentsB ops j).any fun p => p == i || ancB ops f i p
def ClosedL (ops : Array Oper) (listed : Array Bool) : Prop := ∀ j, listed.getD j false = true → ∀ p ∈ parentsB ops j, listed.getD p false = true
theorem ready_parents {listed : Array Bool} {j : Nat} (h : j ∈ Region.ready .any ops listed) : ∀ p ∈ parentsB ops j, listed.getD p false = true := by
  obtain ⟨_, oj, hoj, hall⟩ := mem_ready.1 h
  intro p hp
  unfold parentsB at hp
  rw [hoj] at hp
  obtain ⟨e, he, rfl⟩ := List.mem_map.1 hp
  obtain ⟨he1, he2⟩ := List.mem_filter.1 he
  exact hall e (by simpa using he1) he2
theorem anc_listed {listed : Array Bool} (hc : ClosedL ops listed) : ∀ (f i j : Nat), (∀ p ∈ parentsB ops j, listed.getD p false = true) → ancB ops f i j = true → listed.getD i false = true
  | 0, i, j, _, h => by simp [ancB] at h
  | f + 1, i, j, hp, h => by
    unfold ancB at h
    obtain ⟨p, hpm, h⟩ := List.any_eq_true.1 h
    simp only [Bool.or_eq_true, beq_iff_eq] at h
    rcases h with rfl | h
    · exact hp p hpm
    · exact anc_listed hc f i p (hc p (hp p hpm)) h
/-- Must the operation keep what was there? Where another one may come before it or behind it. -/
def needB (ops : Array Oper) (j : Nat) : Bool := (List.range ops.size).any fun i => i != j && !ancB ops ops.size i j && !ancB ops ops.size j i
theorem need_of_ready {listed : Array Bool} (hc : ClosedL ops listed) {i j : Nat} (hi : i ∈ Region.ready .any ops listed) (hj : j ∈ Region.ready .any ops listed) (hne : i ≠ j) : needB ops j = true := by
  unfold needB
  have hlt : ∀ {k}, k ∈ Region.ready .any ops listed → k < ops.size := fun hk => by
    obtain ⟨_, ok, hok, _⟩ := mem_ready.1 hk
    exact (Array.getElem?_eq_some_iff.1 hok).1
  have hun : ∀ {k}, k ∈ Region.ready .any ops listed → listed.getD k false = false := fun {k} hk => by
    have := (mem_ready.1 hk).1
    rcases Nat.lt_or_ge k listed.size with h' | h'
    · simp [h'] at this ⊢; exact this
    · simp [Array.getElem?_eq_none h']
  refine List.any_eq_true.2 ⟨i, List.mem_range.2 (hlt hi), ?_⟩
  have h1 : ancB ops ops.size i j = false := by
    cases h : ancB ops ops.size i j with
    | false => rfl
    | true => have := anc_listed hc _ _ _ (ready_parents hj) h; rw [hun hi] at this; cases this
  have h2 : ancB ops ops.size j i = false := by
    cases h : ancB ops ops.size j i with
    | false => rfl
    | true => have := anc_listed hc _ _ _ (ready_parents hi) h; rw [hun hj] at this; cases this
  simp [hne, h1, h2]
theorem getD_set_cases {listed : Array Bool} {i j : Nat} (h : (listed.setIfInBounds i true).getD j false = true) : i = j ∨ listed.getD j false = true := by
  by_cases hij : i = j
  · exact .inl hij
  · rw [getD_set_ne false hij] at h; exact .inr h
theorem ClosedL.set {listed : Array Bool} (hc : ClosedL ops listed) {i : Nat} (hi : i ∈ Region.ready .any ops listed) : ClosedL ops (listed.setIfInBounds i true) := by
  intro j hj p hp
  rcases getD_set_cases hj with rfl | hj
  · exact getD_set_true (ready_parents hi p hp)
  · exact getD_set_true (hc j hj p hp)

/-- **An operation that may come up now may be taken first**, if what it gives it gives in each later world too. -/
theorem anyE_first {R : Act → World → Prop} {i : Nat} {oi : Oper} {v : Value} (hi : ops[i]? = some oi) (hsel : ∀ (j : Nat) (o : Oper) cs b, ops[j]? = some o → o.op ≠ .select cs b) :
    ∀ (f : Nat) (listed : Array Bool) (a : Act) (w : World), ClosedL ops listed →
      (∀ j oj, ops[j]? = some oj → j ≠ i → listed.getD j true = false → (∀ e ∈ oj.after, Region.binds .any e = true → e.on ≠ i) → oi.apart ops oj = true) →
      i ∈ Region.ready .any ops listed → YE P ops oi v a w →
      anyE P ops (needB ops) R f (listed.setIfInBounds i true) (a.put oi.dst v) w → anyE P ops (needB ops) R (f + 1) listed a w := by
  intro f
  induction f with
  | zero =>
    intro listed a w hc _ hr hy H
    refine ⟨fun h => (by rw [h] at hr; cases hr), fun j hj => ?_⟩
    by_cases hji : j = i
    · subst hji; exact hy.opE hi H
    · have := ready_mono hj hji
      rw [H.1] at this
      cases this
  | succ f ih =>
    intro listed a w hc hfree hr hy H
    refine ⟨fun h => (by rw [h] at hr; cases hr), fun j hj => ?_⟩
    by_cases hji : j = i
    · subst hji; exact hy.opE hi H
    · have h1 := H.2 j (ready_mono hj hji)
      obtain ⟨hjun, oj, hoj, hall⟩ := mem_ready.1 hj
      have hnot : ∀ e ∈ oj.after, Region.binds .any e = true → e.on ≠ i := fun e he hb heq => by
        have h1 := hall e he hb
        have h0 := (mem_ready.1 hr).1
        rw [heq] at h1
        rcases Nat.lt_or_ge i listed.size with h' | h'
        · simp [h'] at h0 h1; rw [h0] at h1; cases h1
        · simp [Array.getElem?_eq_none h'] at h1
      have hneed := need_of_ready hc hr hj (Ne.symm hji)
      have h2 := opE_put hoj (hfree j oj hoj hji hjun hnot) (fun cs b => hsel i oi cs b hi) (fun cs b => hsel j oj cs b hoj) hneed hy h1
      have hfree' : ∀ k ok, ops[k]? = some ok → k ≠ i → (listed.setIfInBounds j true).getD k true = false →
          (∀ e ∈ ok.after, Region.binds .any e = true → e.on ≠ i) → oi.apart ops ok = true := fun k ok hk hki hun hno => by
        refine hfree k ok hk hki ?_ hno
        by_cases hjk : j = k
        · subst hjk; exact hjun
        · rw [getD_set_ne true hjk] at hun; exact hun
      refine opE_mono (fun a' w' _ h3 => ih (listed.setIfInBounds j true) a' w' (hc.set hj) hfree' (ready_mono hr (Ne.symm hji)) h3.1 ?_) h2
      rw [Array.setIfInBounds_comm _ _ hji]
      exact h3.2

/-! ### the order in which it is walked -/
def nthL : List Oper → Nat → Option Oper
  | [], _ => none
  | o :: _, 0 => some o
  | _ :: l, n + 1 => nthL l n
theorem nthL_eq : ∀ (l : List Oper) (n : Nat), nthL l n = l[n]?
  | [], n => by simp [nthL]
  | o :: l, 0 => by simp [nthL]
  | o :: l, n + 1 => by simp [nthL, nthL_eq l n]
def pickL (l : List Oper) : List Nat → List Oper
  | [] => []
  | i :: is => match nthL l i with | some o => o :: pickL l is | none => pickL l is
def walkE (P : Program) (l : List Oper) (R : Act → World → Prop) : List (Nat × List Nat) → Act → World → Prop
  | [], a, w => R a w
  | (0, is) :: rest, a, w => wpList P l.toArray (strict fun a' w' => w' = w ∧ walkE P l R rest a' w) (pickL l is) a w
  | (1, is) :: rest, a, w => wpList P l.toArray (strict fun a' w' => Ext w w' ∧ walkE P l R rest a' w') (pickL l is) a w
  | (_ + 2, is) :: rest, a, w => wpList P l.toArray (strict fun a' w' => walkE P l R rest a' w') (pickL l is) a w
theorem walk0 {l : List Oper} {R : Act → World → Prop} {is : List Nat} {rest : List (Nat × List Nat)} {a : Act} {w : World} (h : wpList P l.toArray (strict fun a' w' => w' = w ∧ walkE P l R rest a' w) (pickL l is) a w) : walkE P l R ((0, is) :: rest) a w := h
theorem walk1 {l : List Oper} {R : Act → World → Prop} {is : List Nat} {rest : List (Nat × List Nat)} {a : Act} {w : World} (h : wpList P l.toArray (strict fun a' w' => Ext w w' ∧ walkE P l R rest a' w') (pickL l is) a w) : walkE P l R ((1, is) :: rest) a w := h
theorem walk2 {l : List Oper} {R : Act → World → Prop} {is : List Nat} {rest : List (Nat × List Nat)} {a : Act} {w : World} (h : wpList P l.toArray (strict fun a' w' => walkE P l R rest a' w') (pickL l is) a w) : walkE P l R ((2, is) :: rest) a w := h
theorem walk_nil {l : List Oper} {R : Act → World → Prop} {a : Act} {w : World} (h : R a w) : walkE P l R [] a w := h

def okB (P : Program) (ops : Array Oper) (i : Nat) (listed : Array Bool) : Bool :=
  (match ops[i]? with | some o => stabB P o | none => false) && (Region.ready .any ops listed).contains i && Region.free .any ops listed i
theorem okB_spec {P : Program} {ops : Array Oper} {i : Nat} {listed : Array Bool} (h : okB P ops i listed = true) : ∃ o, ops[i]? = some o ∧ stabB P o = true ∧ i ∈ Region.ready .any ops listed ∧ Region.free .any ops listed i = true := by
  unfold okB at h
  simp only [Bool.and_eq_true] at h
  obtain ⟨⟨hp, hr⟩, hf⟩ := h
  cases ho : ops[i]? with
  | none => rw [ho] at hp; cases hp
  | some o => rw [ho] at hp; exact ⟨o, rfl, hp, by simpa using hr, hf⟩
def seg0 (P : Program) (ops : Array Oper) : List Nat → Array Bool → Option (Array Bool)
  | [], listed => some listed
  | i :: is, listed =>
    if okB P ops i listed then seg0 P ops is (listed.setIfInBounds i true) else none
def orderB (P : Program) (ops : Array Oper) : List (Nat × List Nat) → Array Bool → Bool
  | [], listed => (Region.ready .any ops listed).isEmpty
  | (0, is) :: rest, listed => match seg0 P ops is listed with | some listed' => orderB P ops rest listed' | none => false
  | (k + 1, [i]) :: rest, listed => Region.ready .any ops listed == [i] && (k == 0 || !needB ops i) && orderB P ops rest (listed.setIfInBounds i true)
  | _ :: _, _ => false
def countB (segs : List (Nat × List Nat)) : Nat := (segs.map fun s => s.2.length).sum

theorem stepE_of_wp {need : Bool} {o : Oper} {a : Act} {w : World} {R R' : Act → World → Prop} {K : Act → World → Prop} (hR : ∀ a' w', K a' w' → (need = true → Ext w w') ∧ R a' w') (h : o.wp P a w K (strict R')) : stepE P need o a w R := by
  unfold Oper.wp at h
  unfold stepE
  generalize (execOp a.eval o).run P w = r at *
  cases r with
  | halt x w' => cases x <;> simp only [Oper.upon] at h; exact (strict_panic _ _ _ _ h).elim
  | ok n w' =>
    cases n <;> simp only [Oper.upon] at h
    case value v => exact hR _ _ h
    case skip => exact hR _ _ h
    case defer d => exact hR _ _ h
    case row r args => exact h.mono fun v w'' hk => hR _ _ hk
    case enter f args =>
      refine h.mono fun e w'' hk => ?_
      cases e with
      | returned v => exact ⟨v, rfl, hR _ _ hk⟩
      | panicked c => exact (strict_panic _ _ _ _ hk).elim
      | outgrown => exact (strict_out _ hk).elim

theorem opE_of_list {l : List Oper} {need : Nat → Bool} {i : Nat} {o : Oper} {a : Act} {w : World} {R R' : Act → World → Prop} (ho : l.toArray[i]? = some o) (hR : ∀ a' w', R' a' w' → (need i = true → Ext w w') ∧ R a' w')
    (h : wpList P l.toArray (strict R') [o] a w) : opE P l.toArray need i R a w := by
  unfold opE
  simp only [ho]
  unfold wpList at h
  split
  · rename_i hw
    rw [if_pos hw] at h
    rcases h with h | h
    · exact stepE_of_wp (fun a' w' hk => hR _ _ hk.2) h
    · exact (strict_out _ h.2).elim
  · rename_i hw
    rw [if_neg hw] at h
    exact (hR _ _ h.2).2

theorem anyE_seg0 {l : List Oper} {R : Act → World → Prop} (hsel : ∀ (j : Nat) (o : Oper) cs b, l.toArray[j]? = some o → o.op ≠ .select cs b) (f : Nat) {R' : Act → Prop} {w : World} {listed' : Array Bool} (hR : ∀ a', R' a' → ClosedL l.toArray listed' → anyE P l.toArray (needB l.toArray) R f listed' a' w) :
    ∀ (is : List Nat) (listed : Array Bool) (a : Act), seg0 P l.toArray is listed = some listed' → ClosedL l.toArray listed → wpList P l.toArray (strict fun a' w' => w' = w ∧ R' a') (pickL l is) a w → anyE P l.toArray (needB l.toArray) R (is.length + f) listed a w
  | [], listed, a, hs, hc, h => by
    simp only [seg0, Option.some.injEq] at hs
    subst hs
    simp only [List.length_nil, Nat.zero_add]
    exact hR a h.2.2 hc
  | i :: is, listed, a, hs, hc, h => by
    unfold seg0 at hs
    split at hs
    · rename_i hb
      obtain ⟨o, ho, hp, hr', hf⟩ := okB_spec hb
      ·
        have hn : nthL l i = some o := by rw [nthL_eq]; simpa using ho
        have hpick : pickL l (i :: is) = o :: pickL l is := by simp only [pickL, hn]
        rw [hpick] at h
        have hall : (pickL l is).all (quietB P) = true := by
          clear h hpick
          have : ∀ (is : List Nat) (listed : Array Bool), seg0 P l.toArray is listed = some listed' → (pickL l is).all (quietB P) = true := by
            intro is
            induction is with
            | nil => intro _ _; rfl
            | cons j js ih =>
              intro listed hs
              unfold seg0 at hs
              split at hs
              · rename_i hb
                obtain ⟨oj, hj, hpj, _, _⟩ := okB_spec hb
                have hnj : nthL l j = some oj := by rw [nthL_eq]; simpa using hj
                simp only [pickL, hnj, List.all_cons, Bool.and_eq_true]
                exact ⟨by simp [quietB, hpj], ih _ hs⟩
              · cases hs
          exact this is _ hs
        have hlen : (i :: is).length + f = (is.length + f) + 1 := by simp; omega
        rw [hlen]
        unfold wpList at h
        split at h
        · rename_i hw
          rcases h with h | h
          · have hq : quietB P o = true := by simp [quietB, hp]
            obtain ⟨v, w2, hrun, hg, hk⟩ := pure_wp hq (strict_panic _) h
            have hg2 := pure_list_grew (fun a w h => h.1) _ _ _ hall hk
            have : w2 = w := hg2.antisymm hg
            subst this
            obtain ⟨s, hsb, hsr⟩ := stab_gives (ρ := a.eval) hp
            have hst : s.run P w2 = .ok v w2 := by
              rw [hsr] at hrun
              cases hx : s.run P w2 with
              | halt x w1 => rw [hx] at hrun; cases hrun
              | ok u w1 =>
                rw [hx] at hrun
                simp only [Result.andThen, Result.ok.injEq, Next.value.injEq] at hrun
                rw [hrun.1, hrun.2]
            have hy : YE P l.toArray o v a w2 := .inl ⟨hw, fun w' hx => by rw [hsr, hsb.st _ _ hst _ hx]; rfl⟩
            exact anyE_first ho hsel _ listed a w2 hc (Region.free_spec ho hf) hr' hy (anyE_seg0 hsel f hR is _ _ hs (hc.set hr') hk)
          · exact (strict_out _ h.2).elim
        · rename_i hw
          have hy : YE P l.toArray o undef a w := .inr ⟨by simpa using hw, rfl⟩
          exact anyE_first ho hsel _ listed a w hc (Region.free_spec ho hf) hr' hy (anyE_seg0 hsel f hR is _ _ hs (hc.set hr') h)
    · cases hs

theorem anyE_of_walk {l : List Oper} {R : Act → World → Prop} (hsel : ∀ (j : Nat) (o : Oper) cs b, l.toArray[j]? = some o → o.op ≠ .select cs b) :
    ∀ (segs : List (Nat × List Nat)) (listed : Array Bool) (a : Act) (w : World), orderB P l.toArray segs listed = true → ClosedL l.toArray listed → walkE P l R segs a w → anyE P l.toArray (needB l.toArray) R (countB segs) listed a w
  | [], listed, a, w, hB, hc, h => by
    simp only [orderB, List.isEmpty_iff] at hB
    exact ⟨hB, h⟩
  | (0, is) :: rest, listed, a, w, hB, hc, h => by
    simp only [orderB] at hB
    split at hB
    · rename_i listed' hs
      have e : countB ((0, is) :: rest) = is.length + countB rest := by simp [countB]
      rw [e]
      exact anyE_seg0 (R' := fun a' => walkE P l R rest a' w) hsel _ (fun a' h' hc' => anyE_of_walk hsel rest listed' a' w hB hc' h') is listed a hs hc h
    · cases hB
  | (k + 1, [i]) :: rest, listed, a, w, hB, hc, h => by
    simp only [orderB, Bool.and_eq_true, beq_iff_eq] at hB
    obtain ⟨⟨hr, hn⟩, hB⟩ := hB
    have e : countB ((k + 1, [i]) :: rest) = countB rest + 1 := by simp [countB]; omega
    rw [e]
    refine ⟨fun h0 => (by rw [hr] at h0; cases h0), fun j hj => ?_⟩
    have hi : i ∈ Region.ready .any l.toArray listed := by rw [hr]; simp
    rw [hr] at hj
    simp only [List.mem_cons, List.not_mem_nil, or_false] at hj
    subst hj
    obtain ⟨_, o, ho, _⟩ := mem_ready.1 hi
    have hnt : nthL l j = some o := by rw [nthL_eq]; simpa using ho
    have hpick : pickL l [j] = [o] := by simp only [pickL, hnt]
    cases k with
    | zero =>
      have h' : wpList P l.toArray (strict fun a' w' => Ext w w' ∧ walkE P l R rest a' w') (pickL l [j]) a w := h
      rw [hpick] at h'
      exact opE_of_list ho (fun a' w' hk => ⟨fun _ => hk.1, anyE_of_walk hsel rest _ a' w' hB (hc.set hi) hk.2⟩) h'
    | succ k =>
      have h' : wpList P l.toArray (strict fun a' w' => walkE P l R rest a' w') (pickL l [j]) a w := h
      rw [hpick] at h'
      have hn' : needB l.toArray j = false := by simpa using hn
      exact opE_of_list ho (fun a' w' hk => ⟨fun h0 => (by rw [hn'] at h0; cases h0), anyE_of_walk hsel rest _ a' w' hB (hc.set hi) hk⟩) h'
  | (k + 1, []) :: rest, _, _, _, hB, _, _ => by simp [orderB] at hB
  | (k + 1, _ :: _ :: _) :: rest, _, _, _, hB, _, _ => by simp [orderB] at hB

def orderAll (P : Program) (l : List Oper) (segs : List (Nat × List Nat)) : Bool :=
  Region.noSelect l.toArray && orderB P l.toArray segs (Array.replicate l.toArray.size false) && countB segs == l.toArray.size

/-- **T2**: a region that draws its order, with calls: walked in the order 'segs'. -/
theorem wp_order {id : Nat} {l : List Oper} {Q : Exit → Act → World → Prop} {a : Act} {w : World} (segs : List (Nat × List Nat)) (hm : P.follows .mixedOrders = true) (hB : orderAll P l segs = true)
    (h : walkE P l (fun a' w' => Q .normal a' w') segs a w.drew) : (Code.region id l.toArray true).wp P Q a w := by
  simp only [orderAll, Bool.and_eq_true, beq_iff_eq] at hB
  obtain ⟨⟨hs, hB⟩, hn⟩ := hB
  have hc : ClosedL l.toArray (Array.replicate l.toArray.size false) := by
    intro j hj
    rw [getD_replicate_false] at hj
    cases hj
  have hE := anyE_of_walk (R := fun a' w' => Q .normal a' w') (Region.noSelect_spec hs) segs _ a _ hB hc h
  rw [hn] at hE
  exact wp_region_any hm (wpAny_of_anyE (R := fun a' w' => Q .normal a' w') (fun _ _ h => h) _ _ _ _ hE)
end
end Go.Proofs.YtpbanfkjeiihbaaDoor
