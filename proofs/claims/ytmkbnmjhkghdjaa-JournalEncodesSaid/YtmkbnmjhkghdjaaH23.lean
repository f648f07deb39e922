/- The abstract machine: calls that are handed less than is known. -/
import Derived.Test.YtmkbnmjhkghdjaaH22
set_option linter.unusedVariables false
set_option linter.unusedSimpArgs false
namespace Go.Proofs.Ytmkbnmjhkghdjaa
open Go.RowKit

section
variable (hp : Nat → Option AO)
/-- Data told: of data, or of a row that nobody writes. -/
def TdD (y : DV) (x : AV) : Prop :=
  match x with
  | .d z => y = z ∨ y = nrm z
  | .sl r off n _ => match hp r with
    | some (.data _ s cs false) => y = .dl ((cs.drop off).take (n * s)) n none ∨ y = nrm (.dl ((cs.drop off).take (n * s)) n none)
    | _ => False
  | _ => False
mutual
def TdV : AV → AV → Prop
  | .d y, x => TdD hp y x
  | .ptr r o, x => x = .ptr r o
  | .sl r o n c, x => x = .sl r o n c
  | .dptr cs o, x => x = .dptr cs o
  | .agg ys, x => ∃ xs, x = .agg xs ∧ TdL ys xs
  | .tup ys, x => ∃ xs, x = .tup xs ∧ TdL ys xs
  | .clo f ys, x => ∃ xs, x = .clo f xs ∧ TdL ys xs
  | .undef, x => x = .undef
  | .ab, x => x = .ab
  | .junk, _ => True
def TdL : List AV → List AV → Prop
  | [], xs => xs = []
  | y :: ys, xs => ∃ x xs', xs = x :: xs' ∧ TdV y x ∧ TdL ys xs'
end
end
section
variable {hp : Nat → Option AO} {GL : Nat → Option (List DV)} {E : En}
theorem told_d (hs : SimH GL E) (hh : ∀ r o, hp r = some o → E.hp r = some o) {y : DV} {x : AV} {v : Value} (h : TdD hp y x) (hr : Rel E x v) : Rel E (.d y) v := by
  unfold TdD at h
  split at h
  · rename_i z
    rw [Rel] at hr ⊢
    rcases h with rfl | rfl
    · exact hr
    · exact relD_nrm _ _ hr
  · rename_i r off n c
    split at h
    · rename_i e s cs ho
      have ho' := hh r _ ho
      have key : RelD E.h E.X (.dl ((cs.drop off).take (n * s)) n none) v := by
        rw [Rel, ho'] at hr
        rw [RelD]
        rcases hr with ⟨rfl, hc2, _, A, rfl⟩ | ⟨b, z, c0, g1, rfl, g3, g4, g5, g6⟩
        · exact ⟨A, 0, rfl, Nat.le_refl _, Nat.zero_le _, fun k hk => (by cases hk), .inl (by simp)⟩
        · refine ⟨_, c0, rfl, g3, g4, fun k hk => (by cases hk), ?_⟩
          rcases hs.ob r _ ho' with ⟨q1, _⟩ | ⟨b', cur, q1, q2, q3, q4, q5⟩
          · rw [q1] at g1; cases g1
          · have hbb : b = b' := by rw [q1] at g1; cases g1; rfl
            subst hbb
            simp only [Bool.false_eq_true, if_false] at q4
            have := relC_take (n * s) _ _ _ (relC_drop off _ _ _ q3)
            rw [Nat.zero_add] at this
            exact .inr ⟨b, off, rfl, q4, this⟩
      rw [Rel]
      rcases h with rfl | rfl
      · exact key
      · exact relD_nrm _ _ key
    · exact h.elim
  · exact h.elim
mutual
theorem rel_told (hs : SimH GL E) (hh : ∀ r o, hp r = some o → E.hp r = some o) : ∀ (y x : AV) (v : Value), TdV hp y x → Rel E x v → Rel E y v
  | .d y, x, v, h, hr => by rw [TdV] at h; exact told_d hs hh h hr
  | .ptr r o, x, v, h, hr => by rw [TdV] at h; subst h; exact hr
  | .sl r o n c, x, v, h, hr => by rw [TdV] at h; subst h; exact hr
  | .dptr cs o, x, v, h, hr => by rw [TdV] at h; subst h; exact hr
  | .agg ys, x, v, h, hr => by
    rw [TdV] at h
    obtain ⟨xs, rfl, h⟩ := h
    rw [Rel] at hr ⊢
    obtain ⟨vs, g1, g2⟩ := hr
    exact ⟨vs, g1, relL_told hs hh ys xs _ h g2⟩
  | .tup ys, x, v, h, hr => by
    rw [TdV] at h
    obtain ⟨xs, rfl, h⟩ := h
    rw [Rel] at hr ⊢
    obtain ⟨vs, g1, g2⟩ := hr
    exact ⟨vs, g1, relL_told hs hh ys xs _ h g2⟩
  | .clo f ys, x, v, h, hr => by
    rw [TdV] at h
    obtain ⟨xs, rfl, h⟩ := h
    rw [Rel] at hr ⊢
    obtain ⟨vs, g1, g2⟩ := hr
    exact ⟨vs, g1, relL_told hs hh ys xs _ h g2⟩
  | .undef, x, v, h, hr => by rw [TdV] at h; subst h; exact hr
  | .ab, x, v, h, hr => by rw [TdV] at h; subst h; exact hr
  | .junk, x, v, _, _ => by rw [Rel]; trivial
theorem relL_told (hs : SimH GL E) (hh : ∀ r o, hp r = some o → E.hp r = some o) : ∀ (ys xs : List AV) (vs : List Value), TdL hp ys xs → RelL E xs vs → RelL E ys vs
  | [], xs, vs, h, hr => by rw [TdL] at h; subst h; exact hr
  | y :: ys, xs, vs, h, hr => by
    rw [TdL] at h
    obtain ⟨x, xs', rfl, h1, h2⟩ := h
    rw [RelL] at hr ⊢
    obtain ⟨v, vs', rfl, k1, k2⟩ := hr
    exact ⟨v, vs', rfl, rel_told hs hh y x v h1 k1, relL_told hs hh ys xs' vs' h2 k2⟩
end
/-- Rows as they are, no longer to be written. -/
def FzOk (rds : List Nat) (hp : Nat → Option AO) : List (Nat × AO) → Prop
  | [] => True
  | (r, o) :: l => r ∈ rds ∧ (∃ e s cs wr, hp r = some (.data e s cs wr) ∧ o = .data e s cs false) ∧ FzOk rds hp l
theorem fz_mem {rds : List Nat} : ∀ {F : List (Nat × AO)}, FzOk rds hp F → ∀ r o, (r, o) ∈ F → r ∈ rds ∧ ∃ e s cs wr, hp r = some (.data e s cs wr) ∧ o = .data e s cs false
  | [], _, r, o, h => by cases h
  | (r', o') :: l, h, r, o, hm => by
    rcases List.mem_cons.1 hm with e | hm
    · cases e; exact ⟨h.1, h.2.1⟩
    · exact fz_mem h.2.2 r o hm
theorem fz_frz {rds : List Nat} {F : List (Nat × AO)} (h : FzOk rds hp F) (hr : ∀ r ∈ rds, E.hp r = hp r) : FrzOk E.hp F := fun r o hm => by
  obtain ⟨h1, e, s, cs, wr, h2, h3⟩ := fz_mem h r o hm
  exact ⟨e, s, cs, wr, by rw [hr r h1]; exact h2, h3⟩
variable {P : Program}
/-- **Rows that are handed over as data, and stay data.** -/
theorem does_freeze {f : FuncId} {args args' : List AV} {rds : List Nat} {v : AV} {us F : List (Nat × AO)} (h : Does P GL f args' rds v us (updF hp F)) (hF : FzOk rds hp F) (ht : TdL (lookF F) args' args) : Does P GL f args rds v (us ++ F) hp := fun E w vs hrd hw hs hrel => by
  have g := frz_goes hw hs (fz_frz hF hrd)
  refine (h (frz E F) w vs (fun r hr => ?_) hw g.sim (relL_told g.sim (fun r o ho => ?_) args' args _ ht (RelL.ext g.ext _ _ hrel))).mono ?_
  · show updF E.hp F r = updF hp F r
    unfold updF
    rw [hrd r hr]
  · show updF E.hp F r = some o
    have ho' : look r F = some o := ho
    unfold updF
    rw [ho']
  · rintro e w' ⟨u, E', rfl, h1, h2⟩
    exact ⟨u, E', rfl, g.trans h1, h2⟩
/-- **Data told in another way.** -/
theorem does_told {f : FuncId} {args args' : List AV} {rds : List Nat} {v : AV} {us : List (Nat × AO)} (h : Does P GL f args' rds v us hp) (ht : TdL (fun _ => none) args' args) : Does P GL f args rds v us hp := fun E w vs hrd hw hs hrel =>
  h E w vs hrd hw hs (relL_told hs (fun r o ho => by cases ho) args' args _ ht hrel)
mutual
/-- No address at all. -/
def AV.flat : AV → Bool
  | .d (.val _) => true
  | .d (.dl [] _ _) => true
  | .agg cs => flatL cs
  | .tup cs => flatL cs
  | .undef => true
  | .ab => true
  | _ => false
def flatL : List AV → Bool
  | [] => true
  | x :: xs => x.flat && flatL xs
end
mutual
theorem rel_flat {E E' : En} : ∀ (x : AV) (v : Value), x.flat = true → Rel E x v → Rel E' x v
  | .d (.val z), v, _, hr => by rw [Rel, RelD] at hr ⊢; exact hr
  | .d (.dl [] n c), v, _, hr => by
    rw [Rel, RelD] at hr ⊢
    obtain ⟨A, c', g1, g2, g3, g4, _⟩ := hr
    exact ⟨A, c', g1, g2, g3, g4, .inl rfl⟩
  | .d (.dl (x :: xs) n c), v, h, _ => by rw [AV.flat] at h; cases h; all_goals simp
  | .ptr r o, v, h, _ => by rw [AV.flat] at h; cases h; all_goals simp
  | .sl r o n c, v, h, _ => by rw [AV.flat] at h; cases h; all_goals simp
  | .dptr cells off, v, h, _ => by rw [AV.flat] at h; cases h; all_goals simp
  | .agg cs, v, h, hr => by
    rw [AV.flat] at h
    rw [Rel] at hr ⊢
    obtain ⟨vs, g1, g2⟩ := hr
    exact ⟨vs, g1, relL_flat cs _ h g2⟩
  | .tup cs, v, h, hr => by
    rw [AV.flat] at h
    rw [Rel] at hr ⊢
    obtain ⟨vs, g1, g2⟩ := hr
    exact ⟨vs, g1, relL_flat cs _ h g2⟩
  | .clo f cs, v, h, _ => by rw [AV.flat] at h; cases h; all_goals simp
  | .undef, v, _, hr => by rw [Rel] at hr ⊢; exact hr
  | .ab, v, _, hr => by rw [Rel] at hr ⊢; exact hr
  | .junk, v, h, _ => by rw [Rel]; trivial
theorem relL_flat {E E' : En} : ∀ (xs : List AV) (vs : List Value), flatL xs = true → RelL E xs vs → RelL E' xs vs
  | [], vs, _, hr => by rw [RelL] at hr ⊢; exact hr
  | x :: xs, vs, h, hr => by
    rw [flatL, Bool.and_eq_true] at h
    rw [RelL] at hr ⊢
    obtain ⟨v, vs', rfl, g1, g2⟩ := hr
    exact ⟨v, vs', rfl, rel_flat x v h.1 g1, relL_flat xs vs' h.2 g2⟩
end
/-- **Rows that are lent as data** to a call that gives back nothing with an address. -/
theorem does_lend {f : FuncId} {args args' : List AV} {rds : List Nat} {v : AV} {F : List (Nat × AO)} (h : DoesO P GL f args' [] v []) (hv : v.flat = true) (hF : FzOk rds hp F) (ht : TdL (lookF F) args' args) (hra : AV.refs.refsL args' = []) : Does P GL f args rds v [] hp := fun E w vs hrd hw hs hrel => by
  have g := frz_goes hw hs (fz_frz hF hrd)
  have r1 := relL_told g.sim (fun r o (ho : look r F = some o) => (show updF E.hp F r = some o by unfold updF; rw [ho])) args' args _ ht (RelL.ext g.ext _ _ hrel)
  have hemp : ∀ r o, look r ([] : List (Nat × AO)) = some o → (frz E F).hp r = some o := fun r o ho => by cases ho
  refine (h (restE (frz E F) []) w vs rfl hw (rest_sim hemp (fun r o ho => by cases ho) g.sim) (relL_refs (E := frz E F) (E' := restE (frz E F) []) rfl rfl args' _ (fun r hr => by rw [hra] at hr; cases hr) r1)).mono ?_
  rintro e w' ⟨u, E2, rfl, h1, h2, h3, h4, h5, h6⟩
  have hnm : ∀ k, ¬ MutB (restE (frz E F) []) k := fun k ⟨r, o, z, ho, _⟩ => by cases ho
  have hblk : ∀ k, k < w.heap.size → w'.heap[k]? = w.heap[k]? := fun k hk => h5.blk k hk (hnm k)
  let E' : En := { E with X := fun k => E.X k ∨ (w.heap.size ≤ k ∧ E2.X k), h := E2.h }
  have hsub : Sub E.h E.X E'.h E'.X := fun b o u hx hc => by
    have hb := cellH_lt hc
    rw [← hw] at hb
    refine ⟨fun hx' => ?_, ?_⟩
    · rcases hx' with hx' | hx'
      · exact hx hx'
      · omega
    · show cellH E2.h b o = some u
      rw [← h1, cellH_of (hblk b hb), hw]
      exact hc
  have hex : Ext E E' := ⟨hsub, fun r o ho => ⟨o, ho, o.like_refl, .inr rfl⟩⟩
  have hlt : ∀ r o b z, E.hp r = some o → o ≠ .dead → E.m r = some (b, z) → b < w.heap.size := fun r o b z he hd hb => by
    rw [hw]
    have := hs.ob r o he
    cases o with
    | dead => exact (hd rfl).elim
    | mix cs => obtain ⟨b', cur', t', g1, g2, _⟩ := this; rw [hb] at g1; cases g1; exact (Array.getElem?_eq_some_iff.1 g2).1
    | data e s cs wr =>
      rcases this with ⟨g1, _⟩ | ⟨b', cur', g1, g2, _⟩
      · rw [hb] at g1; cases g1
      · rw [hb] at g1; cases g1; exact (Array.getElem?_eq_some_iff.1 g2).1
  refine ⟨u, E', rfl, ⟨h1, rfl, hex, ⟨fun r o ho => ?_, hs.inj, fun g' cells hg => ?_⟩, ⟨h5.os, h5.tape, h5.output, h5.size, fun k hk _ => hblk k hk, fun k hk => .inl hk, fun k hk => ?_, fun k _ hx _ => .inl hx⟩⟩, rel_flat _ _ hv h6⟩
  · by_cases hd : o = .dead
    · subst hd; exact trivial
    · refine ObjR.ext hex (hs.ob r o ho) (.inr rfl) (fun b z hb => ?_) (fun b z hb => ?_)
      · show E2.h[b]? = E.h[b]?
        rw [← h1, ← hw]
        exact hblk b (hlt r o b z ho hd hb)
      · have := hlt r o b z ho hd hb
        exact ⟨fun h => h.elim id (fun h => by omega), .inl⟩
  · rcases hs.gl g' cells hg with k | ⟨k1, k2⟩
    · exact .inl k
    · exact relC_keep (E := E) (E' := E') hsub cells g' 0 k1 k2
  · rcases hk with hk | hk
    · exact .inl hk
    · exact .inr hk.1
/-- A nil slice as a row without elements. -/
def NlL (r : Nat) : List AV → List AV → Prop
  | [], xs => xs = []
  | y :: ys, xs => ∃ x xs', xs = x :: xs' ∧ (x = y ∨ (y = .sl r 0 0 none ∧ x = .d (.val (.slice none 0 0)))) ∧ NlL r ys xs'
theorem does_nil {f : FuncId} {args args' : List AV} {rds : List Nat} {v : AV} {us : List (Nat × AO)} (r e s : Nat) (h : Does P GL f args' rds v us (updF hp [(r, .data e s [] true)])) (hr : r ∈ rds ∧ hp r = none) (ht : NlL r args' args) : Does P GL f args rds v (us ++ [(r, .data e s [] true)]) hp := fun E w vs hrd hw hs hrel => by
  have hE : E.hp r = none := by rw [hrd r hr.1]; exact hr.2
  let E1 : En := { m := fun k => if k = r then none else E.m k, hp := updF E.hp [(r, .data e s [] true)], X := E.X, h := E.h }
  have hne : ∀ k o, E.hp k = some o → k ≠ r := fun k o h0 h1 => by subst h1; rw [hE] at h0; cases h0
  have hup : ∀ k, k ≠ r → E1.hp k = E.hp k ∧ E1.m k = E.m k := fun k hk => by
    have hk' : ¬ r = k := fun h => hk h.symm
    refine ⟨?_, if_neg hk⟩
    show updF E.hp [(r, .data e s [] true)] k = E.hp k
    simp only [updF, look, if_neg hk']
  have hself : E1.hp r = some (.data e s [] true) ∧ E1.m r = none := ⟨by show updF E.hp [(r, .data e s [] true)] r = _; simp [updF, look], if_pos rfl⟩
  have hex : Ext E E1 := ⟨Sub.refl _ _, fun k o ho => ⟨o, (hup k (hne k o ho)).1.trans ho, o.like_refl, .inr (hup k (hne k o ho)).2⟩⟩
  have hmt : ∀ k o b z, E1.hp k = some o → E1.m k = some (b, z) → E.hp k = some o ∧ E.m k = some (b, z) := fun k o b z h0 h1 => by
    by_cases hk : k = r
    · subst hk; rw [hself.2] at h1; cases h1
    · rw [(hup k hk).1] at h0; rw [(hup k hk).2] at h1; exact ⟨h0, h1⟩
  have g : Goes GL E w [(r, .data e s [] true)] E1 w := by
    refine ⟨hw, rfl, hex, ⟨fun k o ho => ?_, fun k k' o o' b z z' a1 a2 a3 a4 a5 a6 => ?_, hs.gl⟩, ⟨rfl, rfl, rfl, Nat.le_refl _, fun _ _ _ => rfl, fun k ⟨r', o, z, a1, a2, a3⟩ => ?_, fun k hk => .inl hk, fun k _ hx _ => hx⟩⟩
    · by_cases hk : k = r
      · subst hk
        rw [hself.1] at ho; cases ho
        exact .inl ⟨hself.2, rfl⟩
      · rw [(hup k hk).1] at ho
        exact ObjR.ext hex (hs.ob k o ho) (.inr (hup k hk).2) (fun _ _ _ => rfl) (fun _ _ _ => Iff.rfl)
    · obtain ⟨b1, b2⟩ := hmt k o b z a1 a5
      obtain ⟨b3, b4⟩ := hmt k' o' b z' a2 a6
      exact hs.inj k k' o o' b z z' b1 b3 a3 a4 b2 b4
    · obtain ⟨b1, b2⟩ := hmt r' o k z a1 a3
      exact .inl ⟨r', o, z, b1, a2, b2⟩
  have nl : ∀ (ys xs : List AV) (l : List Value), NlL r ys xs → RelL E xs l → RelL E1 ys l := by
    intro ys
    induction ys with
    | nil => intro xs l h1 h2; rw [NlL] at h1; subst h1; rw [RelL] at h2 ⊢; exact h2
    | cons y ys ih =>
      intro xs l h1 h2
      rw [NlL] at h1
      obtain ⟨x, xs', rfl, h3, h4⟩ := h1
      rw [RelL] at h2 ⊢
      obtain ⟨u, l', rfl, k1, k2⟩ := h2
      refine ⟨u, l', rfl, ?_, ih xs' l' h4 k2⟩
      rcases h3 with rfl | ⟨rfl, rfl⟩
      · exact Rel.ext hex _ _ k1
      · have hu := rel_val k1
        rw [Rel, hself.1]
        exact .inl ⟨rfl, .inl rfl, fun _ _ b z hb => (by rw [hself.2] at hb; cases hb), none, hu⟩
  refine (h E1 w vs (fun k hk => ?_) hw g.sim (nl _ _ _ ht hrel)).mono ?_
  · show updF E.hp _ k = updF hp _ k
    unfold updF
    rw [hrd k hk]
  · rintro e' w' ⟨u, E', rfl, h1, h2⟩
    exact ⟨u, E', rfl, g.trans h1, h2⟩
end
end Go.Proofs.Ytmkbnmjhkghdjaa
