/- The abstract machine: a region, drawn or not; what a piece of code does. -/
import Derived.Test.YtmkbnmjhkghdjaaH16
set_option linter.unusedVariables false
set_option linter.unusedSimpArgs false
namespace Go.Proofs.Ytmkbnmjhkghdjaa
open Go.RowKit

/-- The state has gone on since. -/
structure Along (E0 : En) (w0 : World) (E : En) (w : World) : Prop where
  ext : Ext E0 E
  fr : StepF E0 w0 E w
theorem Along.refl (E : En) (w : World) : Along E w E w := ⟨Ext.refl _, StepF.refl _ _⟩
theorem Along.goes {GL : Nat → Option (List DV)} {E0 E E' : En} {w0 w w' : World} {us : List (Nat × AO)} (h : Along E0 w0 E w) (g : Goes GL E w us E' w') : Along E0 w0 E' w' := ⟨h.ext.trans g.ext, h.fr.trans g.fr⟩
theorem Along.drew {E0 E : En} {w0 w : World} (h : Along E0 w0 E w) : Along E0 w0 E { w with drawn := w.drawn + 1 } := ⟨h.ext, ⟨h.fr.os, h.fr.tape, h.fr.output, h.fr.size, h.fr.blk, h.fr.mb, h.fr.xs, h.fr.xk⟩⟩
theorem Sim.drew {GL : Nat → Option (List DV)} {N : Nat} {E : En} {a : Act} {w : World} {s : S} (h : Sim GL N E a w s) : Sim GL N E a { w with drawn := w.drawn + 1 } s := ⟨h.h, h.hp, h.sim, h.n, h.df, h.tm⟩

section
variable {P : Program} {GL : Nat → Option (List DV)} {q : Nat → Bool} {N base : Nat} {ops : Array Oper}
theorem step_wp (hq : QOk P q) (hdp : 30 ≤ P.depth) {E0 : En} {w0 : World} {E : En} {a : Act} {w : World} {s : S} (hS : Sim GL N E a w s) (hA : Along E0 w0 E w) {i : Nat} {e : Ef} (h : StepR P GL q N base ops i s e) {Q : Exit → Act → World → Prop} {K : Act → World → Prop}
    (hK : ∀ E' a' w', Sim GL N E' a' w' (s.app (dstOf ops i) e) → Along E0 w0 E' w' → K a' w') : wpOp P ops Q i K a w := by
  unfold StepR at h
  unfold wpOp
  split at h
  · exact h.elim
  · rename_i o ho
    rw [ho]
    simp only
    have hdi : dstOf ops i = o.dst := by simp [dstOf, ho]
    rw [hdi] at hK
    obtain ⟨hd, ⟨hw, he⟩ | ⟨hw, rfl⟩⟩ := h
    · rw [wanted_sim hS hw, if_pos rfl]
      exact .inl (op_sim hq hdp hS he hd fun a' w' E' hg hs => hK E' a' w' hs (hA.goes hg))
    · rw [wanted_sim hS hw, if_neg (by simp)]
      have := hS.put (Goes.refl hS.h hS.sim) hd (v := .undef) (u := undef) (by rw [Rel])
      refine hK E _ w ?_ hA
      exact this
theorem run_wp (hq : QOk P q) (hdp : 30 ≤ P.depth) {E0 : En} {w0 : World} {Q : Exit → Act → World → Prop} {s' : S} (hQ : ∀ E' a' w', Sim GL N E' a' w' s' → Along E0 w0 E' w' → Q .normal a' w') : ∀ (L : List (Nat × Ef)) (E : En) (a : Act) (w : World) (s : S), Run P GL q N base ops L s s' → Sim GL N E a w s → Along E0 w0 E w → wpOps P ops Q (L.map (·.1)) a w
  | [], E, a, w, s, hR, hS, hA => by
    have : s = s' := hR
    subst this
    exact hQ E a w hS hA
  | (i, e) :: L, E, a, w, s, hR, hS, hA => by
    rw [List.map_cons, wpOps_cons]
    exact step_wp hq hdp hS hA hR.1 fun E' a' w' hs ha => run_wp hq hdp hQ L E' a' w' _ hR.2 hs ha
def backB (ops : Array Oper) : Bool := (List.range ops.size).all fun j => (parentsA ops j).all fun p => decide (p < j)
theorem any_wp (hq : QOk P q) (hdp : 30 ≤ P.depth) (hback : backB ops = true) {E0 : En} {w0 : World} {Q : Exit → Act → World → Prop} {s' : S} (hQ : ∀ E' a' w', Sim GL N E' a' w' s' → Along E0 w0 E' w' → Q .normal a' w') : ∀ (n : Nat) (L : List (Nat × Ef)) (listed : Array Bool) (E : En) (a : Act) (w : World) (s : S), L.length = n →
    ClosedA ops listed → (∀ i, listed.getD i true = false ∧ i < ops.size ↔ i ∈ L.map (·.1)) → (L.map (·.1)).Pairwise (· < ·) →
    L.Pairwise (fun x y => x.1 ∈ (ancT ops ops.size).getD y.1 [] ∨ ∃ ox oy, ops[x.1]? = some ox ∧ ops[y.1]? = some oy ∧ ox.apart ops oy = true ∧ ncB x.2 y.2 = true) →
    Run P GL q N base ops L s s' → Sim GL N E a w s → Along E0 w0 E w → wpAny P .any ops Q n listed a w
  | 0, L, listed, E, a, w, s, hn, hC, hL, hsort, hchk, hR, hS, hA => by
    have : L = [] := List.eq_nil_of_length_eq_zero hn
    subst this
    have hs : s = s' := hR
    subst hs
    refine ⟨?_, hQ E a w hS hA⟩
    cases hr : Region.ready .any ops listed with
    | nil => rfl
    | cons i l =>
      have hi : i ∈ Region.ready .any ops listed := by rw [hr]; exact List.mem_cons_self
      obtain ⟨h1, o, h2, _⟩ := mem_ready.1 hi
      have := (hL i).1 ⟨h1, (Array.getElem?_eq_some_iff.1 h2).1⟩
      simp at this
  | n + 1, L, listed, E, a, w, s, hn, hC, hL, hsort, hchk, hR, hS, hA => by
    have hready : ∀ i, i ∈ Region.ready .any ops listed → i ∈ L.map (·.1) := fun i hi => by
      obtain ⟨h1, o, h2, _⟩ := mem_ready.1 hi
      exact (hL i).1 ⟨h1, (Array.getElem?_eq_some_iff.1 h2).1⟩
    refine ⟨fun h0 => ?_, fun i hi => ?_⟩
    · exfalso
      cases L with
      | nil => simp at hn
      | cons x L =>
        obtain ⟨i, e⟩ := x
        obtain ⟨hun, hlt⟩ := (hL i).2 (by simp)
        have hrd : i ∈ Region.ready .any ops listed := by
          refine mem_ready.2 ⟨hun, ops[i], Array.getElem?_eq_getElem hlt, fun ed hed hb => ?_⟩
          have hp : ed.on ∈ parentsA ops i := by
            unfold parentsA
            rw [Array.getElem?_eq_getElem hlt]
            exact List.mem_map.2 ⟨ed, List.mem_filter.2 ⟨by simpa using hed, hb⟩, rfl⟩
          have hlt2 : ed.on < i := by
            have := List.all_eq_true.1 hback i (List.mem_range.2 hlt)
            have := List.all_eq_true.1 this _ hp
            simpa using this
          cases hg : listed.getD ed.on false with
          | true => rfl
          | false =>
            have hnot : ed.on ∉ List.map (·.1) ((i, e) :: L) := fun hm => by
              rcases List.mem_cons.1 hm with h | h
              · simp at h; omega
              · have := (List.pairwise_cons.1 hsort).1 _ h
                simp at this
                omega
            have h6 : ¬ (listed.getD ed.on true = false ∧ ed.on < ops.size) := fun h => hnot ((hL ed.on).1 h)
            have : listed.getD ed.on true = true := by
              cases h7 : listed.getD ed.on true with
              | true => rfl
              | false => exact (h6 ⟨h7, by omega⟩).elim
            have hsz : ed.on < listed.size := by
              have h8 : i < listed.size := by
                rcases Nat.lt_or_ge i listed.size with h | h
                · exact h
                · rw [Array.getD_eq_getD_getElem?, Array.getElem?_eq_none h] at hun; simp at hun
              omega
            rw [Array.getD_eq_getD_getElem?, Array.getElem?_eq_getElem hsz] at this hg
            simp at this hg
            rw [this] at hg
            cases hg
        rw [h0] at hrd
        cases hrd
    · obtain ⟨⟨i', e⟩, hmem, rfl⟩ := List.mem_map.1 (hready i hi)
      simp only at hi ⊢
      obtain ⟨l1, l2, rfl⟩ := List.append_of_mem hmem
      obtain ⟨_, oi, hoi, _⟩ := mem_ready.1 hi
      have hun : ∀ j, j ∈ (l1 ++ (i', e) :: l2).map (·.1) → listed.getD j false = false := fun j hj => by
        obtain ⟨h1, h2⟩ := (hL j).2 hj
        rcases Nat.lt_or_ge j listed.size with h | h
        · rw [Array.getD_eq_getD_getElem?, Array.getElem?_eq_getElem h] at h1 ⊢
          simpa using h1
        · rw [Array.getD_eq_getD_getElem?, Array.getElem?_eq_none h] at h1; simp at h1
      have hall : ∀ j ej, (j, ej) ∈ l1 → ∃ oj, ops[j]? = some oj ∧ oj.apart ops oi = true ∧ ncB ej e = true := fun j ej hj => by
        have hpw := (List.pairwise_append.1 hchk).2.2 (j, ej) hj (i', e) List.mem_cons_self
        rcases hpw with hanc | ⟨ox, oy, h1, h2, h3, h4⟩
        · have := ancT_listed hC _ _ _ (ready_parentsA hi) hanc
          rw [hun j (List.mem_map.2 ⟨_, List.mem_append_left _ hj, rfl⟩)] at this
          cases this
        · simp only at h1 h2
          rw [hoi] at h2
          cases h2
          exact ⟨ox, h1, h3, h4⟩
      obtain ⟨g1, g2⟩ := bubble hoi l1 l2 s s' hall hR
      refine step_wp hq hdp hS hA g1 fun E' a' w' hs ha => ?_
      refine any_wp hq hdp hback hQ n (l1 ++ l2) _ E' a' w' _ (by simp at hn ⊢; omega) (hC.set hi) (fun j => ?_) ?_ ?_ g2 hs ha
      · have hnd : ∀ k, k ∈ (l1 ++ l2).map (·.1) → k ≠ i' := fun k hk e0 => by
          subst e0
          rw [List.map_append, List.map_cons] at hsort
          rw [List.map_append] at hk
          rcases List.mem_append.1 hk with hk | hk
          · have := (List.pairwise_append.1 hsort).2.2 k hk k List.mem_cons_self
            omega
          · have := (List.pairwise_cons.1 (List.pairwise_append.1 hsort).2.1).1 k hk
            omega
        by_cases hji : i' = j
        · subst hji
          constructor
          · rintro ⟨h1, h2⟩
            have hsz : i' < listed.size := by
              rcases Nat.lt_or_ge i' listed.size with h | h
              · exact h
              · have := (mem_ready.1 hi).1
                rw [Array.getD_eq_getD_getElem?, Array.getElem?_eq_none h] at this; simp at this
            rw [Array.getD_eq_getD_getElem?, Array.getElem?_setIfInBounds_self_of_lt hsz] at h1
            simp at h1
          · intro h; exact (hnd _ h rfl).elim
        · rw [getD_set_ne true hji]
          rw [hL j]
          simp only [List.map_append, List.map_cons, List.mem_append, List.mem_cons]
          constructor
          · rintro (h | h | h)
            · exact .inl h
            · exact (hji h.symm).elim
            · exact .inr h
          · rintro (h | h)
            · exact .inl h
            · exact .inr (.inr h)
      · rw [List.map_append] at hsort ⊢
        rw [List.map_cons] at hsort
        obtain ⟨p1, p2, p3⟩ := List.pairwise_append.1 hsort
        exact List.pairwise_append.2 ⟨p1, (List.pairwise_cons.1 p2).2, fun x hx y hy => p3 x hx y (List.mem_cons_of_mem _ hy)⟩
      · obtain ⟨p1, p2, p3⟩ := List.pairwise_append.1 hchk
        exact List.pairwise_append.2 ⟨p1, (List.pairwise_cons.1 p2).2, fun x hx y hy => p3 x hx y (List.mem_cons_of_mem _ hy)⟩
end
end Go.Proofs.Ytmkbnmjhkghdjaa
