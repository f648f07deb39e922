import Derived.Test.YtkmfgldoljegoaaN1p
import Derived.Test.YtkmfgldoljegoaaZ3p
import Derived.Test.YtkmfgldoljegoaaP4p
set_option linter.unusedVariables false
set_option linter.unusedSimpArgs false
set_option maxRecDepth 100000
set_option maxHeartbeats 4000000
namespace Go.Proofs.Ytkmfgldoljegoaa
open Go.RowKit
theorem iter_inv {α : Type} {f : α → Option α} (I : α → Prop) (h : ∀ w w', I w → f w = some w' → I w') : ∀ n w, I w → I (iter f n w) := by
  intro n
  induction n with
  | zero => intro w hw; exact hw
  | succ n ih =>
    intro w hw
    unfold iter
    cases hf : f w with
    | none => exact hw
    | some w' => exact ih w' (h w w' hw hf)
def ng (l : List Ac) : Nat := l.countP (fun a => decide (a.1 = 3 ∨ a.1 = 4))
theorem ng_snoc (l : List Ac) (a : Ac) : ng (l ++ [a]) = ng l + if a.1 = 3 ∨ a.1 = 4 then 1 else 0 := by
  unfold ng
  rw [List.countP_append, List.countP_cons, List.countP_nil]
  by_cases h : a.1 = 3 ∨ a.1 = 4 <;> simp [h]
structure PW (mo mw ri re : Int) (n0 c0 : Nat) (w : Wk) : Prop where
  p1 : w.2.2.1 = mo
  p2 : w.2.2.2.1 = mw
  p3 : w.2.2.2.2.1 = ri
  p4 : w.2.2.2.2.2.1 = re
  pl : w.1.length ≤ n0
  pc : w.1.length + ng w.2.2.2.2.2.2.2 = c0
section
variable {mo mw ri re : Int} {n0 c0 : Nat}
theorem mstep_par {w w' : Wk} (h : PW mo mw ri re n0 c0 w) (e : mstep w = some w') : PW mo mw ri re n0 c0 w' ∧ w'.2.2.2.2.2.2.1 = w.2.2.2.2.2.2.1 := by
  obtain ⟨cs, ss, m0, m1, m2, m3, now, acts⟩ := w
  obtain ⟨h1, h2, h3, h4, h5, h6⟩ := h
  simp only at h1 h2 h3 h4 h5 h6
  unfold mstep at e
  simp only at e
  split at e
  · cases e
    refine ⟨⟨h1, h2, h3, h4, ?_, ?_⟩, rfl⟩
    · show (setC _ _ _).length ≤ n0; rw [setC_len]; exact h5
    · show (setC _ _ _).length + ng (acts ++ [_]) = c0
      rw [setC_len, ng_snoc, if_neg (by simp)]; exact h6
  · cases e
theorem matchM_par {T : Int} {w : Wk} (h : PW mo mw ri re n0 c0 w) : PW mo mw ri re n0 c0 (matchM T w) ∧ (matchM T w).2.2.2.2.2.2.1 = w.2.2.2.2.2.2.1 :=
  iter_inv (f := mstep) (fun x => PW mo mw ri re n0 c0 x ∧ x.2.2.2.2.2.2.1 = w.2.2.2.2.2.2.1) (fun x y hx e => by
    have := mstep_par hx.1 e
    exact ⟨this.1, this.2.trans hx.2⟩) _ w ⟨h, rfl⟩
end
def SB (B : Int) (cs : List Ca) : Prop := ∀ c ∈ cs, c.2.2.1 ≤ B
theorem SB.set {B : Int} {cs : List Ca} (h : SB B cs) (i : Nat) (a : Int) : SB B (setC cs i a) := by
  intro c hc
  unfold setC at hc
  by_cases hi : i < cs.length
  · rcases List.mem_or_eq_of_mem_set hc with e | e
    · exact h c e
    · rw [e]
      have := h _ (List.getElem_mem hi)
      rw [← getD_get dC hi] at this
      exact this
  · rw [List.set_eq_of_length_le (by omega)] at hc
    exact h c hc
theorem May.gq {cs : List Ca} {ss : List Se} {mo mw ri re now T : Int} (h : May cs ss mo mw ri re now) (h1 : now ≤ T) (h2 : T ≤ 1099511627776) (h3 : T - now ≤ 4000000000) : GQ T 2000000000000 cs ss mw ri re now 0 := by
  obtain ⟨⟨s1, s2, s3, s4⟩, n, lc, ls, v, d⟩ := h
  have d2 : ∀ k, k < ss.length → (ss.getD k dS).2.1 = 2 → now ≤ (ss.getD k dS).2.2.1 + ri := fun k hk e => d _ (mem_things.2 (.inr (.inl ⟨k, hk, e, rfl⟩)))
  have d3 : ∀ k, k < ss.length → (ss.getD k dS).2.1 = 4 → now ≤ (ss.getD k dS).2.2.1 + re := fun k hk e => d _ (mem_things.2 (.inr (.inr ⟨k, hk, e, rfl⟩)))
  refine ⟨v, by omega, by omega, n.1, h1, h2, s2, s3, s4, ?_, by omega, fun hm i hi => d _ (mem_things.2 (.inl ⟨hm, i, hi, rfl⟩)), d2, d3⟩
  have hb : (ss.map (phi T now)).sum ≤ ss.length * 13000000000 := sum_bound 13000000000 ss fun x hx => by
    obtain ⟨k, hk, e⟩ := List.mem_iff_getElem.1 hx
    have e' : ss.getD k dS = x := by rw [getD_get dS hk]; exact e
    have a2 := d2 k hk
    have a3 := d3 k hk
    rw [e'] at a2 a3
    unfold phi
    split
    · omega
    · split
      · have := a2 (by assumption); omega
      · split
        · have := a3 (by assumption); omega
        · omega
  have : ss.length * 13000000000 ≤ 100 * 13000000000 := Nat.mul_le_mul_right _ (by omega)
  unfold Phi
  omega
theorem clone_j {α β : Type} (l : List α) (d : α) (m : Int) (hm : 0 ≤ m ∧ m ≤ 100) (hl : l.length ≤ 1000) (f : List α → Option β) :
    joinO (bif (decide ((((List.length l) : Nat) : Int) = (0 : Int))) then
    some (Sum.inl ([] : List α))
   else
    bif (decide (((0 : Int) ≤ (((List.length l) : Nat) : Int)) ∧ (((((List.length l) : Nat) : Int) ≤ (((List.length l) : Nat) : Int)) ∧ ((((((List.length l) : Nat) : Int) * m) ≤ (140737488355328 : Int)) ∧ ((((List.length l) : Nat) : Int) ≤ (9223372036854775807 : Int)))))) then 
     bif (decide ((Int.toNat (((List.length l) : Nat) : Int)) ≤ (List.length (List.replicate (Int.toNat (((List.length l) : Nat) : Int)) d)))) then 
      bif (decide ((Int.toNat (((List.length l) : Nat) : Int)) ≤ (List.length (layL (List.replicate (Int.toNat (((List.length l) : Nat) : Int)) d) 0 (List.take (Int.toNat (((List.length l) : Nat) : Int)) l))))) then 
       some (Sum.inl (List.take (Int.toNat (((List.length l) : Nat) : Int)) (layL (List.replicate (Int.toNat (((List.length l) : Nat) : Int)) d) 0 (List.take (Int.toNat (((List.length l) : Nat) : Int)) l))))
      else none
     else none
    else none) f = f l := by
  by_cases h : l.length = 0
  · have hn := List.length_eq_zero_iff.1 h
    subst hn
    rfl
  · have hx : (l.length : Int) * m ≤ 1000 * 100 := Int.mul_le_mul (by omega) hm.2 hm.1 (by omega)
    have hlay : layL (List.replicate l.length d) 0 l = l := layL_all (by rw [List.length_replicate])
    have h0 : ¬ ((l.length : Int) = 0) := by omega
    simp only [Int.toNat_natCast, List.take_length, hlay, List.length_replicate, Nat.le_refl, decide_true, cond_true, decide_eq_false h0, cond_false]
    rw [decide_eq_true ⟨by omega, Int.le_refl _, by omega, by omega⟩]
    rfl
section
variable {cs : List Ca} {ss : List Se} {mo mw ri re now T num : Int}
end
end Go.Proofs.Ytkmfgldoljegoaa
