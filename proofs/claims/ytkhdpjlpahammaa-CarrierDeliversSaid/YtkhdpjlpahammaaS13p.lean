import Derived.Test.YtkhdpjlpahammaaS12p
set_option linter.unusedVariables false
set_option linter.unusedSimpArgs false
set_option maxRecDepth 100000
set_option maxHeartbeats 2000000
namespace Go.Proofs.Ytkhdpjlpahammaa
open Go.RowKit
def tmS (steps : List Int) : Nat → Int
  | 0 => 0
  | i + 1 => tmS steps i + steps.getD i 0
def mkP (own : List FtT) (steps : List Int) (i : Nat) (b : Bool) : PcT := (fateAt own (i : Int), ((i : Int), ([97], ([98], (tmS steps (i + 1), (b, [IntKind.wrap .u8 (i : Int), steps.getD i 0]))))))
def pcAt (own : List FtT) (steps : List Int) (i : Nat) : List PcT := newPc (fateAt own (i : Int)) (i : Int) [97] [98] (tmS steps (i + 1)) [IntKind.wrap .u8 (i : Int), steps.getD i 0]
def allP (own : List FtT) (steps : List Int) : Nat → List PcT
  | 0 => []
  | i + 1 => allP own steps i ++ pcAt own steps i
def lostN (own : List FtT) : Nat → Int
  | 0 => 0
  | i + 1 => if (fateAt own (i : Int)).1 = true then lostN own i + 1 else lostN own i
theorem lostN_b (own : List FtT) : ∀ i : Nat, 0 ≤ lostN own i ∧ lostN own i ≤ (i : Int)
  | 0 => by unfold lostN; omega
  | i + 1 => by
    have := lostN_b own i
    unfold lostN
    split <;> omega
def OkS (steps : List Int) : Prop := ∀ x ∈ steps, 0 ≤ x ∧ x < 256
section
variable {own : List FtT} {steps : List Int}
theorem st_b (hs : OkS steps) (i : Nat) : 0 ≤ steps.getD i 0 ∧ steps.getD i 0 < 256 := by
  by_cases h : i < steps.length
  · rw [getD_get _ h]; exact hs _ (List.getElem_mem _)
  · rw [List.getD_eq_getElem?_getD, List.getElem?_eq_none (by omega)]
    exact ⟨Int.le_refl _, by decide⟩
theorem tm_b (hs : OkS steps) : ∀ i : Nat, 0 ≤ tmS steps i ∧ tmS steps i ≤ 256 * (i : Int)
  | 0 => by unfold tmS; omega
  | i + 1 => by
    have := tm_b hs i
    have := st_b hs i
    unfold tmS
    omega
theorem tm_mono (hs : OkS steps) (i : Nat) : tmS steps i ≤ tmS steps (i + 1) := by
  have := st_b hs i
  show _ ≤ tmS steps i + steps.getD i 0
  omega
theorem tm_le (hs : OkS steps) {i j : Nat} (h : i ≤ j) : tmS steps i ≤ tmS steps j := by
  induction j with
  | zero => rw [show i = 0 by omega]; exact Int.le_refl _
  | succ j ih =>
    by_cases e : i = j + 1
    · subst e; exact Int.le_refl _
    · exact Int.le_trans (ih (by omega)) (tm_mono hs j)
theorem fa_b (ho : OkF own) (i : Int) : (0 ≤ (fateAt own i).2.1 ∧ (fateAt own i).2.1 < 500) ∧ (0 ≤ (fateAt own i).2.2.2 ∧ (fateAt own i).2.2.2 < 500) := by
  unfold fateAt
  by_cases h : i.toNat < own.length
  · rw [getD_get _ h]; exact ho _ (List.getElem_mem _)
  · rw [List.getD_eq_getElem?_getD, List.getElem?_eq_none (by omega)]
    exact ⟨⟨Int.le_refl _, by decide⟩, ⟨Int.le_refl _, by decide⟩⟩
theorem at_b (ho : OkF own) (i : Nat) (b : Bool) : tmS steps (i + 1) ≤ atP (mkP own steps i b) ∧ atP (mkP own steps i b) < tmS steps (i + 1) + 500 := by
  have := fa_b ho (i : Int)
  unfold atP mkP
  cases b <;> simp <;> omega
theorem ok_mk (ho : OkF own) (hs : OkS steps) {i : Nat} (hi : i < 1000) (b : Bool) : OkP (mkP own steps i b) := by
  have := fa_b ho (i : Int)
  have := tm_b hs (i + 1)
  unfold OkP mkP
  simp
  omega
theorem pc_eq (own : List FtT) (steps : List Int) (i : Nat) : pcAt own steps i = if (fateAt own (i : Int)).1 = true then [] else mkP own steps i false :: (if (fateAt own (i : Int)).2.2.1 = true then [mkP own steps i true] else []) := rfl
theorem pc_mem {i : Nat} {p : PcT} (h : p ∈ pcAt own steps i) : ∃ b, p = mkP own steps i b := by
  rw [pc_eq] at h
  split at h
  · cases h
  · rcases List.mem_cons.1 h with h | h
    · exact ⟨false, h⟩
    · split at h
      · exact ⟨true, List.mem_singleton.1 h⟩
      · cases h
theorem pc_len (own : List FtT) (steps : List Int) (i : Nat) : (pcAt own steps i).length ≤ 2 := by
  rw [pc_eq]
  split
  · simp
  · split <;> simp
theorem all_len (own : List FtT) (steps : List Int) : ∀ n, (allP own steps n).length ≤ 2 * n
  | 0 => by simp [allP]
  | n + 1 => by
    have := all_len own steps n
    have := pc_len own steps n
    unfold allP
    rw [List.length_append]
    omega
theorem all_mem {n : Nat} {p : PcT} (h : p ∈ allP own steps n) : ∃ i b, i < n ∧ p = mkP own steps i b := by
  induction n with
  | zero => cases h
  | succ n ih =>
    unfold allP at h
    rcases List.mem_append.1 h with h | h
    · obtain ⟨i, b, h1, h2⟩ := ih h; exact ⟨i, b, by omega, h2⟩
    · obtain ⟨b, hb⟩ := pc_mem h; exact ⟨n, b, by omega, hb⟩
theorem all_in {n i : Nat} (h : i < n) {p : PcT} (hp : p ∈ pcAt own steps i) : p ∈ allP own steps n := by
  induction n with
  | zero => omega
  | succ n ih =>
    unfold allP
    by_cases e : i = n
    · subst e; exact List.mem_append_right _ hp
    · exact List.mem_append_left _ (ih (by omega))
theorem mk_uniq {i j : Nat} {b c : Bool} (h : ¬ plt (mkP own steps i b) (mkP own steps j c)) (k : ¬ plt (mkP own steps j c) (mkP own steps i b)) : mkP own steps i b = mkP own steps j c := by
  rcases Int.lt_trichotomy (atP (mkP own steps i b)) (atP (mkP own steps j c)) with g | g | g
  · exact absurd (.inl g) h
  · rcases Nat.lt_trichotomy i j with e | e | e
    · exact absurd (.inr ⟨g, .inl (by show (i : Int) < (j : Int); omega)⟩) h
    · subst e
      cases b <;> cases c
      · rfl
      · exact absurd (.inr ⟨g, .inr ⟨rfl, rfl, rfl⟩⟩) h
      · exact absurd (.inr ⟨g.symm, .inr ⟨rfl, rfl, rfl⟩⟩) k
      · rfl
    · exact absurd (.inr ⟨g.symm, .inl (by show (j : Int) < (i : Int); omega)⟩) k
  · exact absurd (.inl g) k
theorem srt_eq {n : Nat} {A B : List PcT} (hA : A.Perm (allP own steps n)) (hB : B.Perm (allP own steps n)) (sA : A.Pairwise fun p q => ¬ plt q p) (sB : B.Pairwise fun p q => ¬ plt q p) : A = B := by
  refine List.Perm.eq_of_pairwise (fun p q hp hq h k => ?_) sA sB (hA.trans hB.symm)
  obtain ⟨i, b, _, rfl⟩ := all_mem (hA.mem_iff.1 hp)
  obtain ⟨j, c, _, rfl⟩ := all_mem (hB.mem_iff.1 hq)
  exact mk_uniq k h
structure CInv (own : List FtT) (steps : List Int) (i : Nat) (O R : List PcT) : Prop where
  pm : (O ++ R).Perm (allP own steps i)
  so : O.Pairwise fun p q => ¬ plt q p
  lo : ∀ p ∈ O, atP p ≤ tmS steps i
  hi : ∀ p ∈ R, tmS steps i < atP p
theorem cinv0 : CInv own steps 0 [] [] := ⟨List.Perm.refl _, List.Pairwise.nil, fun p h => (by cases h), fun p h => (by cases h)⟩
theorem CInv.so_app {i : Nat} {O R N L : List PcT} (h : CInv own steps i O R) (hN : N = [] ∨ N = pcAt own steps i) (ho : OkF own) (hs : OkS steps) (hL : ∀ q ∈ L, q ∈ R ++ N) (sL : L.Pairwise fun p q => ¬ plt q p) : (O ++ L).Pairwise fun p q => ¬ plt q p := by
  refine List.pairwise_append.2 ⟨h.so, sL, fun p hp q hq k => ?_⟩
  have h1 := h.lo p hp
  obtain ⟨j, c, hj, rfl⟩ := all_mem (h.pm.mem_iff.1 (List.mem_append_left _ hp))
  rcases List.mem_append.1 (hL q hq) with g | g
  · have h2 := h.hi q g
    rcases k with k | ⟨k, _⟩ <;> omega
  · rcases hN with rfl | rfl
    · cases g
    · obtain ⟨b, rfl⟩ := pc_mem g
      have h2 := (at_b (steps := steps) ho i b).1
      have h3 := tm_mono hs i
      rcases k with k | ⟨k, k2 | ⟨k2, _⟩⟩
      · omega
      · have : (i : Int) < (j : Int) := k2
        omega
      · have : (i : Int) = (j : Int) := k2
        omega
theorem CInv.step {i : Nat} {O R L : List PcT} (h : CInv own steps i O R) (ho : OkF own) (hs : OkS steps) (hL : L.Perm ((R ++ pcAt own steps i).filter fun p => decide (atP p ≤ tmS steps (i + 1)))) (sL : L.Pairwise fun p q => ¬ plt q p) :
    CInv own steps (i + 1) (O ++ L) ((R ++ pcAt own steps i).filter fun p => !decide (atP p ≤ tmS steps (i + 1))) := by
  refine ⟨?_, h.so_app (.inr rfl) ho hs (fun q hq => (List.mem_filter.1 (hL.mem_iff.1 hq)).1) sL, fun p hp => ?_, fun p hp => ?_⟩
  · have h1 : (L ++ (R ++ pcAt own steps i).filter fun p => !decide (atP p ≤ tmS steps (i + 1))).Perm (R ++ pcAt own steps i) := (hL.append_right _).trans (List.filter_append_perm _ _)
    rw [List.append_assoc]
    refine (h1.append_left O).trans ?_
    rw [← List.append_assoc]
    exact h.pm.append_right _
  · rcases List.mem_append.1 hp with g | g
    · exact Int.le_trans (h.lo p g) (tm_mono hs i)
    · exact of_decide_eq_true (List.mem_filter.1 (hL.mem_iff.1 g)).2
  · have := (List.mem_filter.1 hp).2
    simp at this
    exact this
end
end Go.Proofs.Ytkhdpjlpahammaa
