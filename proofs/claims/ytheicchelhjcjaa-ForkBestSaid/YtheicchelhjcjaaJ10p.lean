import Derived.Test.YtheicchelhjcjaaJ8p
set_option linter.unusedVariables false
set_option linter.unusedSimpArgs false
set_option maxRecDepth 100000
namespace Go.Proofs.Ytheicchelhjcjaa
open Go.RowKit
abbrev Tg := List UInt8 × Int
abbrev t0 : Tg := ([], 0)
abbrev Rs := Fk × (List Ac × Int)
abbrev Nst := List Br × (Int × (Bool × (Bool × Bool)))
def br (t : Tg) : Br := (t.1, (t.2, (0, 0)))
def atP (q : Int) (L : List Br) : Nat → Nat
  | 0 => 0
  | k + 1 => if q ≤ (L.getD k d0).2.1 then k + 1 else atP q L k
theorem atP_succ (q : Int) (L : List Br) (k : Nat) : atP q L (k + 1) = if q ≤ (L.getD k d0).2.1 then k + 1 else atP q L k := rfl
theorem atP_le (q : Int) (L : List Br) (k : Nat) : atP q L k ≤ k := by
  induction k with
  | zero => exact Nat.le_refl _
  | succ k ih => rw [atP_succ]; split <;> omega
def insA (y : Br) (L : List Br) : List Br := L.take (atP y.2.1 L L.length) ++ y :: L.drop (atP y.2.1 L L.length)
def SRT (T : List Tg) : Nat → List Br
  | 0 => []
  | i + 1 => insA (br (T.getD i t0)) (SRT T i)
theorem insA_len (y : Br) (L : List Br) : (insA y L).length = L.length + 1 := by
  have := atP_le y.2.1 L L.length
  simp [insA]; omega
theorem SRT_len (T : List Tg) (i : Nat) : (SRT T i).length = i := by
  induction i with
  | zero => rfl
  | succ i ih => unfold SRT; rw [insA_len, ih]
theorem mem_insA {y z : Br} {L : List Br} : z ∈ insA y L ↔ z = y ∨ z ∈ L := by
  unfold insA
  rw [List.mem_append, List.mem_cons]
  have h := List.take_append_drop (atP y.2.1 L L.length) L
  constructor
  · rintro (h1 | h1 | h1)
    · exact .inr (List.mem_of_mem_take h1)
    · exact .inl h1
    · exact .inr (List.mem_of_mem_drop h1)
  · rintro (h1 | h1)
    · exact .inr (.inl h1)
    · rw [← h, List.mem_append] at h1
      rcases h1 with h1 | h1
      · exact .inl h1
      · exact .inr (.inr h1)
theorem mem_SRT {T : List Tg} {z : Br} {i : Nat} : z ∈ SRT T i ↔ ∃ k, k < i ∧ br (T.getD k t0) = z := by
  induction i with
  | zero => exact ⟨fun h => (by cases h), fun ⟨k, h, _⟩ => by omega⟩
  | succ i ih =>
    unfold SRT
    rw [mem_insA, ih]
    constructor
    · rintro (h | ⟨k, h1, h2⟩)
      · exact ⟨i, by omega, h.symm⟩
      · exact ⟨k, by omega, h2⟩
    · rintro ⟨k, h1, h2⟩
      by_cases e : k = i
      · exact .inl (e ▸ h2.symm)
      · exact .inr ⟨k, by omega, h2⟩
def bad2 (t : Tg) : Prop := t.1 = [] ∨ t.2 < 0 ∨ t.2 > 1000
def dup (T : List Tg) (i : Nat) : Prop := ∃ k, k < i ∧ (T.getD k t0).1 = (T.getD i t0).1
open Classical in
noncomputable def EE (T : List Tg) (i : Nat) : Int := if bad2 (T.getD i t0) then 2 else if dup T i then 7 else 0
theorem EE_2 {T : List Tg} {i : Nat} (h : bad2 (T.getD i t0)) : EE T i = 2 := by unfold EE; rw [if_pos h]
theorem EE_7 {T : List Tg} {i : Nat} (h : ¬ bad2 (T.getD i t0)) (k : dup T i) : EE T i = 7 := by unfold EE; rw [if_neg h, if_pos k]
theorem EE_0 {T : List Tg} {i : Nat} (h : ¬ bad2 (T.getD i t0)) (k : ¬ dup T i) : EE T i = 0 := by unfold EE; rw [if_neg h, if_neg k]
open Classical in

noncomputable def fE (E : Nat → Int) (n : Nat) : Int := if h : ∃ i, i < n ∧ E i ≠ 0 then E (Classical.choose (least h)) else 0
theorem fE_0 {E : Nat → Int} {n : Nat} (h : fE E n = 0) : ∀ i, i < n → E i = 0 := by
  intro i hi
  unfold fE at h
  split at h
  · rename_i g
    exact ((Classical.choose_spec (least g)).1.2 h).elim
  · rename_i g
    exact Classical.byContradiction fun k => g ⟨i, hi, k⟩
theorem loopO_err {υ β : Type} {body : υ → Option (υ ⊕ β)} (E : Nat → Int) (n : Nat) (st : Nat → υ) {r0 : β} (rE : Int → β) {x : υ} (hx : st 0 = x) (h1 : ∀ i, i < n → E i = 0 → body (st i) = some (.inl (st (i + 1)))) (h2 : ∀ i, i < n → E i ≠ 0 → body (st i) = some (.inr (rE (E i)))) (h3 : body (st n) = some (.inr r0)) :
    loopO body x = some (if fE E n = 0 then r0 else rE (fE E n)) := by
  by_cases h : ∃ i, i < n ∧ E i ≠ 0
  · have e : fE E n = E (Classical.choose (least h)) := by unfold fE; rw [dif_pos h]
    have hs := Classical.choose_spec (least h)
    rw [e]
    generalize Classical.choose (least h) = k at *
    rw [if_neg hs.1.2]
    exact loopO_from st k hx (fun i hi => h1 i (by omega) (Classical.byContradiction fun hb => hs.2 i hi ⟨by omega, hb⟩)) (h2 k hs.1.1 hs.1.2)
  · have e : fE E n = 0 := by unfold fE; rw [dif_neg h]
    rw [if_pos e]
    exact loopO_from st n hx (fun i hi => h1 i hi (Classical.byContradiction fun hb => h ⟨i, hi, hb⟩)) h3
abbrev er0 (e : Int) : Rs := (([], (0, (false, (false, false)))), ([], e))
end Go.Proofs.Ytheicchelhjcjaa
