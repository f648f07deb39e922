import Derived.Test.YtheicchelhjcjaaJ18p
set_option linter.unusedVariables false
set_option linter.unusedSimpArgs false
set_option maxRecDepth 100000
namespace Go.Proofs.Ytheicchelhjcjaa
open Go.RowKit
abbrev a0 : Ac := (0, (0, 0))
def EndA (A : List Ac) (k : Nat) : Prop := ∃ i, i < k ∧ i < A.length ∧ ((A.getD i a0).1 = 4 ∨ (A.getD i a0).1 = 6)
structure OIn (n : Nat) (A : List Ac) (F : List Br) (O : Bool) (S : List Int) (k : Nat) (o : Bool) (s : List Int) : Prop where
  kl : k ≤ A.length
  oo : o = true → O = true ∨ EndA A k
  l : s.length = n
  z : ∀ j, j < n → (F.getD j d0).2.2.1 = 0 → s.getD j 0 = 0
  t : ∀ i, k ≤ i → i < A.length → (A.getD i a0).1 = 1 → ∀ b : Nat, (A.getD i a0).2.1 = (b : Int) → s.getD b 0 = 0
theorem getD_mem {A : List Ac} {i : Nat} (h : i < A.length) : A.getD i a0 ∈ A := by
  rw [getD_get a0 h]; exact List.getElem_mem h
structure OKn (n : Nat) (A : List Ac) (O : Bool) (S : List Int) (F : List Br) : Prop where
  lF : F.length = n
  lS : S.length = n
  n16 : n ≤ 16
  lA : A.length ≤ 40
  ho : ∀ x ∈ A, x.1 = 1 → ∃ i : Nat, x.2.1 = (i : Int) ∧ i < n ∧ S.getD i 0 = 0 ∧ (F.getD i d0).2.2.1 ≠ 0 ∧ ∀ m, m < n → (F.getD m d0).2.1 > (F.getD i d0).2.1 → (F.getD m d0).2.2.1 = 5
  hs : (∃ x ∈ A, x.1 = 1) → O = false ∧ ∀ x ∈ A, x.1 ≠ 4 ∧ x.1 ≠ 6
  hd : Dst A
  hz : ∀ j, j < n → (F.getD j d0).2.2.1 = 0 → S.getD j 0 = 0
end Go.Proofs.Ytheicchelhjcjaa
