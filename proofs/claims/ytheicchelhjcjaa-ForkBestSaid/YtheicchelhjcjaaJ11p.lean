import Derived.Test.YtheicchelhjcjaaJ10p
set_option linter.unusedVariables false
set_option linter.unusedSimpArgs false
set_option maxRecDepth 100000
namespace Go.Proofs.Ytheicchelhjcjaa
open Go.RowKit
noncomputable def nxB {δ : Type} (v16 : List Br) : (Int × List Br) → Option ((Int × List Br) ⊕ ((Int × List Br) ⊕ δ)) :=
(fun (v42, v43) =>
 bif (decide (v42 > (0 : Int))) then
 bif (decide (((0 : Int) ≤ v42) ∧ (v42 < (((List.length v16) : Nat) : Int)))) then 
 bindO v43[(Int.toNat v42)]? fun x44 =>
 bindO (some (Go.IntKind.wrap .i64 (v42 - (1 : Int)))) fun x45 =>
 bif (decide (((0 : Int) ≤ x45) ∧ (x45 < (((List.length v16) : Nat) : Int)))) then 
 bindO v43[(Int.toNat x45)]? fun x46 =>
 bif (decide ((Go.IntKind.wrap .i64 (x46.2.1 - x44.2.1)) < (0 : Int))) then
 bindO (some (Go.IntKind.wrap .i64 (v42 - (1 : Int)))) fun x48 =>
 bindO (some (Go.IntKind.wrap .i64 (v42 - (1 : Int)))) fun x49 =>
 bif (decide (((0 : Int) ≤ x49) ∧ (x49 < (((List.length v16) : Nat) : Int)))) then 
 bindO v43[(Int.toNat x49)]? fun x50 =>
 bif (decide (((0 : Int) ≤ v42) ∧ (v42 < (((List.length v16) : Nat) : Int)))) then 
 bindO v43[(Int.toNat v42)]? fun x51 =>
 bif (decide (((0 : Int) ≤ v42) ∧ (v42 < (((List.length v16) : Nat) : Int)))) then 
 bindO v43[(Int.toNat v42)]? fun x52 =>
 bif (decide (((0 : Int) ≤ x48) ∧ (x48 < (((List.length v16) : Nat) : Int)))) then 
 bindO (List.set v43 (Int.toNat v42) (x50.1, (x50.2.1, (x50.2.2.1, x50.2.2.2))))[(Int.toNat x48)]? fun x53 =>
 some (Sum.inl ((Go.IntKind.wrap .i64 (v42 - (1 : Int))), (List.set (List.set v43 (Int.toNat v42) (x50.1, (x50.2.1, (x50.2.2.1, x50.2.2.2)))) (Int.toNat x48) (x51.1, (x51.2.1, (x51.2.2.1, x51.2.2.2))))))
 else none
 else none
 else none
 else none
 else
 outO (some (Sum.inl (v42, v43)))
 else none
 else none
 else
 outO (some (Sum.inl (v42, v43))))
noncomputable def nsB {δ : Type} (v16 : List Br) : (Int × List Br) → Option ((Int × List Br) ⊕ (List Br ⊕ δ)) :=
(fun (v40, v41) =>
 bif (decide (v40 < (((List.length v16) : Nat) : Int))) then
 joinO (loopO (nxB v16) (v40, v41)) fun (v55, v56) =>
 some (Sum.inl ((Go.IntKind.wrap .i64 (v40 + (1 : Int))), v56))
 else
 outO (some (Sum.inl v41)))
noncomputable def n2B {δ : Type} (v16 : List Br) : (Int × List Br) → Option ((Int × List Br) ⊕ (List Br ⊕ δ)) :=
(fun (v21, v22) =>
 bif (decide (v21 < (20 : Int))) then
 joinO (loopO (fun (v23, v24) =>
 bif (decide (v23 > (0 : Int))) then
 bif (decide (((0 : Int) ≤ v23) ∧ (v23 < (((List.length v16) : Nat) : Int)))) then 
 bindO v24[(Int.toNat v23)]? fun x25 =>
 bindO (some (Go.IntKind.wrap .i64 (v23 - (1 : Int)))) fun x26 =>
 bif (decide (((0 : Int) ≤ x26) ∧ (x26 < (((List.length v16) : Nat) : Int)))) then 
 bindO v24[(Int.toNat x26)]? fun x27 =>
 bif (decide ((Go.IntKind.wrap .i64 (x27.2.1 - x25.2.1)) < (0 : Int))) then
 bindO (some (Go.IntKind.wrap .i64 (v23 - (1 : Int)))) fun x29 =>
 bindO (some (Go.IntKind.wrap .i64 (v23 - (1 : Int)))) fun x30 =>
 bif (decide (((0 : Int) ≤ x30) ∧ (x30 < (((List.length v16) : Nat) : Int)))) then 
 bindO v24[(Int.toNat x30)]? fun x31 =>
 bif (decide (((0 : Int) ≤ v23) ∧ (v23 < (((List.length v16) : Nat) : Int)))) then 
 bindO v24[(Int.toNat v23)]? fun x32 =>
 bif (decide (((0 : Int) ≤ v23) ∧ (v23 < (((List.length v16) : Nat) : Int)))) then 
 bindO v24[(Int.toNat v23)]? fun x33 =>
 bif (decide (((0 : Int) ≤ x29) ∧ (x29 < (((List.length v16) : Nat) : Int)))) then 
 bindO (List.set v24 (Int.toNat v23) (x31.1, (x31.2.1, (x31.2.2.1, x31.2.2.2))))[(Int.toNat x29)]? fun x34 =>
 some (Sum.inl ((Go.IntKind.wrap .i64 (v23 - (1 : Int))), (List.set (List.set v24 (Int.toNat v23) (x31.1, (x31.2.1, (x31.2.2.1, x31.2.2.2)))) (Int.toNat x29) (x32.1, (x32.2.1, (x32.2.2.1, x32.2.2.2))))))
 else none
 else none
 else none
 else none
 else
 outO (some (Sum.inl (v23, v24)))
 else none
 else none
 else
 outO (some (Sum.inl (v23, v24)))) (v21, v22)) fun (v36, v37) =>
 some (Sum.inl ((Go.IntKind.wrap .i64 (v21 + (1 : Int))), v37))
 else
 outO (some (Sum.inl v22)))
noncomputable def noB {γ : Type} (v16 v59 : List Br) : Int → Option (Int ⊕ (Unit ⊕ (Int ⊕ γ))) :=
(fun v60 =>
 bif (decide (v60 < (((List.length v16) : Nat) : Int))) then
 bif (decide (((0 : Int) ≤ v60) ∧ (v60 < (((List.length v16) : Nat) : Int)))) then 
 bindO v59[(Int.toNat v60)]? fun x61 =>
 bindO (fork_open x61.2.2.1) fun x62 =>
 bif x62 then
 outO (outO (some (Sum.inl v60)))
 else
 some (Sum.inl (Go.IntKind.wrap .i64 (v60 + (1 : Int))))
 else none
 else
 outO (some (Sum.inl ())))
noncomputable def nfB {γ : Type} (v16 v59 : List Br) : Int → Option (Int ⊕ (Unit ⊕ (Int ⊕ γ))) :=
(fun v65 =>
 bif (decide (v65 < (((List.length v16) : Nat) : Int))) then
 bif (decide (((0 : Int) ≤ v65) ∧ (v65 < (((List.length v16) : Nat) : Int)))) then 
 bindO v59[(Int.toNat v65)]? fun x66 =>
 bif (decide (x66.2.2.1 = (0 : Int))) then
 outO (outO (some (Sum.inl v65)))
 else
 some (Sum.inl (Go.IntKind.wrap .i64 (v65 + (1 : Int))))
 else none
 else
 outO (some (Sum.inl ())))
noncomputable def goN {γ : Type} (v16 v59 : List Br) (v17 : Int) (v18 v19 v20 : Bool) : Option (Ps ⊕ γ) :=
 joinO (joinO (loopO (noB v16 v59) (0 : Int)) fun _ =>
 some (Sum.inl (-1 : Int))) fun v64 =>
 bif v20 then
 bif (decide ((List.length v16) ≤ (List.length v59))) then 
 some (Sum.inl ((List.take (List.length v16) v59), (v17, (v18, (v19, (v20, ([] : List (Int × (Int × Int)))))))))
 else none
 else
 bif (decide (v64 ≥ (0 : Int))) then
 bif (decide ((List.length v16) ≤ (List.length v59))) then 
 some (Sum.inl ((List.take (List.length v16) v59), (v17, (v18, (v19, (v20, ([] : List (Int × (Int × Int)))))))))
 else none
 else
 joinO (joinO (loopO (nfB v16 v59) (0 : Int)) fun _ =>
 some (Sum.inl (-1 : Int))) fun v68 =>
 bif v19 then
 joinO (loopO (skB v16) ((0 : Int), v59)) fun v75 =>
 bif (decide ((List.length v16) ≤ (List.length v75))) then 
 bindO (fork_Best ((List.take (List.length v16) v75), (v17, (v18, (v19, Bool.true))))) fun x76 =>
 bindO (some (((6 : Int), ((-1 : Int), x76)) :: ([] : List (Int × (Int × Int))))) fun x77 =>
 bif ((decide ((List.length v16) ≤ (List.length v75))) && (decide ((List.length x77) ≤ (List.length x77)))) then 
 some (Sum.inl ((List.take (List.length v16) v75), (v17, (v18, (v19, (Bool.true, (List.take (List.length x77) x77)))))))
 else none
 else none
 else
 bif (decide (v68 < (0 : Int))) then
 joinO (loopO (skB v16) ((0 : Int), v59)) fun v84 =>
 bif (decide ((List.length v16) ≤ (List.length v84))) then 
 bindO (fork_Best ((List.take (List.length v16) v84), (v17, (v18, (v19, Bool.true))))) fun x85 =>
 bindO (some (((6 : Int), ((-1 : Int), x85)) :: ([] : List (Int × (Int × Int))))) fun x86 =>
 bif ((decide ((List.length v16) ≤ (List.length v84))) && (decide ((List.length x86) ≤ (List.length x86)))) then 
 some (Sum.inl ((List.take (List.length v16) v84), (v17, (v18, (v19, (Bool.true, (List.take (List.length x86) x86)))))))
 else none
 else none
 else
 bif (decide (((0 : Int) ≤ v68) ∧ (v68 < (((List.length v16) : Nat) : Int)))) then 
 bindO v59[(Int.toNat v68)]? fun x87 =>
 bif (decide ((List.length v16) ≤ (List.length v59))) then 
 loopO (pgB v16 x87) ((0 : Int), ((List.take (List.length v16) v59), (v17, (v18, (v19, (v20, ([] : List (Int × (Int × Int)))))))))
 else none
 else none
theorem no_j {γ : Type} (L l : List Br) (hL : L.length = l.length) (hl : l.length ≤ 1000) : loopO (noB (γ := γ) L l) (0 : Int) = some (if fdx Op l < 0 then .inl () else .inr (.inl (fdx Op l))) :=
  loopO_find (body := noB (γ := γ) L l) Op l (fun v => .inl v)
    (fun i hi hb => by
      unfold noB
      simp (disch := (first | omega | (simp only [List.length_append, List.length_cons, List.length_nil, List.nil_append, List.length_take, List.length_drop]; omega))) only [↓bindO_some, ↓bindO_none, ↓joinO_inl, ↓joinO_inr, ↓joinO_none, ↓outO_some, ↓outO_none, ↓cond_true, ↓cond_false, ↓cond_and, ↓cond_or, ↓cond_not, ↓cond_ite, ↓if_pos, ↓if_neg, ↓if_true, ↓if_false, List.take_length, Nat.le_refl, Bool.not_true, Bool.not_false, ↓get_bz d0, Int.toNat_natCast, ↓open_b, wrap_i64', decide_eq_false hb]
      rfl)
    (fun i hi hb => by
      unfold noB
      simp (disch := (first | omega | (simp only [List.length_append, List.length_cons, List.length_nil, List.nil_append, List.length_take, List.length_drop]; omega))) only [↓bindO_some, ↓bindO_none, ↓joinO_inl, ↓joinO_inr, ↓joinO_none, ↓outO_some, ↓outO_none, ↓cond_true, ↓cond_false, ↓cond_and, ↓cond_or, ↓cond_not, ↓cond_ite, ↓if_pos, ↓if_neg, ↓if_true, ↓if_false, List.take_length, Nat.le_refl, Bool.not_true, Bool.not_false, ↓get_bz d0, Int.toNat_natCast, ↓open_b, wrap_i64', decide_eq_true hb])
    (by unfold noB; simp (disch := (first | omega | (simp only [List.length_append, List.length_cons, List.length_nil, List.nil_append, List.length_take, List.length_drop]; omega))) only [↓bindO_some, ↓bindO_none, ↓joinO_inl, ↓joinO_inr, ↓joinO_none, ↓outO_some, ↓outO_none, ↓cond_true, ↓cond_false, ↓cond_and, ↓cond_or, ↓cond_not, ↓cond_ite, ↓if_pos, ↓if_neg, ↓if_true, ↓if_false, List.take_length, Nat.le_refl, Bool.not_true, Bool.not_false])
theorem nf_j {γ : Type} (L l : List Br) (hL : L.length = l.length) (hl : l.length ≤ 1000) : loopO (nfB (γ := γ) L l) (0 : Int) = some (if fdx Wa l < 0 then .inl () else .inr (.inl (fdx Wa l))) :=
  loopO_find (body := nfB (γ := γ) L l) Wa l (fun v => .inl v)
    (fun i hi hb => by
      unfold nfB
      simp (disch := (first | omega | (simp only [List.length_append, List.length_cons, List.length_nil, List.nil_append, List.length_take, List.length_drop]; omega))) only [↓bindO_some, ↓bindO_none, ↓joinO_inl, ↓joinO_inr, ↓joinO_none, ↓outO_some, ↓outO_none, ↓cond_true, ↓cond_false, ↓cond_and, ↓cond_or, ↓cond_not, ↓cond_ite, ↓if_pos, ↓if_neg, ↓if_true, ↓if_false, List.take_length, Nat.le_refl, Bool.not_true, Bool.not_false, ↓get_bz d0, Int.toNat_natCast, wrap_i64', if_neg hb]
      rfl)
    (fun i hi hb => by
      unfold nfB
      simp (disch := (first | omega | (simp only [List.length_append, List.length_cons, List.length_nil, List.nil_append, List.length_take, List.length_drop]; omega))) only [↓bindO_some, ↓bindO_none, ↓joinO_inl, ↓joinO_inr, ↓joinO_none, ↓outO_some, ↓outO_none, ↓cond_true, ↓cond_false, ↓cond_and, ↓cond_or, ↓cond_not, ↓cond_ite, ↓if_pos, ↓if_neg, ↓if_true, ↓if_false, List.take_length, Nat.le_refl, Bool.not_true, Bool.not_false, ↓get_bz d0, Int.toNat_natCast, wrap_i64', if_pos hb])
    (by unfold nfB; simp (disch := (first | omega | (simp only [List.length_append, List.length_cons, List.length_nil, List.nil_append, List.length_take, List.length_drop]; omega))) only [↓bindO_some, ↓bindO_none, ↓joinO_inl, ↓joinO_inr, ↓joinO_none, ↓outO_some, ↓outO_none, ↓cond_true, ↓cond_false, ↓cond_and, ↓cond_or, ↓cond_not, ↓cond_ite, ↓if_pos, ↓if_neg, ↓if_true, ↓if_false, List.take_length, Nat.le_refl, Bool.not_true, Bool.not_false])
theorem goN_j {γ : Type} (L l : List Br) (a2 : Int) (a3 a4 a5 : Bool) (hL : L.length = l.length) (hl : l.length ≤ 1000) : goN (γ := γ) L l a2 a3 a4 a5 = some (.inl ((GO l a3 a4 a5).1, (a2, (a3, (a4, ((GO l a3 a4 a5).2.1, (GO l a3 a4 a5).2.2)))))) := by
  unfold goN
  rw [no_j L l hL hl]
  have hx : (joinO (some (if fdx Op l < 0 then Sum.inl () else Sum.inr (Sum.inl (fdx Op l)))) fun _ => some (Sum.inl (-1 : Int)) : Option (Int ⊕ (Ps ⊕ γ))) = some (.inl (fdx Op l)) := by
    by_cases h : fdx Op l < 0
    · rw [if_pos h, fdx_m1 h]; rfl
    · rw [if_neg h]; rfl
  have hy : (joinO (loopO (nfB L l) (0 : Int)) fun _ => some (Sum.inl (-1 : Int)) : Option (Int ⊕ (Ps ⊕ γ))) = some (.inl (fdx Wa l)) := by
    rw [nf_j L l hL hl]
    by_cases h : fdx Wa l < 0
    · rw [if_pos h, fdx_m1 h]; rfl
    · rw [if_neg h]; rfl
  rw [hx]
  clear hx
  have hm : (l.map fsk).length ≤ 1000 := by simpa using hl
  unfold GO
  cases a5
  · by_cases h1 : 0 ≤ fdx Op l
    · rw [if_neg (by decide), if_pos h1]
      simp (disch := (first | omega | (simp only [List.length_append, List.length_cons, List.length_nil, List.nil_append, List.length_take, List.length_drop]; omega))) only [↓bindO_some, ↓bindO_none, ↓joinO_inl, ↓joinO_inr, ↓joinO_none, ↓outO_some, ↓outO_none, ↓cond_true, ↓cond_false, ↓cond_and, ↓cond_or, ↓cond_not, ↓cond_ite, ↓if_pos, ↓if_neg, ↓if_true, ↓if_false, List.take_length, Nat.le_refl, Bool.not_true, Bool.not_false, if_pos, if_neg, List.take_length, hL, decide_true, Bool.and_self]
    · rw [if_neg (by decide), if_neg h1]
      simp (disch := (first | omega | (simp only [List.length_append, List.length_cons, List.length_nil, List.nil_append, List.length_take, List.length_drop]; omega))) only [↓bindO_some, ↓bindO_none, ↓joinO_inl, ↓joinO_inr, ↓joinO_none, ↓outO_some, ↓outO_none, ↓cond_true, ↓cond_false, ↓cond_and, ↓cond_or, ↓cond_not, ↓cond_ite, ↓if_pos, ↓if_neg, ↓if_true, ↓if_false, List.take_length, Nat.le_refl, Bool.not_true, Bool.not_false, if_pos, if_neg, List.take_length, hL, decide_true, Bool.and_self, hy]
      cases a4
      · by_cases h2 : fdx Wa l < 0
        · simp (disch := (first | omega | (simp only [List.length_append, List.length_cons, List.length_nil, List.nil_append, List.length_take, List.length_drop]; omega))) only [↓bindO_some, ↓bindO_none, ↓joinO_inl, ↓joinO_inr, ↓joinO_none, ↓outO_some, ↓outO_none, ↓cond_true, ↓cond_false, ↓cond_and, ↓cond_or, ↓cond_not, ↓cond_ite, ↓if_pos, ↓if_neg, ↓if_true, ↓if_false, List.take_length, Nat.le_refl, Bool.not_true, Bool.not_false, if_pos, if_neg, sk_j, hL, List.length_map, map_take, bestP_b _ _ _ _ _ hm, List.take_length, decide_true, Bool.and_self, h2, or_true, if_true]
        · obtain ⟨i, e, hi, _⟩ := fdx_pos (p := Wa) (l := l) (by omega)
          rw [e]
          have h3 : ¬ ((i : Int) < 0) := by omega
          simp (disch := (first | omega | (simp only [List.length_append, List.length_cons, List.length_nil, List.nil_append, List.length_take, List.length_drop]; omega))) only [↓bindO_some, ↓bindO_none, ↓joinO_inl, ↓joinO_inr, ↓joinO_none, ↓outO_some, ↓outO_none, ↓cond_true, ↓cond_false, ↓cond_and, ↓cond_or, ↓cond_not, ↓cond_ite, ↓if_pos, ↓if_neg, ↓if_true, ↓if_false, List.take_length, Nat.le_refl, Bool.not_true, Bool.not_false, if_pos, if_neg, ↓get_bz d0, Int.toNat_natCast, h2, pg_j (γ := γ) (L := L) hL hl a2 a3 false false (A := []) (by simp), List.length_map, map_take, List.take_length, hL, List.nil_append, decide_true, Bool.and_self, Bool.false_eq_true, false_or, h3]
      · simp (disch := (first | omega | (simp only [List.length_append, List.length_cons, List.length_nil, List.nil_append, List.length_take, List.length_drop]; omega))) only [↓bindO_some, ↓bindO_none, ↓joinO_inl, ↓joinO_inr, ↓joinO_none, ↓outO_some, ↓outO_none, ↓cond_true, ↓cond_false, ↓cond_and, ↓cond_or, ↓cond_not, ↓cond_ite, ↓if_pos, ↓if_neg, ↓if_true, ↓if_false, List.take_length, Nat.le_refl, Bool.not_true, Bool.not_false, if_pos, if_neg, sk_j, hL, List.length_map, map_take, bestP_b _ _ _ _ _ hm, List.take_length, decide_true, Bool.and_self, true_or, if_true]
  · rw [if_pos rfl]
    simp (disch := (first | omega | (simp only [List.length_append, List.length_cons, List.length_nil, List.nil_append, List.length_take, List.length_drop]; omega))) only [↓bindO_some, ↓bindO_none, ↓joinO_inl, ↓joinO_inr, ↓joinO_none, ↓outO_some, ↓outO_none, ↓cond_true, ↓cond_false, ↓cond_and, ↓cond_or, ↓cond_not, ↓cond_ite, ↓if_pos, ↓if_neg, ↓if_true, ↓if_false, List.take_length, Nat.le_refl, Bool.not_true, Bool.not_false, if_pos, if_neg, List.take_length, hL, decide_true, Bool.and_self]
def tur (T : List Tg) : Nat → List (List UInt8)
  | 0 => []
  | k + 1 => addK (tur T k) (T.getD k t0).1
theorem mem_tur {T : List Tg} {u : List UInt8} {k : Nat} : u ∈ tur T k ↔ ∃ i, i < k ∧ (T.getD i t0).1 = u := by
  induction k with
  | zero => exact ⟨fun h => (by cases h), fun ⟨i, h, _⟩ => by omega⟩
  | succ k ih =>
    unfold tur
    rw [mem_addK, ih]
    constructor
    · rintro (h | ⟨i, h1, h2⟩)
      · exact ⟨k, by omega, h.symm⟩
      · exact ⟨i, by omega, h2⟩
    · rintro ⟨i, h1, h2⟩
      by_cases e : i = k
      · exact .inl (e ▸ h2.symm)
      · exact .inr ⟨i, by omega, h2⟩
def bld (T : List Tg) (i : Nat) : List Br := (T.take i).map br
theorem bld_succ {T : List Tg} {i : Nat} (hi : i < T.length) : bld T (i + 1) = bld T i ++ [br (T.getD i t0)] := by
  unfold bld
  rw [List.take_add_one, List.getElem?_eq_getElem hi, List.map_append, List.getD_eq_getElem?_getD, List.getElem?_eq_getElem hi]; rfl
theorem bld_len {T : List Tg} {i : Nat} (hi : i ≤ T.length) : (bld T i).length = i := by
  unfold bld; rw [List.length_map, List.length_take]; omega
end Go.Proofs.Ytheicchelhjcjaa
