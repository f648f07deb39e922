import Derived.Test.YtheicchelhjcjaaJ3p
import Derived.Test.YtheicchelhjcjaaZ2p
set_option linter.unusedVariables false
set_option linter.unusedSimpArgs false
set_option maxRecDepth 100000
namespace Go.Proofs.Ytheicchelhjcjaa
open Go.RowKit
variable {γ : Type}
abbrev Ac := Int × (Int × Int)
abbrev Ps := List Br × (Int × (Bool × (Bool × (Bool × List Ac))))
noncomputable def psB (x10 : List Br) : (Int × Ps) → Option ((Int × Ps) ⊕ (Ps ⊕ γ)) :=
(fun (v31, (v32, (v33, (v34, (v35, (v36, v37)))))) =>
 bif (decide (v31 < (((List.length x10) : Nat) : Int))) then
 bif (decide (((0 : Int) ≤ v31) ∧ (v31 < (((List.length v32) : Nat) : Int)))) then 
 bindO v32[(Int.toNat v31)]? fun x38 =>
 bif (decide (x38.2.2.1 = (2 : Int))) then
 bif (decide (((0 : Int) ≤ v31) ∧ (v31 < (((List.length v32) : Nat) : Int)))) then 
 bindO v32[(Int.toNat v31)]? fun x39 =>
 bif (decide ((List.length v37) ≤ (List.length v37))) then 
 bif (decide (((List.length ((List.take (List.length v37) v37) ++ (((2 : Int), (v31, (0 : Int))) :: ([] : List (Int × (Int × Int)))))) * 24) ≤ 140737488355328)) then 
 bindO (some ((List.take (List.length v37) v37) ++ (((2 : Int), (v31, (0 : Int))) :: ([] : List (Int × (Int × Int)))))) fun x40 =>
 bif ((decide ((List.length v32) ≤ (List.length (List.set v32 (Int.toNat v31) (x39.1, (x39.2.1, ((4 : Int), x39.2.2.2))))))) && (decide ((List.length x40) ≤ (List.length x40)))) then 
 some (Sum.inl ((Go.IntKind.wrap .i64 (v31 + (1 : Int))), ((List.take (List.length v32) (List.set v32 (Int.toNat v31) (x39.1, (x39.2.1, ((4 : Int), x39.2.2.2))))), (v33, (v34, (v35, (v36, (List.take (List.length x40) x40))))))))
 else none
 else none
 else none
 else none
 else
 bif (decide (x38.2.2.1 = (1 : Int))) then
 bif (decide (((0 : Int) ≤ v31) ∧ (v31 < (((List.length v32) : Nat) : Int)))) then 
 bindO v32[(Int.toNat v31)]? fun x42 =>
 bif ((decide ((List.length v32) ≤ (List.length (List.set v32 (Int.toNat v31) (x42.1, (x42.2.1, ((3 : Int), x42.2.2.2))))))) && (decide ((List.length v37) ≤ (List.length v37)))) then 
 some (Sum.inl ((Go.IntKind.wrap .i64 (v31 + (1 : Int))), ((List.take (List.length v32) (List.set v32 (Int.toNat v31) (x42.1, (x42.2.1, ((3 : Int), x42.2.2.2))))), (v33, (v34, (v35, (v36, (List.take (List.length v37) v37))))))))
 else none
 else none
 else
 bif ((decide ((List.length v32) ≤ (List.length v32))) && (decide ((List.length v37) ≤ (List.length v37)))) then 
 some (Sum.inl ((Go.IntKind.wrap .i64 (v31 + (1 : Int))), ((List.take (List.length v32) v32), (v33, (v34, (v35, (v36, (List.take (List.length v37) v37))))))))
 else none
 else none
 else
 outO (bif ((decide ((List.length v32) ≤ (List.length v32))) && (decide ((List.length v37) ≤ (List.length v37)))) then 
 some (Sum.inl ((List.take (List.length v32) v32), (v33, (v34, (v35, (v36, (List.take (List.length v37) v37)))))))
 else none))
noncomputable def skB (v45 : List Br) : (Int × List Br) → Option ((Int × List Br) ⊕ (List Br ⊕ γ)) :=
(fun (v51, v52) =>
 bif (decide (v51 < (((List.length v45) : Nat) : Int))) then
 bif (decide (((0 : Int) ≤ v51) ∧ (v51 < (((List.length v45) : Nat) : Int)))) then 
 bindO v52[(Int.toNat v51)]? fun x53 =>
 bif (decide (x53.2.2.1 = (0 : Int))) then
 bif (decide (((0 : Int) ≤ v51) ∧ (v51 < (((List.length v45) : Nat) : Int)))) then 
 bindO v52[(Int.toNat v51)]? fun x54 =>
 some (Sum.inl ((Go.IntKind.wrap .i64 (v51 + (1 : Int))), (List.set v52 (Int.toNat v51) (x54.1, (x54.2.1, ((6 : Int), x54.2.2.2))))))
 else none
 else
 some (Sum.inl ((Go.IntKind.wrap .i64 (v51 + (1 : Int))), v52))
 else none
 else
 outO (some (Sum.inl v52)))
noncomputable def pgB (v79 : List Br) (x112 : Br) : (Int × Ps) → Option ((Int × Ps) ⊕ (Ps ⊕ γ)) :=
(fun (v113, (v114, (v115, (v116, (v117, (v118, v119)))))) =>
 bif (decide (v113 < (((List.length v79) : Nat) : Int))) then
 bif (decide (((0 : Int) ≤ v113) ∧ (v113 < (((List.length v114) : Nat) : Int)))) then 
 bindO v114[(Int.toNat v113)]? fun x120 =>
 bif (decide (x120.2.2.1 = (0 : Int))) then
 bif (decide (x120.2.1 = x112.2.1)) then
 bif (decide (((0 : Int) ≤ v113) ∧ (v113 < (((List.length v114) : Nat) : Int)))) then 
 bindO v114[(Int.toNat v113)]? fun x121 =>
 bif (decide ((List.length v119) ≤ (List.length v119))) then 
 bif (decide (((List.length ((List.take (List.length v119) v119) ++ (((1 : Int), (v113, (0 : Int))) :: ([] : List (Int × (Int × Int)))))) * 24) ≤ 140737488355328)) then 
 bindO (some ((List.take (List.length v119) v119) ++ (((1 : Int), (v113, (0 : Int))) :: ([] : List (Int × (Int × Int)))))) fun x122 =>
 bif ((decide ((List.length v114) ≤ (List.length (List.set v114 (Int.toNat v113) (x121.1, (x121.2.1, ((1 : Int), x121.2.2.2))))))) && (decide ((List.length x122) ≤ (List.length x122)))) then 
 some (Sum.inl ((Go.IntKind.wrap .i64 (v113 + (1 : Int))), ((List.take (List.length v114) (List.set v114 (Int.toNat v113) (x121.1, (x121.2.1, ((1 : Int), x121.2.2.2))))), (v115, (v116, (v117, (v118, (List.take (List.length x122) x122))))))))
 else none
 else none
 else none
 else none
 else
 bif ((decide ((List.length v114) ≤ (List.length v114))) && (decide ((List.length v119) ≤ (List.length v119)))) then 
 some (Sum.inl ((Go.IntKind.wrap .i64 (v113 + (1 : Int))), ((List.take (List.length v114) v114), (v115, (v116, (v117, (v118, (List.take (List.length v119) v119))))))))
 else none
 else
 bif ((decide ((List.length v114) ≤ (List.length v114))) && (decide ((List.length v119) ≤ (List.length v119)))) then 
 some (Sum.inl ((Go.IntKind.wrap .i64 (v113 + (1 : Int))), ((List.take (List.length v114) v114), (v115, (v116, (v117, (v118, (List.take (List.length v119) v119))))))))
 else none
 else none
 else
 outO (bif ((decide ((List.length v114) ≤ (List.length v114))) && (decide ((List.length v119) ≤ (List.length v119)))) then 
 some (Sum.inl ((List.take (List.length v114) v114), (v115, (v116, (v117, (v118, (List.take (List.length v119) v119)))))))
 else none))
noncomputable def poB (v79 : List Br) : Int → Option (Int ⊕ (Unit ⊕ (Int ⊕ γ))) :=
(fun v85 =>
 bif (decide (v85 < (((List.length v79) : Nat) : Int))) then
 bif (decide (((0 : Int) ≤ v85) ∧ (v85 < (((List.length v79) : Nat) : Int)))) then 
 bindO v79[(Int.toNat v85)]? fun x86 =>
 bindO (fork_open x86.2.2.1) fun x87 =>
 bif x87 then
 outO (outO (some (Sum.inl v85)))
 else
 some (Sum.inl (Go.IntKind.wrap .i64 (v85 + (1 : Int))))
 else none
 else
 outO (some (Sum.inl ())))
noncomputable def pfB (v79 : List Br) : Int → Option (Int ⊕ (Unit ⊕ (Int ⊕ γ))) :=
(fun v90 =>
 bif (decide (v90 < (((List.length v79) : Nat) : Int))) then
 bif (decide (((0 : Int) ≤ v90) ∧ (v90 < (((List.length v79) : Nat) : Int)))) then 
 bindO v79[(Int.toNat v90)]? fun x91 =>
 bif (decide (x91.2.2.1 = (0 : Int))) then
 outO (outO (some (Sum.inl v90)))
 else
 some (Sum.inl (Go.IntKind.wrap .i64 (v90 + (1 : Int))))
 else none
 else
 outO (some (Sum.inl ())))
noncomputable def rsB (a1 : List Br) : (Int × (List Ac × List Br)) → Option ((Int × (List Ac × List Br)) ⊕ ((List Ac × List Br) ⊕ γ)) :=
(fun (v7, (v8, v9)) =>
 bif (decide (v7 < (((List.length a1) : Nat) : Int))) then
 bif (decide (((0 : Int) ≤ v7) ∧ (v7 < (((List.length a1) : Nat) : Int)))) then 
 bindO v9[(Int.toNat v7)]? fun x10 =>
 bif (decide (x10.2.2.1 = (2 : Int))) then
 bif (decide (((0 : Int) ≤ v7) ∧ (v7 < (((List.length a1) : Nat) : Int)))) then 
 bindO v9[(Int.toNat v7)]? fun x11 =>
 bif (decide ((List.length v8) ≤ (List.length v8))) then 
 bif (decide (((List.length ((List.take (List.length v8) v8) ++ (((2 : Int), (v7, (0 : Int))) :: ([] : List (Int × (Int × Int)))))) * 24) ≤ 140737488355328)) then 
 bindO (some ((List.take (List.length v8) v8) ++ (((2 : Int), (v7, (0 : Int))) :: ([] : List (Int × (Int × Int)))))) fun x12 =>
 bif (decide ((List.length x12) ≤ (List.length x12))) then 
 some (Sum.inl ((Go.IntKind.wrap .i64 (v7 + (1 : Int))), ((List.take (List.length x12) x12), (List.set v9 (Int.toNat v7) (x11.1, (x11.2.1, ((4 : Int), x11.2.2.2)))))))
 else none
 else none
 else none
 else none
 else
 bif (decide (x10.2.2.1 = (1 : Int))) then
 bif (decide (((0 : Int) ≤ v7) ∧ (v7 < (((List.length a1) : Nat) : Int)))) then 
 bindO v9[(Int.toNat v7)]? fun x14 =>
 bif (decide ((List.length v8) ≤ (List.length v8))) then 
 some (Sum.inl ((Go.IntKind.wrap .i64 (v7 + (1 : Int))), ((List.take (List.length v8) v8), (List.set v9 (Int.toNat v7) (x14.1, (x14.2.1, ((3 : Int), x14.2.2.2)))))))
 else none
 else none
 else
 bif (decide ((List.length v8) ≤ (List.length v8))) then 
 some (Sum.inl ((Go.IntKind.wrap .i64 (v7 + (1 : Int))), ((List.take (List.length v8) v8), v9)))
 else none
 else none
 else
 outO (bif (decide ((List.length v8) ≤ (List.length v8))) then 
 some (Sum.inl ((List.take (List.length v8) v8), v9))
 else none))
noncomputable def rgB (a1 : List Br) (x23 : Br) : (Int × (List Ac × List Br)) → Option ((Int × (List Ac × List Br)) ⊕ ((List Ac × List Br) ⊕ γ)) :=
(fun (v24, (v25, v26)) =>
 bif (decide (v24 < (((List.length a1) : Nat) : Int))) then
 bif (decide (((0 : Int) ≤ v24) ∧ (v24 < (((List.length a1) : Nat) : Int)))) then 
 bindO v26[(Int.toNat v24)]? fun x27 =>
 bif (decide (x27.2.2.1 = (0 : Int))) then
 bif (decide (((0 : Int) ≤ v24) ∧ (v24 < (((List.length a1) : Nat) : Int)))) then 
 bindO v26[(Int.toNat v24)]? fun x28 =>
 bif (decide (x28.2.1 = x23.2.1)) then
 bif (decide (((0 : Int) ≤ v24) ∧ (v24 < (((List.length a1) : Nat) : Int)))) then 
 bindO v26[(Int.toNat v24)]? fun x29 =>
 bif (decide ((List.length v25) ≤ (List.length v25))) then 
 bif (decide (((List.length ((List.take (List.length v25) v25) ++ (((1 : Int), (v24, (0 : Int))) :: ([] : List (Int × (Int × Int)))))) * 24) ≤ 140737488355328)) then 
 bindO (some ((List.take (List.length v25) v25) ++ (((1 : Int), (v24, (0 : Int))) :: ([] : List (Int × (Int × Int)))))) fun x30 =>
 bif (decide ((List.length x30) ≤ (List.length x30))) then 
 some (Sum.inl ((Go.IntKind.wrap .i64 (v24 + (1 : Int))), ((List.take (List.length x30) x30), (List.set v26 (Int.toNat v24) (x29.1, (x29.2.1, ((1 : Int), x29.2.2.2)))))))
 else none
 else none
 else none
 else none
 else
 bif (decide ((List.length v25) ≤ (List.length v25))) then 
 some (Sum.inl ((Go.IntKind.wrap .i64 (v24 + (1 : Int))), ((List.take (List.length v25) v25), v26)))
 else none
 else none
 else
 bif (decide ((List.length v25) ≤ (List.length v25))) then 
 some (Sum.inl ((Go.IntKind.wrap .i64 (v24 + (1 : Int))), ((List.take (List.length v25) v25), v26)))
 else none
 else none
 else
 outO (bif (decide ((List.length v25) ≤ (List.length v25))) then 
 some (Sum.inl ((List.take (List.length v25) v25), v26))
 else none))
noncomputable def rfB (a1 : List Br) : Int → Option (Int ⊕ (Unit ⊕ Int)) :=
(fun v6 =>
 bif (decide (v6 < (((List.length a1) : Nat) : Int))) then
 bif (decide (((0 : Int) ≤ v6) ∧ (v6 < (((List.length a1) : Nat) : Int)))) then 
 bindO a1[(Int.toNat v6)]? fun x7 =>
 bif (decide (x7.2.2.1 = (0 : Int))) then
 outO (outO (some v6))
 else
 some (Sum.inl (Go.IntKind.wrap .i64 (v6 + (1 : Int))))
 else none
 else
 outO (some (Sum.inl ())))
theorem first_eq (a1 : List Br) (a2 : Int) (a3 a4 a5 : Bool) : dialtoneref23_first (a1, (a2, (a3, (a4, a5)))) =

  joinO (loopO (rfB a1) (0 : Int)) fun _ =>
  some (-1 : Int) := rfl
theorem stop_eq (a1 : List Br) (a2 : Int) (a3 a4 a5 : Bool) : dialtoneref23_stop (a1, (a2, (a3, (a4, a5)))) =

  bif (decide (((List.length a1) * 40) ≤ 140737488355328)) then 
   joinO (loopO (rsB a1) ((0 : Int), (([] : List (Int × (Int × Int))), a1))) fun (v17, v18) =>
   bif ((decide ((List.length a1) ≤ (List.length v18))) && (decide ((List.length v17) ≤ (List.length v17)))) then 
    some (((List.take (List.length a1) v18), (a2, (a3, (a4, a5)))), (List.take (List.length v17) v17))
   else none
  else none := rfl
theorem skip_eq (a1 : List Br) (a2 : Int) (a3 a4 a5 : Bool) : dialtoneref23_skip (a1, (a2, (a3, (a4, a5)))) =

  bif (decide (((List.length a1) * 40) ≤ 140737488355328)) then 
   joinO (loopO (skB a1) ((0 : Int), a1)) fun v13 =>
   bif (decide ((List.length a1) ≤ (List.length v13))) then 
    some ((List.take (List.length a1) v13), (a2, (a3, (a4, a5))))
   else none
  else none := rfl
theorem goOn_eq (a1 : List Br) (a2 : Int) (a3 a4 a5 : Bool) : dialtoneref23_goOn (a1, (a2, (a3, (a4, a5)))) =

  bif a5 then
   some ((a1, (a2, (a3, (a4, a5)))), ([] : List (Int × (Int × Int))))
  else
   bindO (dialtoneref23_AnyOpen (a1, (a2, (a3, (a4, a5))))) fun x6 =>
   bif x6 then
    some ((a1, (a2, (a3, (a4, a5)))), ([] : List (Int × (Int × Int))))
   else
    bif (decide (((List.length a1) * 40) ≤ 140737488355328)) then 
     bif (decide ((List.length a1) ≤ (List.length a1))) then 
      bindO (dialtoneref23_first ((List.take (List.length a1) a1), (a2, (a3, (a4, a5))))) fun x8 =>
      bif a4 then
       bif (decide ((List.length a1) ≤ (List.length a1))) then 
        bindO (dialtoneref23_skip ((List.take (List.length a1) a1), (a2, (a3, (a4, a5))))) fun (x10, (x11, (x12, (x13, x14)))) =>
        bindO (dialtoneref23_Best (x10, (x11, (x12, (x13, Bool.true))))) fun x15 =>
        some ((x10, (x11, (x12, (x13, Bool.true)))), (((6 : Int), ((-1 : Int), x15)) :: ([] : List (Int × (Int × Int)))))
       else none
      else
       bif (decide (x8 < (0 : Int))) then
        bif (decide ((List.length a1) ≤ (List.length a1))) then 
         bindO (dialtoneref23_skip ((List.take (List.length a1) a1), (a2, (a3, (a4, a5))))) fun (x17, (x18, (x19, (x20, x21)))) =>
         bindO (dialtoneref23_Best (x17, (x18, (x19, (x20, Bool.true))))) fun x22 =>
         some ((x17, (x18, (x19, (x20, Bool.true)))), (((6 : Int), ((-1 : Int), x22)) :: ([] : List (Int × (Int × Int)))))
        else none
       else
        bif (decide (((0 : Int) ≤ x8) ∧ (x8 < (((List.length a1) : Nat) : Int)))) then 
         bindO a1[(Int.toNat x8)]? fun x23 =>
         joinO (loopO (rgB a1 x23) ((0 : Int), (([] : List (Int × (Int × Int))), a1))) fun (v34, v35) =>
         bif ((decide ((List.length a1) ≤ (List.length v35))) && (decide ((List.length v34) ≤ (List.length v34)))) then 
          some (((List.take (List.length a1) v35), (a2, (a3, (a4, a5)))), (List.take (List.length v34) v34))
         else none
        else none
     else none
    else none := rfl
def mt (f : Br → Br) (l : List Br) (i : Nat) : List Br := (l.take i).map f ++ l.drop i
theorem mt_zero (f : Br → Br) (l : List Br) : mt f l 0 = l := by simp [mt]
theorem mt_all (f : Br → Br) (l : List Br) : mt f l l.length = l.map f := by simp [mt]
theorem mt_len (f : Br → Br) (l : List Br) (i : Nat) : (mt f l i).length = l.length := by simp [mt]; omega
theorem mt_step (f : Br → Br) {l : List Br} {i : Nat} (hi : i < l.length) : mt f l i = (l.take i).map f ++ l.getD i d0 :: l.drop (i + 1) ∧ mt f l (i + 1) = (l.take i).map f ++ f (l.getD i d0) :: l.drop (i + 1) := by
  have h : l.getD i d0 = l[i] := by rw [List.getD_eq_getElem?_getD, List.getElem?_eq_getElem hi]; rfl
  rw [h]
  constructor
  · unfold mt; rw [List.drop_eq_getElem_cons hi]
  · unfold mt; rw [List.take_add_one, List.getElem?_eq_getElem hi, List.map_append, List.append_assoc]; rfl
theorem mt_set {f : Br → Br} {l : List Br} {i : Nat} (hi : i < l.length) {y : Br} (h : f (l.getD i d0) = y) : List.set (mt f l i) (Int.toNat (i : Int)) y = mt f l (i + 1) := by
  obtain ⟨h1, h2⟩ := mt_step f hi
  rw [h1, h2, h, Int.toNat_natCast, List.set_append_right _ _ (by simp; omega)]
  congr 1
  have : i - ((l.take i).map f).length = 0 := by simp; omega
  rw [this]; rfl
theorem mt_id {f : Br → Br} {l : List Br} {i : Nat} (hi : i < l.length) (h : f (l.getD i d0) = l.getD i d0) : mt f l (i + 1) = mt f l i := by
  obtain ⟨h1, h2⟩ := mt_step f hi
  rw [h1, h2, h]
theorem mt_at (f : Br → Br) {l : List Br} {i : Nat} (hi : i < l.length) : ∃ x, l.getD i d0 = x ∧ ∀ {β : Type} (k : Br → Option β), bindO (mt f l i)[Int.toNat (i : Int)]? k = k x := by
  refine ⟨_, rfl, fun k => ?_⟩
  have h : (mt f l i)[i]? = some (l.getD i d0) := by
    rw [(mt_step f hi).1, List.getElem?_append_right (by simp; omega)]
    have : i - ((l.take i).map f).length = 0 := by simp; omega
    rw [this]; rfl
  rw [Int.toNat_natCast, h]; rfl
theorem mt_take (f : Br → Br) (l : List Br) (i j : Nat) : List.take l.length (mt f l j) = mt f l j := by rw [← mt_len f l j, List.take_length]
def ac (p : Br → Bool) (kind : Int) (l : List Br) : Nat → List Ac
  | 0 => []
  | k + 1 => ac p kind l k ++ (if p (l.getD k d0) then [(kind, ((k : Int), 0))] else [])
theorem ac_succ (p : Br → Bool) (kind : Int) (l : List Br) (k : Nat) : ac p kind l (k + 1) = ac p kind l k ++ (if p (l.getD k d0) then [(kind, ((k : Int), 0))] else []) := rfl
theorem ac_len (p : Br → Bool) (kind : Int) (l : List Br) (k : Nat) : (ac p kind l k).length ≤ k := by
  induction k with
  | zero => exact Nat.le_refl _
  | succ k ih => rw [ac_succ, List.length_append]; split <;> simp <;> omega
def fst1 (x : Br) : Br := if x.2.2.1 = 2 then (x.1, (x.2.1, (4, x.2.2.2))) else if x.2.2.1 = 1 then (x.1, (x.2.1, (3, x.2.2.2))) else x
def fsk (x : Br) : Br := if x.2.2.1 = 0 then (x.1, (x.2.1, (6, x.2.2.2))) else x
def pSn (q : Int) (x : Br) : Bool := decide (x.2.2.1 = 0 ∧ x.2.1 = q)
def fsn (q : Int) (x : Br) : Br := if x.2.2.1 = 0 ∧ x.2.1 = q then (x.1, (x.2.1, (1, x.2.2.2))) else x
def pRg (x : Br) : Bool := decide (x.2.2.1 = 2)
theorem ps_round {γ : Type} {l L : List Br} {i : Nat} (hL : L.length = l.length) (hi : i < l.length) (hl : l.length ≤ 1000) (w : Int) (b1 b2 b3 : Bool) {A : List Ac} (hA : A.length ≤ 1000) : psB L (((i : Int), (mt fst1 l i, (w, (b1, (b2, (b3, A ++ ac pRg 2 l i))))))) = (some (.inl ((((i + 1 : Nat) : Int), (mt fst1 l (i + 1), (w, (b1, (b2, (b3, A ++ ac pRg 2 l (i + 1))))))))) : Option (_ ⊕ (_ ⊕ γ))) := by
  have hac := ac_len (pRg) 2 l i
  have m1 := mt_len (fst1) l i
  have m2 := mt_len (fst1) l (i + 1)
  have t1 := mt_take (fst1) l i (i + 1)
  have t2 := mt_take (fst1) l i i
  have hn : ((i : Int) + 1) = ((i + 1 : Nat) : Int) := rfl
  have hset := fun y h => mt_set (f := fst1) (y := y) hi h
  have hid := fun h => mt_id (f := fst1) hi h
  obtain ⟨x, hx, hb⟩ := mt_at (fst1) hi
  rw [hx] at hset hid
  unfold psB
  simp only [ac_succ, hx]
  obtain ⟨u, q, s, c⟩ := x
  by_cases h : s = 2
  · subst h
    have e := hset (u, (q, (4, c))) (by simp [fst1])
    simp (disch := (first | omega | (simp only [List.length_append, List.length_cons, List.length_nil, List.nil_append, List.length_take, List.length_drop]; omega))) only [↓bindO_some, ↓bindO_none, ↓joinO_inl, ↓joinO_inr, ↓joinO_none, ↓outO_some, ↓outO_none, ↓cond_true, ↓cond_false, ↓cond_and, ↓cond_or, ↓cond_not, ↓cond_ite, ↓if_pos, ↓if_neg, ↓if_true, ↓if_false, List.take_length, Nat.le_refl, Bool.not_true, Bool.not_false, ↓hb, e, if_pos, if_neg, wrap_i64', hn, t1, t2, m1, m2, hL, List.length_set, decide_true, Bool.and_self, Bool.and_true]
    simp [pRg, ac_succ]
  · by_cases h' : s = 1
    · subst h'
      have e := hset (u, (q, (3, c))) (by simp [fst1])
      simp (disch := (first | omega | (simp only [List.length_append, List.length_cons, List.length_nil, List.nil_append, List.length_take, List.length_drop]; omega))) only [↓bindO_some, ↓bindO_none, ↓joinO_inl, ↓joinO_inr, ↓joinO_none, ↓outO_some, ↓outO_none, ↓cond_true, ↓cond_false, ↓cond_and, ↓cond_or, ↓cond_not, ↓cond_ite, ↓if_pos, ↓if_neg, ↓if_true, ↓if_false, List.take_length, Nat.le_refl, Bool.not_true, Bool.not_false, ↓hb, e, if_pos, if_neg, wrap_i64', hn, t1, t2, m1, m2, hL, List.length_set, decide_true, Bool.and_self, Bool.and_true]
      simp [pRg, ac_succ]
    · have e := hid (by simp [fst1, h, h'])
      simp (disch := (first | omega | (simp only [List.length_append, List.length_cons, List.length_nil, List.nil_append, List.length_take, List.length_drop]; omega))) only [↓bindO_some, ↓bindO_none, ↓joinO_inl, ↓joinO_inr, ↓joinO_none, ↓outO_some, ↓outO_none, ↓cond_true, ↓cond_false, ↓cond_and, ↓cond_or, ↓cond_not, ↓cond_ite, ↓if_pos, ↓if_neg, ↓if_true, ↓if_false, List.take_length, Nat.le_refl, Bool.not_true, Bool.not_false, ↓hb, e, if_pos, if_neg, wrap_i64', hn, t1, t2, m1, m2, hL, List.length_set, decide_true, Bool.and_self, Bool.and_true, h, h']
      simp [pRg, ac_succ, h]
theorem rs_round {γ : Type} {l L : List Br} {i : Nat} (hL : L.length = l.length) (hi : i < l.length) (hl : l.length ≤ 1000) : rsB L (((i : Int), (ac pRg 2 l i, mt fst1 l i))) = (some (.inl ((((i + 1 : Nat) : Int), (ac pRg 2 l (i + 1), mt fst1 l (i + 1))))) : Option (_ ⊕ (_ ⊕ γ))) := by
  have hac := ac_len (pRg) 2 l i
  have m1 := mt_len (fst1) l i
  have m2 := mt_len (fst1) l (i + 1)
  have t1 := mt_take (fst1) l i (i + 1)
  have t2 := mt_take (fst1) l i i
  have hn : ((i : Int) + 1) = ((i + 1 : Nat) : Int) := rfl
  have hset := fun y h => mt_set (f := fst1) (y := y) hi h
  have hid := fun h => mt_id (f := fst1) hi h
  obtain ⟨x, hx, hb⟩ := mt_at (fst1) hi
  rw [hx] at hset hid
  unfold rsB
  simp only [ac_succ, hx]
  obtain ⟨u, q, s, c⟩ := x
  by_cases h : s = 2
  · subst h
    have e := hset (u, (q, (4, c))) (by simp [fst1])
    simp (disch := (first | omega | (simp only [List.length_append, List.length_cons, List.length_nil, List.nil_append, List.length_take, List.length_drop]; omega))) only [↓bindO_some, ↓bindO_none, ↓joinO_inl, ↓joinO_inr, ↓joinO_none, ↓outO_some, ↓outO_none, ↓cond_true, ↓cond_false, ↓cond_and, ↓cond_or, ↓cond_not, ↓cond_ite, ↓if_pos, ↓if_neg, ↓if_true, ↓if_false, List.take_length, Nat.le_refl, Bool.not_true, Bool.not_false, ↓hb, e, if_pos, if_neg, wrap_i64', hn, t1, t2, m1, m2, hL, List.length_set, decide_true, Bool.and_self, Bool.and_true]
    simp [pRg, ac_succ]
  · by_cases h' : s = 1
    · subst h'
      have e := hset (u, (q, (3, c))) (by simp [fst1])
      simp (disch := (first | omega | (simp only [List.length_append, List.length_cons, List.length_nil, List.nil_append, List.length_take, List.length_drop]; omega))) only [↓bindO_some, ↓bindO_none, ↓joinO_inl, ↓joinO_inr, ↓joinO_none, ↓outO_some, ↓outO_none, ↓cond_true, ↓cond_false, ↓cond_and, ↓cond_or, ↓cond_not, ↓cond_ite, ↓if_pos, ↓if_neg, ↓if_true, ↓if_false, List.take_length, Nat.le_refl, Bool.not_true, Bool.not_false, ↓hb, e, if_pos, if_neg, wrap_i64', hn, t1, t2, m1, m2, hL, List.length_set, decide_true, Bool.and_self, Bool.and_true]
      simp [pRg, ac_succ]
    · have e := hid (by simp [fst1, h, h'])
      simp (disch := (first | omega | (simp only [List.length_append, List.length_cons, List.length_nil, List.nil_append, List.length_take, List.length_drop]; omega))) only [↓bindO_some, ↓bindO_none, ↓joinO_inl, ↓joinO_inr, ↓joinO_none, ↓outO_some, ↓outO_none, ↓cond_true, ↓cond_false, ↓cond_and, ↓cond_or, ↓cond_not, ↓cond_ite, ↓if_pos, ↓if_neg, ↓if_true, ↓if_false, List.take_length, Nat.le_refl, Bool.not_true, Bool.not_false, ↓hb, e, if_pos, if_neg, wrap_i64', hn, t1, t2, m1, m2, hL, List.length_set, decide_true, Bool.and_self, Bool.and_true, h, h']
      simp [pRg, ac_succ, h]
theorem pg_round {γ : Type} {l L : List Br} {i : Nat} (hL : L.length = l.length) (hi : i < l.length) (hl : l.length ≤ 1000) (w : Int) (b1 b2 b3 : Bool) {A : List Ac} (hA : A.length ≤ 1000) {X : Br} {q0 : Int} (hq : X.2.1 = q0) : pgB L X (((i : Int), (mt (fsn q0) l i, (w, (b1, (b2, (b3, A ++ ac (pSn q0) 1 l i))))))) = (some (.inl ((((i + 1 : Nat) : Int), (mt (fsn q0) l (i + 1), (w, (b1, (b2, (b3, A ++ ac (pSn q0) 1 l (i + 1))))))))) : Option (_ ⊕ (_ ⊕ γ))) := by
  have hac := ac_len (pSn q0) 1 l i
  have m1 := mt_len (fsn q0) l i
  have m2 := mt_len (fsn q0) l (i + 1)
  have t1 := mt_take (fsn q0) l i (i + 1)
  have t2 := mt_take (fsn q0) l i i
  have hn : ((i : Int) + 1) = ((i + 1 : Nat) : Int) := rfl
  have hset := fun y h => mt_set (f := fsn q0) (y := y) hi h
  have hid := fun h => mt_id (f := fsn q0) hi h
  obtain ⟨x, hx, hb⟩ := mt_at (fsn q0) hi
  rw [hx] at hset hid
  unfold pgB
  simp only [ac_succ, hx]
  obtain ⟨u, q, s, c⟩ := x
  by_cases h : s = 0
  · subst h
    by_cases h' : q = q0
    · subst h'
      have e := hset (u, (q, (1, c))) (by simp [fsn])
      simp (disch := (first | omega | (simp only [List.length_append, List.length_cons, List.length_nil, List.nil_append, List.length_take, List.length_drop]; omega))) only [↓bindO_some, ↓bindO_none, ↓joinO_inl, ↓joinO_inr, ↓joinO_none, ↓outO_some, ↓outO_none, ↓cond_true, ↓cond_false, ↓cond_and, ↓cond_or, ↓cond_not, ↓cond_ite, ↓if_pos, ↓if_neg, ↓if_true, ↓if_false, List.take_length, Nat.le_refl, Bool.not_true, Bool.not_false, ↓hb, e, if_pos, if_neg, wrap_i64', hn, t1, t2, m1, m2, hL, List.length_set, decide_true, Bool.and_self, Bool.and_true, hq]
      simp [pSn, ac_succ]
    · have e := hid (by simp [fsn, h'])
      simp (disch := (first | omega | (simp only [List.length_append, List.length_cons, List.length_nil, List.nil_append, List.length_take, List.length_drop]; omega))) only [↓bindO_some, ↓bindO_none, ↓joinO_inl, ↓joinO_inr, ↓joinO_none, ↓outO_some, ↓outO_none, ↓cond_true, ↓cond_false, ↓cond_and, ↓cond_or, ↓cond_not, ↓cond_ite, ↓if_pos, ↓if_neg, ↓if_true, ↓if_false, List.take_length, Nat.le_refl, Bool.not_true, Bool.not_false, ↓hb, e, if_pos, if_neg, wrap_i64', hn, t1, t2, m1, m2, hL, List.length_set, decide_true, Bool.and_self, Bool.and_true, hq, h']
      simp [pSn, ac_succ, h']
  · have e := hid (by simp [fsn, h])
    simp (disch := (first | omega | (simp only [List.length_append, List.length_cons, List.length_nil, List.nil_append, List.length_take, List.length_drop]; omega))) only [↓bindO_some, ↓bindO_none, ↓joinO_inl, ↓joinO_inr, ↓joinO_none, ↓outO_some, ↓outO_none, ↓cond_true, ↓cond_false, ↓cond_and, ↓cond_or, ↓cond_not, ↓cond_ite, ↓if_pos, ↓if_neg, ↓if_true, ↓if_false, List.take_length, Nat.le_refl, Bool.not_true, Bool.not_false, ↓hb, e, if_pos, if_neg, wrap_i64', hn, t1, t2, m1, m2, hL, List.length_set, decide_true, Bool.and_self, Bool.and_true, h]
    simp [pSn, ac_succ, h]
theorem rg_round {γ : Type} {l L : List Br} {i : Nat} (hL : L.length = l.length) (hi : i < l.length) (hl : l.length ≤ 1000) {X : Br} {q0 : Int} (hq : X.2.1 = q0) : rgB L X (((i : Int), (ac (pSn q0) 1 l i, mt (fsn q0) l i))) = (some (.inl ((((i + 1 : Nat) : Int), (ac (pSn q0) 1 l (i + 1), mt (fsn q0) l (i + 1))))) : Option (_ ⊕ (_ ⊕ γ))) := by
  have hac := ac_len (pSn q0) 1 l i
  have m1 := mt_len (fsn q0) l i
  have m2 := mt_len (fsn q0) l (i + 1)
  have t1 := mt_take (fsn q0) l i (i + 1)
  have t2 := mt_take (fsn q0) l i i
  have hn : ((i : Int) + 1) = ((i + 1 : Nat) : Int) := rfl
  have hset := fun y h => mt_set (f := fsn q0) (y := y) hi h
  have hid := fun h => mt_id (f := fsn q0) hi h
  obtain ⟨x, hx, hb⟩ := mt_at (fsn q0) hi
  rw [hx] at hset hid
  unfold rgB
  simp only [ac_succ, hx]
  obtain ⟨u, q, s, c⟩ := x
  by_cases h : s = 0
  · subst h
    by_cases h' : q = q0
    · subst h'
      have e := hset (u, (q, (1, c))) (by simp [fsn])
      simp (disch := (first | omega | (simp only [List.length_append, List.length_cons, List.length_nil, List.nil_append, List.length_take, List.length_drop]; omega))) only [↓bindO_some, ↓bindO_none, ↓joinO_inl, ↓joinO_inr, ↓joinO_none, ↓outO_some, ↓outO_none, ↓cond_true, ↓cond_false, ↓cond_and, ↓cond_or, ↓cond_not, ↓cond_ite, ↓if_pos, ↓if_neg, ↓if_true, ↓if_false, List.take_length, Nat.le_refl, Bool.not_true, Bool.not_false, ↓hb, e, if_pos, if_neg, wrap_i64', hn, t1, t2, m1, m2, hL, List.length_set, decide_true, Bool.and_self, Bool.and_true, hq]
      simp [pSn, ac_succ]
    · have e := hid (by simp [fsn, h'])
      simp (disch := (first | omega | (simp only [List.length_append, List.length_cons, List.length_nil, List.nil_append, List.length_take, List.length_drop]; omega))) only [↓bindO_some, ↓bindO_none, ↓joinO_inl, ↓joinO_inr, ↓joinO_none, ↓outO_some, ↓outO_none, ↓cond_true, ↓cond_false, ↓cond_and, ↓cond_or, ↓cond_not, ↓cond_ite, ↓if_pos, ↓if_neg, ↓if_true, ↓if_false, List.take_length, Nat.le_refl, Bool.not_true, Bool.not_false, ↓hb, e, if_pos, if_neg, wrap_i64', hn, t1, t2, m1, m2, hL, List.length_set, decide_true, Bool.and_self, Bool.and_true, hq, h']
      simp [pSn, ac_succ, h']
  · have e := hid (by simp [fsn, h])
    simp (disch := (first | omega | (simp only [List.length_append, List.length_cons, List.length_nil, List.nil_append, List.length_take, List.length_drop]; omega))) only [↓bindO_some, ↓bindO_none, ↓joinO_inl, ↓joinO_inr, ↓joinO_none, ↓outO_some, ↓outO_none, ↓cond_true, ↓cond_false, ↓cond_and, ↓cond_or, ↓cond_not, ↓cond_ite, ↓if_pos, ↓if_neg, ↓if_true, ↓if_false, List.take_length, Nat.le_refl, Bool.not_true, Bool.not_false, ↓hb, e, if_pos, if_neg, wrap_i64', hn, t1, t2, m1, m2, hL, List.length_set, decide_true, Bool.and_self, Bool.and_true, h]
    simp [pSn, ac_succ, h]
theorem sk_round {γ : Type} {l L : List Br} {i : Nat} (hL : L.length = l.length) (hi : i < l.length) (hl : l.length ≤ 1000) : skB L (((i : Int), mt fsk l i)) = (some (.inl ((((i + 1 : Nat) : Int), mt fsk l (i + 1)))) : Option (_ ⊕ (_ ⊕ γ))) := by
  have hac := ac_len (pRg) 2 l i
  have m1 := mt_len (fsk) l i
  have m2 := mt_len (fsk) l (i + 1)
  have t1 := mt_take (fsk) l i (i + 1)
  have t2 := mt_take (fsk) l i i
  have hn : ((i : Int) + 1) = ((i + 1 : Nat) : Int) := rfl
  have hset := fun y h => mt_set (f := fsk) (y := y) hi h
  have hid := fun h => mt_id (f := fsk) hi h
  obtain ⟨x, hx, hb⟩ := mt_at (fsk) hi
  rw [hx] at hset hid
  unfold skB
  simp only [ac_succ, hx]
  obtain ⟨u, q, s, c⟩ := x
  by_cases h : s = 0
  · subst h
    have e := hset (u, (q, (6, c))) (by simp [fsk])
    simp (disch := (first | omega | (simp only [List.length_append, List.length_cons, List.length_nil, List.nil_append, List.length_take, List.length_drop]; omega))) only [↓bindO_some, ↓bindO_none, ↓joinO_inl, ↓joinO_inr, ↓joinO_none, ↓outO_some, ↓outO_none, ↓cond_true, ↓cond_false, ↓cond_and, ↓cond_or, ↓cond_not, ↓cond_ite, ↓if_pos, ↓if_neg, ↓if_true, ↓if_false, List.take_length, Nat.le_refl, Bool.not_true, Bool.not_false, ↓hb, e, if_pos, if_neg, wrap_i64', hn, t1, t2, m1, m2, hL, List.length_set, decide_true, Bool.and_self, Bool.and_true]
  · have e := hid (by simp [fsk, h])
    simp (disch := (first | omega | (simp only [List.length_append, List.length_cons, List.length_nil, List.nil_append, List.length_take, List.length_drop]; omega))) only [↓bindO_some, ↓bindO_none, ↓joinO_inl, ↓joinO_inr, ↓joinO_none, ↓outO_some, ↓outO_none, ↓cond_true, ↓cond_false, ↓cond_and, ↓cond_or, ↓cond_not, ↓cond_ite, ↓if_pos, ↓if_neg, ↓if_true, ↓if_false, List.take_length, Nat.le_refl, Bool.not_true, Bool.not_false, ↓hb, e, if_pos, if_neg, wrap_i64', hn, t1, t2, m1, m2, hL, List.length_set, decide_true, Bool.and_self, Bool.and_true, h]
theorem ps_j {γ : Type} {l L : List Br} (hL : L.length = l.length) (hl : l.length ≤ 1000) (w : Int) (b1 b2 b3 : Bool) {A : List Ac} (hA : A.length ≤ 1000) : loopO (psB (γ := γ) L) ((0 : Int), (l, (w, (b1, (b2, (b3, A)))))) = some (.inl (l.map fst1, (w, (b1, (b2, (b3, A ++ ac pRg 2 l l.length)))))) :=
  loopO_from (fun k => ((k : Int), (mt fst1 l k, (w, (b1, (b2, (b3, A ++ ac pRg 2 l k))))))) l.length (by rw [mt_zero]; simp [ac]) (fun i hi => ps_round hL hi hl w b1 b2 b3 hA) (by
    unfold psB; simp (disch := (first | omega | (simp only [List.length_append, List.length_cons, List.length_nil, List.nil_append, List.length_take, List.length_drop]; omega))) only [↓bindO_some, ↓bindO_none, ↓joinO_inl, ↓joinO_inr, ↓joinO_none, ↓outO_some, ↓outO_none, ↓cond_true, ↓cond_false, ↓cond_and, ↓cond_or, ↓cond_not, ↓cond_ite, ↓if_pos, ↓if_neg, ↓if_true, ↓if_false, List.take_length, Nat.le_refl, Bool.not_true, Bool.not_false, if_pos, if_neg, mt_take, hL, decide_true, Bool.and_self, Bool.and_true]
    rw [mt_all])
theorem rs_j {γ : Type} {l L : List Br} (hL : L.length = l.length) (hl : l.length ≤ 1000) : loopO (rsB (γ := γ) L) ((0 : Int), (([] : List Ac), l)) = some (.inl (ac pRg 2 l l.length, l.map fst1)) :=
  loopO_from (fun k => ((k : Int), (ac pRg 2 l k, mt fst1 l k))) l.length (by rw [mt_zero]; simp [ac]) (fun i hi => rs_round hL hi hl) (by
    unfold rsB; simp (disch := (first | omega | (simp only [List.length_append, List.length_cons, List.length_nil, List.nil_append, List.length_take, List.length_drop]; omega))) only [↓bindO_some, ↓bindO_none, ↓joinO_inl, ↓joinO_inr, ↓joinO_none, ↓outO_some, ↓outO_none, ↓cond_true, ↓cond_false, ↓cond_and, ↓cond_or, ↓cond_not, ↓cond_ite, ↓if_pos, ↓if_neg, ↓if_true, ↓if_false, List.take_length, Nat.le_refl, Bool.not_true, Bool.not_false, if_pos, if_neg, mt_take, hL, decide_true, Bool.and_self, Bool.and_true]
    rw [mt_all])
theorem pg_j {γ : Type} {l L : List Br} (hL : L.length = l.length) (hl : l.length ≤ 1000) (w : Int) (b1 b2 b3 : Bool) {A : List Ac} (hA : A.length ≤ 1000) (X : Br) : loopO (pgB (γ := γ) L X) ((0 : Int), (l, (w, (b1, (b2, (b3, A)))))) = some (.inl (l.map (fsn X.2.1), (w, (b1, (b2, (b3, A ++ ac (pSn X.2.1) 1 l l.length)))))) :=
  loopO_from (fun k => ((k : Int), (mt (fsn X.2.1) l k, (w, (b1, (b2, (b3, A ++ ac (pSn X.2.1) 1 l k))))))) l.length (by rw [mt_zero]; simp [ac]) (fun i hi => pg_round hL hi hl w b1 b2 b3 hA rfl) (by
    unfold pgB; simp (disch := (first | omega | (simp only [List.length_append, List.length_cons, List.length_nil, List.nil_append, List.length_take, List.length_drop]; omega))) only [↓bindO_some, ↓bindO_none, ↓joinO_inl, ↓joinO_inr, ↓joinO_none, ↓outO_some, ↓outO_none, ↓cond_true, ↓cond_false, ↓cond_and, ↓cond_or, ↓cond_not, ↓cond_ite, ↓if_pos, ↓if_neg, ↓if_true, ↓if_false, List.take_length, Nat.le_refl, Bool.not_true, Bool.not_false, if_pos, if_neg, mt_take, hL, decide_true, Bool.and_self, Bool.and_true]
    rw [mt_all])
theorem rg_j {γ : Type} {l L : List Br} (hL : L.length = l.length) (hl : l.length ≤ 1000) (X : Br) : loopO (rgB (γ := γ) L X) ((0 : Int), (([] : List Ac), l)) = some (.inl (ac (pSn X.2.1) 1 l l.length, l.map (fsn X.2.1))) :=
  loopO_from (fun k => ((k : Int), (ac (pSn X.2.1) 1 l k, mt (fsn X.2.1) l k))) l.length (by rw [mt_zero]; simp [ac]) (fun i hi => rg_round hL hi hl rfl) (by
    unfold rgB; simp (disch := (first | omega | (simp only [List.length_append, List.length_cons, List.length_nil, List.nil_append, List.length_take, List.length_drop]; omega))) only [↓bindO_some, ↓bindO_none, ↓joinO_inl, ↓joinO_inr, ↓joinO_none, ↓outO_some, ↓outO_none, ↓cond_true, ↓cond_false, ↓cond_and, ↓cond_or, ↓cond_not, ↓cond_ite, ↓if_pos, ↓if_neg, ↓if_true, ↓if_false, List.take_length, Nat.le_refl, Bool.not_true, Bool.not_false, if_pos, if_neg, mt_take, hL, decide_true, Bool.and_self, Bool.and_true]
    rw [mt_all])
theorem sk_j {γ : Type} {l L : List Br} (hL : L.length = l.length) (hl : l.length ≤ 1000) : loopO (skB (γ := γ) L) ((0 : Int), l) = some (.inl (l.map fsk)) :=
  loopO_from (fun k => ((k : Int), mt fsk l k)) l.length (by rw [mt_zero]; rfl) (fun i hi => sk_round hL hi hl) (by
    unfold skB; simp (disch := (first | omega | (simp only [List.length_append, List.length_cons, List.length_nil, List.nil_append, List.length_take, List.length_drop]; omega))) only [↓bindO_some, ↓bindO_none, ↓joinO_inl, ↓joinO_inr, ↓joinO_none, ↓outO_some, ↓outO_none, ↓cond_true, ↓cond_false, ↓cond_and, ↓cond_or, ↓cond_not, ↓cond_ite, ↓if_pos, ↓if_neg, ↓if_true, ↓if_false, List.take_length, Nat.le_refl, Bool.not_true, Bool.not_false, if_pos, if_neg, mt_take, hL, decide_true, Bool.and_self, Bool.and_true]
    rw [mt_all])
theorem stop_j (l : List Br) (a2 : Int) (a3 a4 a5 : Bool) (hl : l.length ≤ 1000) : dialtoneref23_stop (l, (a2, (a3, (a4, a5)))) = some ((l.map fst1, (a2, (a3, (a4, a5)))), ac pRg 2 l l.length) := by
  have hm : (l.map fst1).length = l.length := by simp
  have ht : List.take l.length (l.map fst1) = l.map fst1 := by rw [← hm, List.take_length]
  rw [stop_eq, rs_j rfl hl]
  simp (disch := (first | omega | (simp only [List.length_append, List.length_cons, List.length_nil, List.nil_append, List.length_take, List.length_drop]; omega))) only [↓bindO_some, ↓bindO_none, ↓joinO_inl, ↓joinO_inr, ↓joinO_none, ↓outO_some, ↓outO_none, ↓cond_true, ↓cond_false, ↓cond_and, ↓cond_or, ↓cond_not, ↓cond_ite, ↓if_pos, ↓if_neg, ↓if_true, ↓if_false, List.take_length, Nat.le_refl, Bool.not_true, Bool.not_false, if_pos, hm, ht, decide_true, Bool.and_self]
theorem skip_j (l : List Br) (a2 : Int) (a3 a4 a5 : Bool) (hl : l.length ≤ 1000) : dialtoneref23_skip (l, (a2, (a3, (a4, a5)))) = some (l.map fsk, (a2, (a3, (a4, a5)))) := by
  have hm : (l.map fsk).length = l.length := by simp
  have ht : List.take l.length (l.map fsk) = l.map fsk := by rw [← hm, List.take_length]
  rw [skip_eq, sk_j rfl hl]
  simp (disch := (first | omega | (simp only [List.length_append, List.length_cons, List.length_nil, List.nil_append, List.length_take, List.length_drop]; omega))) only [↓bindO_some, ↓bindO_none, ↓joinO_inl, ↓joinO_inr, ↓joinO_none, ↓outO_some, ↓outO_none, ↓cond_true, ↓cond_false, ↓cond_and, ↓cond_or, ↓cond_not, ↓cond_ite, ↓if_pos, ↓if_neg, ↓if_true, ↓if_false, List.take_length, Nat.le_refl, Bool.not_true, Bool.not_false, if_pos, hm, ht, decide_true, Bool.and_self]
end Go.Proofs.Ytheicchelhjcjaa
