import Derived.Test.YtkhdpjlpahammaaS1p
set_option linter.unusedVariables false
set_option linter.unusedSimpArgs false
set_option maxRecDepth 100000
namespace Go.Proofs.Ytkhdpjlpahammaa
open Go.RowKit
noncomputable def roB {δ : Type} (a1 : List Int) (a3 : Int) (a5 : List PcT) : (Int × (Int × List Int)) → Option ((Int × (Int × List Int)) ⊕ ((Int × List Int) ⊕ δ)) :=
(fun (v8, (v9, v10)) =>
 bif (decide (v9 ≠ v8)) then
 bif (decide (v9 > v8)) then
 bif ((decide ((List.length a1) = (List.length v10))) && (decide ((List.length a5) = (List.length a5)))) then 
 bindO (slices_swapRangeCmpFunc_int (v10, ((Go.IntKind.wrap .i64 (a3 - v9)), (a3, (v8, a5))))) fun x12 =>
 some (Sum.inl (v8, ((Go.IntKind.wrap .i64 (v9 - v8)), x12)))
 else none
 else
 bif ((decide ((List.length a1) = (List.length v10))) && (decide ((List.length a5) = (List.length a5)))) then 
 bindO (slices_swapRangeCmpFunc_int (v10, ((Go.IntKind.wrap .i64 (a3 - v9)), ((Go.IntKind.wrap .i64 ((Go.IntKind.wrap .i64 (a3 + v8)) - v9)), (v9, a5))))) fun x17 =>
 some (Sum.inl ((Go.IntKind.wrap .i64 (v8 - v9)), (v9, x17)))
 else none
 else
 outO (some (Sum.inl (v9, v10))))
theorem ro_eq (a1 : List Int) (a2 a3 a4 : Int) (a5 : List PcT) : slices_rotateCmpFunc_int (a1, (a2, (a3, (a4, a5)))) =

  joinO (loopO (roB a1 a3 a5) ((Go.IntKind.wrap .i64 (a4 - a3)), ((Go.IntKind.wrap .i64 (a3 - a2)), a1))) fun (v19, v20) =>
  bif ((decide ((List.length a1) = (List.length v20))) && (decide ((List.length a5) = (List.length a5)))) then 
   bindO (slices_swapRangeCmpFunc_int (v20, ((Go.IntKind.wrap .i64 (a3 - v19)), (a3, (v19, a5))))) fun x22 =>
   some x22
  else none := rfl
noncomputable def isI {δ : Type} (a1 : List Int) (a2 : Int) (a4 : List PcT) : (Int × List Int) → Option ((Int × List Int) ⊕ ((Int × List Int) ⊕ δ)) :=
(fun (v8, v9) =>
 bif (decide (v8 > a2)) then
 bif (decide (((0 : Int) ≤ v8) ∧ (v8 < (((List.length a1) : Nat) : Int)))) then 
 bindO v9[(Int.toNat v8)]? fun x10 =>
 bindO (some (Go.IntKind.wrap .i64 (v8 - (1 : Int)))) fun x11 =>
 bif (decide (((0 : Int) ≤ x11) ∧ (x11 < (((List.length a1) : Nat) : Int)))) then 
 bindO v9[(Int.toNat x11)]? fun x12 =>
 bif (decide ((List.length a4) = (List.length a4))) then 
 bindO (carrier_Carrier_Receive_2 (x10, (x12, a4))) fun x13 =>
 bif (decide (x13 < (0 : Int))) then
 bindO (some (Go.IntKind.wrap .i64 (v8 - (1 : Int)))) fun x14 =>
 bindO (some (Go.IntKind.wrap .i64 (v8 - (1 : Int)))) fun x15 =>
 bif (decide (((0 : Int) ≤ x15) ∧ (x15 < (((List.length a1) : Nat) : Int)))) then 
 bindO v9[(Int.toNat x15)]? fun x16 =>
 bif (decide (((0 : Int) ≤ v8) ∧ (v8 < (((List.length a1) : Nat) : Int)))) then 
 bindO v9[(Int.toNat v8)]? fun x17 =>
 bif (decide (((0 : Int) ≤ v8) ∧ (v8 < (((List.length a1) : Nat) : Int)))) then 
 bindO v9[(Int.toNat v8)]? fun x18 =>
 bif (decide (((0 : Int) ≤ x14) ∧ (x14 < (((List.length a1) : Nat) : Int)))) then 
 bindO (List.set v9 (Int.toNat v8) x16)[(Int.toNat x14)]? fun x19 =>
 some (Sum.inl ((Go.IntKind.wrap .i64 (v8 - (1 : Int))), (List.set (List.set v9 (Int.toNat v8) x16) (Int.toNat x14) x17)))
 else none
 else none
 else none
 else none
 else
 outO (some (Sum.inl (v8, v9)))
 else none
 else none
 else none
 else
 outO (some (Sum.inl (v8, v9))))
noncomputable def isO (a1 : List Int) (a2 a3 : Int) (a4 : List PcT) : (Int × List Int) → Option ((Int × List Int) ⊕ List Int) :=
(fun (v6, v7) =>
 bif (decide (v6 < a3)) then
 joinO (loopO (isI a1 a2 a4) (v6, v7)) fun (v21, v22) =>
 some (Sum.inl ((Go.IntKind.wrap .i64 (v6 + (1 : Int))), v22))
 else
 outO (some v7))
theorem is_eq (a1 : List Int) (a2 a3 : Int) (a4 : List PcT) : slices_insertionSortCmpFunc_int (a1, (a2, (a3, a4))) =

  loopO (isO a1 a2 a3 a4) ((Go.IntKind.wrap .i64 (a2 + (1 : Int))), a1) := rfl
noncomputable def smA {δ : Type} (a1 : List Int) (a2 : Int) (a5 : List PcT) : (Int × Int) → Option ((Int × Int) ⊕ (Int ⊕ δ)) :=
(fun (v7, v8) =>
 bif (decide (v8 < v7)) then
 bindO (some (Int.fdiv (Go.IntKind.wrap .u64 (Go.IntKind.wrap .i64 (v8 + v7))) (2 : Int))) fun x11 =>
 bif (decide (((0 : Int) ≤ (Go.IntKind.wrap .i64 x11)) ∧ ((Go.IntKind.wrap .i64 x11) < (((List.length a1) : Nat) : Int)))) then 
 bindO a1[(Int.toNat (Go.IntKind.wrap .i64 x11))]? fun x13 =>
 bif (decide (((0 : Int) ≤ a2) ∧ (a2 < (((List.length a1) : Nat) : Int)))) then 
 bindO a1[(Int.toNat a2)]? fun x14 =>
 bif (decide ((List.length a5) = (List.length a5))) then 
 bindO (carrier_Carrier_Receive_2 (x13, (x14, a5))) fun x15 =>
 bif (decide (x15 < (0 : Int))) then
 some (Sum.inl (v7, (Go.IntKind.wrap .i64 ((Go.IntKind.wrap .i64 x11) + (1 : Int)))))
 else
 some (Sum.inl ((Go.IntKind.wrap .i64 x11), v8))
 else none
 else none
 else none
 else
 outO (some (Sum.inl v8)))
noncomputable def smC (a1 : List Int) (v17 : Int) : (Int × List Int) → Option ((Int × List Int) ⊕ (Unit ⊕ List Int)) :=
(fun (v18, v19) =>
 bif (decide (v18 < (Go.IntKind.wrap .i64 (v17 - (1 : Int))))) then
 bindO (some (Go.IntKind.wrap .i64 (v18 + (1 : Int)))) fun x21 =>
 bindO (some (Go.IntKind.wrap .i64 (v18 + (1 : Int)))) fun x22 =>
 bif (decide (((0 : Int) ≤ x22) ∧ (x22 < (((List.length a1) : Nat) : Int)))) then 
 bindO v19[(Int.toNat x22)]? fun x23 =>
 bif (decide (((0 : Int) ≤ v18) ∧ (v18 < (((List.length a1) : Nat) : Int)))) then 
 bindO v19[(Int.toNat v18)]? fun x24 =>
 bif (decide (((0 : Int) ≤ v18) ∧ (v18 < (((List.length a1) : Nat) : Int)))) then 
 bindO v19[(Int.toNat v18)]? fun x25 =>
 bif (decide (((0 : Int) ≤ x21) ∧ (x21 < (((List.length a1) : Nat) : Int)))) then 
 bindO (List.set v19 (Int.toNat v18) x23)[(Int.toNat x21)]? fun x26 =>
 some (Sum.inl ((Go.IntKind.wrap .i64 (v18 + (1 : Int))), (List.set (List.set v19 (Int.toNat v18) x23) (Int.toNat x21) x24)))
 else none
 else none
 else none
 else none
 else
 outO (outO (some v19)))
noncomputable def smD {δ : Type} (a1 : List Int) (a3 : Int) (a5 : List PcT) : (Int × Int) → Option ((Int × Int) ⊕ (Int ⊕ δ)) :=
(fun (v29, v30) =>
 bif (decide (v30 < v29)) then
 bindO (some (Int.fdiv (Go.IntKind.wrap .u64 (Go.IntKind.wrap .i64 (v30 + v29))) (2 : Int))) fun x33 =>
 bif (decide (((0 : Int) ≤ a3) ∧ (a3 < (((List.length a1) : Nat) : Int)))) then 
 bindO a1[(Int.toNat a3)]? fun x35 =>
 bif (decide (((0 : Int) ≤ (Go.IntKind.wrap .i64 x33)) ∧ ((Go.IntKind.wrap .i64 x33) < (((List.length a1) : Nat) : Int)))) then 
 bindO a1[(Int.toNat (Go.IntKind.wrap .i64 x33))]? fun x36 =>
 bif (decide ((List.length a5) = (List.length a5))) then 
 bindO (carrier_Carrier_Receive_2 (x35, (x36, a5))) fun x37 =>
 bif (!(decide (x37 < (0 : Int)))) then
 some (Sum.inl (v29, (Go.IntKind.wrap .i64 ((Go.IntKind.wrap .i64 x33) + (1 : Int)))))
 else
 some (Sum.inl ((Go.IntKind.wrap .i64 x33), v30))
 else none
 else none
 else none
 else
 outO (some (Sum.inl v30)))
noncomputable def smE (a1 : List Int) (v39 : Int) : (Int × List Int) → Option ((Int × List Int) ⊕ (Unit ⊕ List Int)) :=
(fun (v40, v41) =>
 bif (decide (v40 > v39)) then
 bindO (some (Go.IntKind.wrap .i64 (v40 - (1 : Int)))) fun x42 =>
 bindO (some (Go.IntKind.wrap .i64 (v40 - (1 : Int)))) fun x43 =>
 bif (decide (((0 : Int) ≤ x43) ∧ (x43 < (((List.length a1) : Nat) : Int)))) then 
 bindO v41[(Int.toNat x43)]? fun x44 =>
 bif (decide (((0 : Int) ≤ v40) ∧ (v40 < (((List.length a1) : Nat) : Int)))) then 
 bindO v41[(Int.toNat v40)]? fun x45 =>
 bif (decide (((0 : Int) ≤ v40) ∧ (v40 < (((List.length a1) : Nat) : Int)))) then 
 bindO v41[(Int.toNat v40)]? fun x46 =>
 bif (decide (((0 : Int) ≤ x42) ∧ (x42 < (((List.length a1) : Nat) : Int)))) then 
 bindO (List.set v41 (Int.toNat v40) x44)[(Int.toNat x42)]? fun x47 =>
 some (Sum.inl ((Go.IntKind.wrap .i64 (v40 - (1 : Int))), (List.set (List.set v41 (Int.toNat v40) x44) (Int.toNat x42) x45)))
 else none
 else none
 else none
 else none
 else
 outO (outO (some v41)))
noncomputable def smF {δ : Type} (a1 : List Int) (x53 : Int) (a5 : List PcT) : (Int × Int) → Option ((Int × Int) ⊕ (Int ⊕ δ)) :=
(fun (v58, v59) =>
 bif (decide (v59 < v58)) then
 bindO (some (Int.fdiv (Go.IntKind.wrap .u64 (Go.IntKind.wrap .i64 (v59 + v58))) (2 : Int))) fun x62 =>
 bindO (some (Go.IntKind.wrap .i64 ((Go.IntKind.wrap .i64 (x53 - (1 : Int))) - (Go.IntKind.wrap .i64 x62)))) fun x64 =>
 bif (decide (((0 : Int) ≤ x64) ∧ (x64 < (((List.length a1) : Nat) : Int)))) then 
 bindO a1[(Int.toNat x64)]? fun x65 =>
 bif (decide (((0 : Int) ≤ (Go.IntKind.wrap .i64 x62)) ∧ ((Go.IntKind.wrap .i64 x62) < (((List.length a1) : Nat) : Int)))) then 
 bindO a1[(Int.toNat (Go.IntKind.wrap .i64 x62))]? fun x66 =>
 bif (decide ((List.length a5) = (List.length a5))) then 
 bindO (carrier_Carrier_Receive_2 (x65, (x66, a5))) fun x67 =>
 bif (!(decide (x67 < (0 : Int)))) then
 some (Sum.inl (v58, (Go.IntKind.wrap .i64 ((Go.IntKind.wrap .i64 x62) + (1 : Int)))))
 else
 some (Sum.inl ((Go.IntKind.wrap .i64 x62), v59))
 else none
 else none
 else none
 else
 outO (some (Sum.inl v59)))
theorem sm_eq (slices_symMergeCmpFunc_int_h : ((List Int) × (Int × (Int × (Int × List PcT)))) → Option (List Int)) (a1 : List Int) (a2 a3 a4 : Int) (a5 : List PcT) : slices_symMergeCmpFunc_int_B slices_symMergeCmpFunc_int_h (a1, (a2, (a3, (a4, a5)))) =

  joinO (bif (decide ((Go.IntKind.wrap .i64 (a3 - a2)) = (1 : Int))) then
    joinO (loopO (smA a1 a2 a5) (a4, a3)) fun v17 =>
    loopO (smC a1 v17) (a2, a1)
   else
    some (Sum.inl ())) fun _ =>
  joinO (bif (decide ((Go.IntKind.wrap .i64 (a4 - a3)) = (1 : Int))) then
    joinO (loopO (smD a1 a3 a5) (a3, a2)) fun v39 =>
    loopO (smE a1 v39) (a3, a1)
   else
    some (Sum.inl ())) fun _ =>
  bindO (some (Int.fdiv (Go.IntKind.wrap .u64 (Go.IntKind.wrap .i64 (a2 + a4))) (2 : Int))) fun x51 =>
  bindO (some (Go.IntKind.wrap .i64 ((Go.IntKind.wrap .i64 x51) + a3))) fun x53 =>
  joinO (bif (decide (a3 > (Go.IntKind.wrap .i64 x51))) then
    some (Sum.inl ((Go.IntKind.wrap .i64 x51), (Go.IntKind.wrap .i64 (x53 - a4))))
   else
    some (Sum.inl (a3, a2))) fun (v55, v56) =>
  joinO (loopO (smF a1 x53 a5) (v55, v56)) fun v69 =>
  bindO (some (Go.IntKind.wrap .i64 (x53 - v69))) fun x70 =>
  joinO (bif (decide (v69 < a3)) then
    bif (decide (a3 < x70)) then
     bif ((decide ((List.length a1) = (List.length a1))) && (decide ((List.length a5) = (List.length a5)))) then 
      bindO (slices_rotateCmpFunc_int (a1, (v69, (a3, (x70, a5))))) fun x71 =>
      some (Sum.inl x71)
     else none
    else
     some (Sum.inl a1)
   else
    some (Sum.inl a1)) fun v72 =>
  joinO (bif (decide (a2 < v69)) then
    bif (decide (v69 < (Go.IntKind.wrap .i64 x51))) then
     bif ((decide ((List.length a1) = (List.length v72))) && (decide ((List.length a5) = (List.length a5)))) then 
      bindO (slices_symMergeCmpFunc_int_h (v72, (a2, (v69, ((Go.IntKind.wrap .i64 x51), a5))))) fun x73 =>
      some (Sum.inl x73)
     else none
    else
     some (Sum.inl v72)
   else
    some (Sum.inl v72)) fun v74 =>
  bif (decide ((Go.IntKind.wrap .i64 x51) < x70)) then
   bif (decide (x70 < a4)) then
    bif ((decide ((List.length a1) = (List.length v74))) && (decide ((List.length a5) = (List.length a5)))) then 
     bindO (slices_symMergeCmpFunc_int_h (v74, ((Go.IntKind.wrap .i64 x51), (x70, (a4, a5))))) fun x75 =>
     some x75
    else none
   else
    some v74
  else
   some v74 := rfl
noncomputable def stA {δ : Type} (a1 : List Int) (a2 : Int) (a3 : List PcT) : (Int × (Int × List Int)) → Option ((Int × (Int × List Int)) ⊕ ((Int × (Int × List Int)) ⊕ δ)) :=
(fun (v4, (v5, v6)) =>
 bif (decide (v4 ≤ a2)) then
 bif ((decide ((List.length a1) = (List.length v6))) && (decide ((List.length a3) = (List.length a3)))) then 
 bindO (slices_insertionSortCmpFunc_int (v6, (v5, (v4, a3)))) fun x7 =>
 some (Sum.inl ((Go.IntKind.wrap .i64 (v4 + (20 : Int))), (v4, x7)))
 else none
 else
 outO (some (Sum.inl (v4, (v5, v6)))))
noncomputable def stB {δ : Type} (a1 : List Int) (a2 : Int) (a3 : List PcT) (v13 : Int) : (Int × (Int × List Int)) → Option ((Int × (Int × List Int)) ⊕ ((Int × (Int × List Int)) ⊕ δ)) :=
(fun (v18, (v19, v20)) =>
 bif (decide (v18 ≤ a2)) then
 bif ((decide ((List.length a1) = (List.length v20))) && (decide ((List.length a3) = (List.length a3)))) then 
 bindO (slices_symMergeCmpFunc_int (v20, (v19, ((Go.IntKind.wrap .i64 (v19 + v13)), (v18, a3))))) fun x22 =>
 some (Sum.inl ((Go.IntKind.wrap .i64 (v18 + (Go.IntKind.wrap .i64 ((2 : Int) * v13)))), (v18, x22)))
 else none
 else
 outO (some (Sum.inl (v18, (v19, v20)))))
noncomputable def stC (a1 : List Int) (a2 : Int) (a3 : List PcT) : (Int × (Int × (Int × List Int))) → Option ((Int × (Int × (Int × List Int))) ⊕ List Int) :=
(fun (v13, (v14, (v15, v16))) =>
 bif (decide (v13 < a2)) then
 joinO (loopO (stB a1 a2 a3 v13) ((Go.IntKind.wrap .i64 ((2 : Int) * v13)), ((0 : Int), v16))) fun (v25, (v26, v27)) =>
 bindO (some (Go.IntKind.wrap .i64 (v26 + v13))) fun x28 =>
 bif (decide (x28 < a2)) then
 bif ((decide ((List.length a1) = (List.length v27))) && (decide ((List.length a3) = (List.length a3)))) then 
 bindO (slices_symMergeCmpFunc_int (v27, (v26, (x28, (a2, a3))))) fun x29 =>
 some (Sum.inl ((Go.IntKind.wrap .i64 (v13 * (2 : Int))), (v25, (v26, x29))))
 else none
 else
 some (Sum.inl ((Go.IntKind.wrap .i64 (v13 * (2 : Int))), (v25, (v26, v27))))
 else
 outO (some v16))
theorem st_eq (a1 : List Int) (a2 : Int) (a3 : List PcT) : slices_stableCmpFunc_int (a1, (a2, a3)) =

  joinO (loopO (stA a1 a2 a3) ((20 : Int), ((0 : Int), a1))) fun (v9, (v10, v11)) =>
  bif ((decide ((List.length a1) = (List.length v11))) && (decide ((List.length a3) = (List.length a3)))) then 
   bindO (slices_insertionSortCmpFunc_int (v11, (v10, (a2, a3)))) fun x12 =>
   loopO (stC a1 a2 a3) ((20 : Int), (v9, (v10, x12)))
  else none := rfl
end Go.Proofs.Ytkhdpjlpahammaa
