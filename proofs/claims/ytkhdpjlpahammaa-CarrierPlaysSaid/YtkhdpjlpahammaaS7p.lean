import Derived.Test.YtkhdpjlpahammaaS6p
import Derived.Test.YtkhdpjlpahammaaZ1p
set_option linter.unusedVariables false
set_option linter.unusedSimpArgs false
set_option maxRecDepth 100000
namespace Go.Proofs.Ytkhdpjlpahammaa
open Go.RowKit
abbrev DgT := (Int × ((List UInt8) × ((List UInt8) × (Int × (List Int)))))
abbrev FtT := Bool × (Int × (Bool × Int))
noncomputable def rvA {δ : Type} (a1 : Int) (a4 : List PcT) : (Int × (List PcT × List PcT)) → Option ((Int × (List PcT × List PcT)) ⊕ ((List PcT × List PcT) ⊕ δ)) :=
(fun (v8, (v9, v10)) =>
 bif (decide (v8 < (((List.length a4) : Nat) : Int))) then
 bif (decide (((0 : Int) ≤ v8) ∧ (v8 < (((List.length a4) : Nat) : Int)))) then 
 bindO a4[(Int.toNat v8)]? fun x11 =>
 bindO (carrier_parcel_at (x11.1.1, (x11.1.2.1, (x11.1.2.2.1, (x11.1.2.2.2, (x11.2.1, (x11.2.2.1, (x11.2.2.2.1, (x11.2.2.2.2.1, (x11.2.2.2.2.2.1, x11.2.2.2.2.2.2)))))))))) fun x12 =>
 bif (decide (x12 ≤ a1)) then
 bif (decide ((List.length v10) ≤ (List.length v10))) then 
 bif (decide (((List.length ((List.take (List.length v10) v10) ++ (((x11.1.1, (x11.1.2.1, (x11.1.2.2.1, x11.1.2.2.2))), (x11.2.1, (x11.2.2.1, (x11.2.2.2.1, (x11.2.2.2.2.1, (x11.2.2.2.2.2.1, x11.2.2.2.2.2.2)))))) :: ([] : List ((Bool × (Int × (Bool × Int))) × (Int × ((List UInt8) × ((List UInt8) × (Int × (Bool × (List Int))))))))))) * 112) ≤ 140737488355328)) then 
 bindO (some ((List.take (List.length v10) v10) ++ (((x11.1.1, (x11.1.2.1, (x11.1.2.2.1, x11.1.2.2.2))), (x11.2.1, (x11.2.2.1, (x11.2.2.2.1, (x11.2.2.2.2.1, (x11.2.2.2.2.2.1, x11.2.2.2.2.2.2)))))) :: ([] : List ((Bool × (Int × (Bool × Int))) × (Int × ((List UInt8) × ((List UInt8) × (Int × (Bool × (List Int))))))))))) fun x13 =>
 bif ((decide ((List.length v9) ≤ (List.length v9))) && (decide ((List.length x13) ≤ (List.length x13)))) then 
 some (Sum.inl ((Go.IntKind.wrap .i64 (v8 + (1 : Int))), ((List.take (List.length v9) v9), (List.take (List.length x13) x13))))
 else none
 else none
 else none
 else
 bif (decide ((List.length v9) ≤ (List.length v9))) then 
 bif (decide (((List.length ((List.take (List.length v9) v9) ++ (((x11.1.1, (x11.1.2.1, (x11.1.2.2.1, x11.1.2.2.2))), (x11.2.1, (x11.2.2.1, (x11.2.2.2.1, (x11.2.2.2.2.1, (x11.2.2.2.2.2.1, x11.2.2.2.2.2.2)))))) :: ([] : List ((Bool × (Int × (Bool × Int))) × (Int × ((List UInt8) × ((List UInt8) × (Int × (Bool × (List Int))))))))))) * 112) ≤ 140737488355328)) then 
 bindO (some ((List.take (List.length v9) v9) ++ (((x11.1.1, (x11.1.2.1, (x11.1.2.2.1, x11.1.2.2.2))), (x11.2.1, (x11.2.2.1, (x11.2.2.2.1, (x11.2.2.2.2.1, (x11.2.2.2.2.2.1, x11.2.2.2.2.2.2)))))) :: ([] : List ((Bool × (Int × (Bool × Int))) × (Int × ((List UInt8) × ((List UInt8) × (Int × (Bool × (List Int))))))))))) fun x15 =>
 bif ((decide ((List.length x15) ≤ (List.length x15))) && (decide ((List.length v10) ≤ (List.length v10)))) then 
 some (Sum.inl ((Go.IntKind.wrap .i64 (v8 + (1 : Int))), ((List.take (List.length x15) x15), (List.take (List.length v10) v10))))
 else none
 else none
 else none
 else none
 else
 outO (bif ((decide ((List.length v9) ≤ (List.length v9))) && (decide ((List.length v10) ≤ (List.length v10)))) then 
 some (Sum.inl ((List.take (List.length v9) v9), (List.take (List.length v10) v10)))
 else none))
noncomputable def rvB {δ : Type} (v19 : List PcT) : (Int × List Int) → Option ((Int × List Int) ⊕ (List Int ⊕ δ)) :=
(fun (v21, v22) =>
 bif (decide (v21 < (((Int.toNat (((List.length v19) : Nat) : Int)) : Nat) : Int))) then
 bif (decide (((0 : Int) ≤ v21) ∧ (v21 < (((Int.toNat (((List.length v19) : Nat) : Int)) : Nat) : Int)))) then 
 bindO v22[(Int.toNat v21)]? fun x23 =>
 some (Sum.inl ((Go.IntKind.wrap .i64 (v21 + (1 : Int))), (List.set v22 (Int.toNat v21) v21)))
 else none
 else
 outO (some (Sum.inl v22)))
noncomputable def rvC {δ : Type} (v19 : List PcT) (x26 : List Int) : (Int × List PcT) → Option ((Int × List PcT) ⊕ (List PcT ⊕ δ)) :=
(fun (v27, v28) =>
 bif (decide (v27 < (((Int.toNat (((List.length v19) : Nat) : Int)) : Nat) : Int))) then
 bif (decide (((0 : Int) ≤ v27) ∧ (v27 < (((Int.toNat (((List.length v19) : Nat) : Int)) : Nat) : Int)))) then 
 bindO x26[(Int.toNat v27)]? fun x29 =>
 bif (decide (((0 : Int) ≤ x29) ∧ (x29 < (((List.length v19) : Nat) : Int)))) then 
 bindO v19[(Int.toNat x29)]? fun x30 =>
 bif (decide ((List.length v28) ≤ (List.length v28))) then 
 bif (decide (((List.length ((List.take (List.length v28) v28) ++ (((x30.1.1, (x30.1.2.1, (x30.1.2.2.1, x30.1.2.2.2))), (x30.2.1, (x30.2.2.1, (x30.2.2.2.1, (x30.2.2.2.2.1, (x30.2.2.2.2.2.1, x30.2.2.2.2.2.2)))))) :: ([] : List ((Bool × (Int × (Bool × Int))) × (Int × ((List UInt8) × ((List UInt8) × (Int × (Bool × (List Int))))))))))) * 112) ≤ 140737488355328)) then 
 bindO (some ((List.take (List.length v28) v28) ++ (((x30.1.1, (x30.1.2.1, (x30.1.2.2.1, x30.1.2.2.2))), (x30.2.1, (x30.2.2.1, (x30.2.2.2.1, (x30.2.2.2.2.1, (x30.2.2.2.2.2.1, x30.2.2.2.2.2.2)))))) :: ([] : List ((Bool × (Int × (Bool × Int))) × (Int × ((List UInt8) × ((List UInt8) × (Int × (Bool × (List Int))))))))))) fun x31 =>
 bif (decide ((List.length x31) ≤ (List.length x31))) then 
 some (Sum.inl ((Go.IntKind.wrap .i64 (v27 + (1 : Int))), (List.take (List.length x31) x31)))
 else none
 else none
 else none
 else none
 else none
 else
 outO (bif (decide ((List.length v28) ≤ (List.length v28))) then 
 some (Sum.inl (List.take (List.length v28) v28))
 else none))
noncomputable def rvD {δ : Type} (v34 : List PcT) : (Int × List DgT) → Option ((Int × List DgT) ⊕ (List DgT ⊕ δ)) :=
(fun (v35, v36) =>
 bif (decide (v35 < (((List.length v34) : Nat) : Int))) then
 bif (decide (((0 : Int) ≤ v35) ∧ (v35 < (((List.length v34) : Nat) : Int)))) then 
 bindO v34[(Int.toNat v35)]? fun x37 =>
 bindO (carrier_parcel_at (x37.1.1, (x37.1.2.1, (x37.1.2.2.1, (x37.1.2.2.2, (x37.2.1, (x37.2.2.1, (x37.2.2.2.1, (x37.2.2.2.2.1, (x37.2.2.2.2.2.1, x37.2.2.2.2.2.2)))))))))) fun x38 =>
 bindO (cloneB x37.2.2.2.2.2.2) fun x39 =>
 bif (decide ((List.length x39) ≤ (List.length x39))) then 
 bif (decide ((List.length v36) ≤ (List.length v36))) then 
 bif (decide (((List.length ((List.take (List.length v36) v36) ++ ((x37.2.1, (x37.2.2.1, (x37.2.2.2.1, (x38, (List.take (List.length x39) x39))))) :: ([] : List (Int × ((List UInt8) × ((List UInt8) × (Int × (List Int))))))))) * 72) ≤ 140737488355328)) then 
 bindO (some ((List.take (List.length v36) v36) ++ ((x37.2.1, (x37.2.2.1, (x37.2.2.2.1, (x38, (List.take (List.length x39) x39))))) :: ([] : List (Int × ((List UInt8) × ((List UInt8) × (Int × (List Int))))))))) fun x40 =>
 bif (decide ((List.length x40) ≤ (List.length x40))) then 
 some (Sum.inl ((Go.IntKind.wrap .i64 (v35 + (1 : Int))), (List.take (List.length x40) x40)))
 else none
 else none
 else none
 else none
 else none
 else
 outO (bif (decide ((List.length v36) ≤ (List.length v36))) then 
 some (Sum.inl (List.take (List.length v36) v36))
 else none))
theorem rv_eq (a1 : Int) (a2 : Bool) (a3 : List FtT) (a4 : List PcT) (a5 a6 a7 : Int) : carrier_Carrier_Receive (a1, (a2, (a3, (a4, (a5, (a6, a7)))))) =

  bif (!a2) then
   bif ((decide ((List.length a3) ≤ (List.length a3))) && (decide ((List.length a4) ≤ (List.length a4)))) then 
    some (([] : List (Int × ((List UInt8) × ((List UInt8) × (Int × (List Int)))))), ((1 : Int), (a2, ((List.take (List.length a3) a3), ((List.take (List.length a4) a4), (a5, (a6, a7)))))))
   else none
  else
   bif (decide (a1 < a7)) then
    bif ((decide ((List.length a3) ≤ (List.length a3))) && (decide ((List.length a4) ≤ (List.length a4)))) then 
     some (([] : List (Int × ((List UInt8) × ((List UInt8) × (Int × (List Int)))))), ((3 : Int), (a2, ((List.take (List.length a3) a3), ((List.take (List.length a4) a4), (a5, (a6, a7)))))))
    else none
   else
    bif (decide (a1 > (1099511627776 : Int))) then
     bif ((decide ((List.length a3) ≤ (List.length a3))) && (decide ((List.length a4) ≤ (List.length a4)))) then 
      some (([] : List (Int × ((List UInt8) × ((List UInt8) × (Int × (List Int)))))), ((3 : Int), (a2, ((List.take (List.length a3) a3), ((List.take (List.length a4) a4), (a5, (a6, a7)))))))
     else none
    else
     joinO (joinO (loopO (rvA a1 a4) ((0 : Int), (([] : List ((Bool × (Int × (Bool × Int))) × (Int × ((List UInt8) × ((List UInt8) × (Int × (Bool × (List Int)))))))), ([] : List ((Bool × (Int × (Bool × Int))) × (Int × ((List UInt8) × ((List UInt8) × (Int × (Bool × (List Int))))))))))) fun (v17, v18) =>
      bif ((decide ((List.length v18) ≤ (List.length v18))) && (decide ((List.length v17) ≤ (List.length v17)))) then 
       some (Sum.inl ((List.take (List.length v18) v18), (List.take (List.length v17) v17)))
      else none) fun (v19, v20) =>
     joinO (bif (decide (((0 : Int) ≤ (((List.length v19) : Nat) : Int)) ∧ (((((List.length v19) : Nat) : Int) ≤ (((List.length v19) : Nat) : Int)) ∧ ((((((List.length v19) : Nat) : Int) * (8 : Int)) ≤ (140737488355328 : Int)) ∧ ((((List.length v19) : Nat) : Int) ≤ (9223372036854775807 : Int)))))) then 
       joinO (loopO (rvB v19) ((0 : Int), (List.replicate (Int.toNat (((List.length v19) : Nat) : Int)) (0 : Int)))) fun v25 =>
       bif ((decide ((Int.toNat (((List.length v19) : Nat) : Int)) = (List.length v25))) && (decide ((List.length v19) = (List.length v19)))) then 
        bindO (slices_SortStableFunc___int_int (v25, v19)) fun x26 =>
        bif (decide (((0 : Int) ≤ (0 : Int)) ∧ (((0 : Int) ≤ (((List.length v19) : Nat) : Int)) ∧ ((((((List.length v19) : Nat) : Int) * (112 : Int)) ≤ (140737488355328 : Int)) ∧ ((((List.length v19) : Nat) : Int) ≤ (9223372036854775807 : Int)))))) then 
         joinO (bif (decide (0 ≤ (List.length (List.replicate (Int.toNat (((List.length v19) : Nat) : Int)) ((Bool.false, ((0 : Int), (Bool.false, (0 : Int)))), ((0 : Int), (([] : List UInt8), (([] : List UInt8), ((0 : Int), (Bool.false, ([] : List Int))))))))))) then 
           loopO (rvC v19 x26) ((0 : Int), (List.take 0 (List.replicate (Int.toNat (((List.length v19) : Nat) : Int)) ((Bool.false, ((0 : Int), (Bool.false, (0 : Int)))), ((0 : Int), (([] : List UInt8), (([] : List UInt8), ((0 : Int), (Bool.false, ([] : List Int))))))))))
          else none) fun v33 =>
         bif (decide ((List.length v33) ≤ (List.length v33))) then 
          some (Sum.inl (List.take (List.length v33) v33))
         else none
        else none
       else none
      else none) fun v34 =>
     joinO (loopO (rvD v34) ((0 : Int), ([] : List (Int × ((List UInt8) × ((List UInt8) × (Int × (List Int)))))))) fun v42 =>
     bif ((decide ((List.length v42) ≤ (List.length v42))) && ((decide ((List.length a3) ≤ (List.length a3))) && (decide ((List.length v20) ≤ (List.length v20))))) then 
      some ((List.take (List.length v42) v42), ((0 : Int), (a2, ((List.take (List.length a3) a3), ((List.take (List.length v20) v20), (a5, (a6, a1)))))))
     else none := rfl
noncomputable def orB {δ : Type} (x8 x9 x10 : Int) : Int → Option (Int ⊕ (Unit ⊕ (Int ⊕ δ))) :=
(fun v11 =>
 bif (decide (v11 < (3 : Int))) then
 bif (decide (((0 : Int) ≤ v11) ∧ (v11 < (3 : Int)))) then 
 bindO (x8 :: (x9 :: (x10 :: ([] : List Int))))[(Int.toNat v11)]? fun x12 =>
 bif (decide (x12 ≠ (0 : Int))) then
 outO (outO (some (Sum.inl x12)))
 else
 some (Sum.inl (Go.IntKind.wrap .i64 (v11 + (1 : Int))))
 else none
 else
 outO (some (Sum.inl ())))
theorem c2_eq (a1 a2 : Int) (a3 : List PcT) : carrier_Carrier_Receive_2 (a1, (a2, a3)) =

  bif (decide (((0 : Int) ≤ a1) ∧ (a1 < (((List.length a3) : Nat) : Int)))) then 
   bindO a3[(Int.toNat a1)]? fun x4 =>
   bif (decide (((0 : Int) ≤ a2) ∧ (a2 < (((List.length a3) : Nat) : Int)))) then 
    bindO a3[(Int.toNat a2)]? fun x5 =>
    bindO (carrier_parcel_at (x4.1.1, (x4.1.2.1, (x4.1.2.2.1, (x4.1.2.2.2, (x4.2.1, (x4.2.2.1, (x4.2.2.2.1, (x4.2.2.2.2.1, (x4.2.2.2.2.2.1, x4.2.2.2.2.2.2)))))))))) fun x6 =>
    bindO (carrier_parcel_at (x5.1.1, (x5.1.2.1, (x5.1.2.2.1, (x5.1.2.2.2, (x5.2.1, (x5.2.2.1, (x5.2.2.2.1, (x5.2.2.2.2.1, (x5.2.2.2.2.2.1, x5.2.2.2.2.2.2)))))))))) fun x7 =>
    bindO (cmp_Compare_int (x6, x7)) fun x8 =>
    bindO (cmp_Compare_int (x4.2.1, x5.2.1)) fun x9 =>
    bindO (carrier_later (x4.2.2.2.2.2.1, x5.2.2.2.2.2.1)) fun x10 =>
    joinO (joinO (loopO (orB x8 x9 x10) (0 : Int)) fun _ =>
     some (Sum.inl (0 : Int))) fun v14 =>
    some v14
   else none
  else none := rfl
end Go.Proofs.Ytkhdpjlpahammaa
