import Derived.Test.YtkhdpjlpahammaaS8p
import Derived.Test.YtkhdpjlpahammaaZ2p
set_option linter.unusedVariables false
set_option linter.unusedSimpArgs false
set_option maxRecDepth 100000
namespace Go.Proofs.Ytkhdpjlpahammaa
open Go.RowKit
noncomputable def fuA : Int → Option (Int ⊕ (Unit ⊕ Bool)) :=
(fun v1 =>
 bif (decide (v1 < (1 : Int))) then
 bif (decide (((0 : Int) ≤ v1) ∧ (v1 < (1 : Int)))) then 
 bindO ((Bool.true, ((0 : Int), (Bool.false, (0 : Int)))) :: ([] : List (Bool × (Int × (Bool × Int)))))[(Int.toNat v1)]? fun x2 =>
 bif (decide (x2.2.1 < (0 : Int))) then
 outO (outO (some Bool.false))
 else
 bif (decide (x2.2.1 > (60000 : Int))) then
 outO (outO (some Bool.false))
 else
 bif (decide (x2.2.2.2 < (0 : Int))) then
 outO (outO (some Bool.false))
 else
 bif (decide (x2.2.2.2 > (60000 : Int))) then
 outO (outO (some Bool.false))
 else
 some (Sum.inl (Go.IntKind.wrap .i64 (v1 + (1 : Int))))
 else none
 else
 outO (some (Sum.inl ())))
noncomputable def fuB : (Int × (Bool × (List FtT × (List PcT × (Int × (Int × Int)))))) → Option ((Int × (Bool × (List FtT × (List PcT × (Int × (Int × Int)))))) ⊕ ((Bool × (List FtT × (List PcT × (Int × (Int × Int))))) ⊕ Bool)) :=
(fun (v5, (v6, (v7, (v8, (v9, (v10, v11)))))) =>
 bif (decide (v5 < (10000 : Int))) then
 bif ((decide ((List.length v7) = (List.length v7))) && (decide ((List.length v8) = (List.length v8)))) then 
 bindO (carrier_Carrier_Send (((97 : UInt8) :: ([] : List UInt8)), (((98 : UInt8) :: ([] : List UInt8)), (([] : List Int), (v5, (v6, (v7, (v8, (v9, (v10, v11)))))))))) fun (x13, (x14, (x15, (x16, (x17, (x18, (x19, x20))))))) =>
 bif (decide (x13 ≠ v5)) then
 outO (outO (some Bool.false))
 else
 bif (decide (x14 ≠ (0 : Int))) then
 outO (outO (some Bool.false))
 else
 bif (decide ((Int.tmod v5 (100 : Int)) = (99 : Int))) then
 bif ((decide ((List.length x16) = (List.length x16))) && (decide ((List.length x17) = (List.length x17)))) then 
 bindO (carrier_Carrier_Receive (v5, (x15, (x16, (x17, (x18, (x19, x20))))))) fun (x23, (x24, (x25, (x26, (x27, (x28, (x29, x30))))))) =>
 bif (decide (x24 ≠ (0 : Int))) then
 outO (outO (some Bool.false))
 else
 bif (decide ((((List.length x23) : Nat) : Int) > (100 : Int))) then
 outO (outO (some Bool.false))
 else
 bif ((decide ((List.length x26) ≤ (List.length x26))) && (decide ((List.length x27) ≤ (List.length x27)))) then 
 some (Sum.inl ((Go.IntKind.wrap .i64 (v5 + (1 : Int))), (x25, ((List.take (List.length x26) x26), ((List.take (List.length x27) x27), (x28, (x29, x30)))))))
 else none
 else none
 else
 bif ((decide ((List.length x16) ≤ (List.length x16))) && (decide ((List.length x17) ≤ (List.length x17)))) then 
 some (Sum.inl ((Go.IntKind.wrap .i64 (v5 + (1 : Int))), (x15, ((List.take (List.length x16) x16), ((List.take (List.length x17) x17), (x18, (x19, x20)))))))
 else none
 else none
 else
 outO (bif ((decide ((List.length v7) ≤ (List.length v7))) && (decide ((List.length v8) ≤ (List.length v8)))) then 
 some (Sum.inl (v6, ((List.take (List.length v7) v7), ((List.take (List.length v8) v8), (v9, (v10, v11))))))
 else none))
theorem fu_eq : dialtonelaw11_CarrierFull () =

  joinO (loopO fuA (0 : Int)) fun _ =>
  bindO (cloneG ((Bool.true, ((0 : Int), (Bool.false, (0 : Int)))) :: ([] : List (Bool × (Int × (Bool × Int)))))) fun x4 =>
  joinO (bif (decide ((List.length x4) ≤ (List.length x4))) then 
    loopO fuB ((0 : Int), (Bool.true, ((List.take (List.length x4) x4), (([] : List ((Bool × (Int × (Bool × Int))) × (Int × ((List UInt8) × ((List UInt8) × (Int × (Bool × (List Int)))))))), ((0 : Int), ((0 : Int), (0 : Int)))))))
   else none) fun (v33, (v34, (v35, (v36, (v37, v38))))) =>
  bif ((decide ((List.length v34) = (List.length v34))) && (decide ((List.length v35) = (List.length v35)))) then 
   bindO (carrier_Carrier_Send (((97 : UInt8) :: ([] : List UInt8)), (((98 : UInt8) :: ([] : List UInt8)), (([] : List Int), ((10000 : Int), (v33, (v34, (v35, (v36, (v37, v38)))))))))) fun (x40, (x41, (x42, (x43, (x44, (x45, (x46, x47))))))) =>
   bif (decide (x41 = (4 : Int))) then
    bif ((decide ((List.length x43) = (List.length x43))) && (decide ((List.length x44) = (List.length x44)))) then 
     bindO (carrier_Carrier_Sent (x42, (x43, (x44, (x45, (x46, x47)))))) fun x48 =>
     bif (decide (x48 = (10000 : Int))) then
      bif ((decide ((List.length x43) = (List.length x43))) && (decide ((List.length x44) = (List.length x44)))) then 
       bindO (carrier_Carrier_Lost (x42, (x43, (x44, (x45, (x46, x47)))))) fun x49 =>
       bif (decide (x49 = (1 : Int))) then
        some Bool.true
       else
        some Bool.false
      else none
     else
      some Bool.false
    else none
   else
    some Bool.false
  else none := rfl
end Go.Proofs.Ytkhdpjlpahammaa
