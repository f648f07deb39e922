import Derived.Test.YtkhdpjlpahammaaS8p
import Derived.Test.YtkhdpjlpahammaaZ3p
set_option linter.unusedVariables false
set_option linter.unusedSimpArgs false
set_option maxRecDepth 100000
namespace Go.Proofs.Ytkhdpjlpahammaa
open Go.RowKit
abbrev CaT := Bool × (List FtT × (List PcT × (Int × (Int × Int))))
abbrev StT := List DgT × (List Int × (Int × (CaT × CaT)))
noncomputable def hsB (a1 : List DgT) (a2 a3 a4 : Int) : Int → Option (Int ⊕ (Unit ⊕ Bool)) :=
(fun v5 =>
 bif (decide (v5 < (((List.length a1) : Nat) : Int))) then
 bif (decide (((0 : Int) ≤ v5) ∧ (v5 < (((List.length a1) : Nat) : Int)))) then 
 bindO a1[(Int.toNat v5)]? fun x6 =>
 bindO (dialtonelaw11_datagram ((x6.1, (x6.2.1, (x6.2.2.1, (x6.2.2.2.1, x6.2.2.2.2)))), (a2, (a3, (bytesU ((Go.IntKind.wrap .u8 a2) :: (a4 :: ([] : List Int)))))))) fun x8 =>
 bif x8 then
 bif (decide (((0 : Int) ≤ v5) ∧ (v5 < (((List.length a1) : Nat) : Int)))) then 
 bindO a1[(Int.toNat v5)]? fun x9 =>
 bif (decide (x9.2.1 = ((97 : UInt8) :: ([] : List UInt8)))) then
 bif (decide (((0 : Int) ≤ v5) ∧ (v5 < (((List.length a1) : Nat) : Int)))) then 
 bindO a1[(Int.toNat v5)]? fun x10 =>
 bif (decide (x10.2.2.1 = ((98 : UInt8) :: ([] : List UInt8)))) then
 outO (outO (some Bool.true))
 else
 some (Sum.inl (Go.IntKind.wrap .i64 (v5 + (1 : Int))))
 else none
 else
 some (Sum.inl (Go.IntKind.wrap .i64 (v5 + (1 : Int))))
 else none
 else
 some (Sum.inl (Go.IntKind.wrap .i64 (v5 + (1 : Int))))
 else none
 else
 outO (some (Sum.inl ())))
theorem hsB_eq (a1 : List DgT) (a2 a3 a4 : Int) : dialtonelaw11_has (a1, (a2, (a3, a4))) =

  joinO (loopO (hsB a1 a2 a3 a4) (0 : Int)) fun _ =>
  some Bool.false := rfl
noncomputable def alB (a1 a2 : List DgT) : Int → Option (Int ⊕ (Unit ⊕ Bool)) :=
(fun v3 =>
 bif (decide (v3 < (((List.length a1) : Nat) : Int))) then
 bif (decide (v3 < (((List.length a2) : Nat) : Int))) then
 bif (decide (((0 : Int) ≤ v3) ∧ (v3 < (((List.length a1) : Nat) : Int)))) then 
 bindO a1[(Int.toNat v3)]? fun x4 =>
 bif (decide (((0 : Int) ≤ v3) ∧ (v3 < (((List.length a2) : Nat) : Int)))) then 
 bindO a2[(Int.toNat v3)]? fun x5 =>
 bif (decide (x4.1 ≠ x5.1)) then
 outO (outO (some Bool.false))
 else
 bif (decide (((0 : Int) ≤ v3) ∧ (v3 < (((List.length a1) : Nat) : Int)))) then 
 bindO a1[(Int.toNat v3)]? fun x6 =>
 bif (decide (((0 : Int) ≤ v3) ∧ (v3 < (((List.length a2) : Nat) : Int)))) then 
 bindO a2[(Int.toNat v3)]? fun x7 =>
 bif (decide (x6.2.2.2.1 ≠ x7.2.2.2.1)) then
 outO (outO (some Bool.false))
 else
 bif (decide (((0 : Int) ≤ v3) ∧ (v3 < (((List.length a1) : Nat) : Int)))) then 
 bindO a1[(Int.toNat v3)]? fun x8 =>
 bif (decide (((0 : Int) ≤ v3) ∧ (v3 < (((List.length a2) : Nat) : Int)))) then 
 bindO a2[(Int.toNat v3)]? fun x9 =>
 bif (decide ((bytesU x8.2.2.2.2) ≠ (bytesU x9.2.2.2.2))) then
 outO (outO (some Bool.false))
 else
 some (Sum.inl (Go.IntKind.wrap .i64 (v3 + (1 : Int))))
 else none
 else none
 else none
 else none
 else none
 else none
 else
 outO (some (Sum.inl ()))
 else
 outO (some (Sum.inl ())))
theorem alB_eq (a1 a2 : List DgT) : dialtonelaw11_alike (a1, a2) =

  joinO (loopO (alB a1 a2) (0 : Int)) fun _ =>
  some (decide ((((List.length a1) : Nat) : Int) = (((List.length a2) : Nat) : Int))) := rfl
noncomputable def ftB (a1 : List FtT) : (Int × List FtT) → Option ((Int × List FtT) ⊕ (List FtT ⊕ List FtT)) :=
(fun (v2, v3) =>
 bif (decide (v2 < (((List.length a1) : Nat) : Int))) then
 bif (decide (v2 < (40 : Int))) then
 bif (decide (((0 : Int) ≤ v2) ∧ (v2 < (((List.length a1) : Nat) : Int)))) then 
 bindO a1[(Int.toNat v2)]? fun x4 =>
 bindO (some (Int.tmod (Go.IntKind.wrap .u64 x4.2.1) (500 : Int))) fun x6 =>
 bindO (some (Int.tmod (Go.IntKind.wrap .u64 x4.2.2.2) (500 : Int))) fun x9 =>
 bif (decide ((List.length v3) ≤ (List.length v3))) then 
 bif (decide (((List.length ((List.take (List.length v3) v3) ++ ((x4.1, ((Go.IntKind.wrap .i64 x6), (x4.2.2.1, (Go.IntKind.wrap .i64 x9)))) :: ([] : List (Bool × (Int × (Bool × Int))))))) * 32) ≤ 140737488355328)) then 
 bindO (some ((List.take (List.length v3) v3) ++ ((x4.1, ((Go.IntKind.wrap .i64 x6), (x4.2.2.1, (Go.IntKind.wrap .i64 x9)))) :: ([] : List (Bool × (Int × (Bool × Int))))))) fun x11 =>
 bif (decide ((List.length x11) ≤ (List.length x11))) then 
 some (Sum.inl ((Go.IntKind.wrap .i64 (v2 + (1 : Int))), (List.take (List.length x11) x11)))
 else none
 else none
 else none
 else none
 else
 outO (bif (decide ((List.length v3) ≤ (List.length v3))) then 
 some (Sum.inl (List.take (List.length v3) v3))
 else none)
 else
 outO (bif (decide ((List.length v3) ≤ (List.length v3))) then 
 some (Sum.inl (List.take (List.length v3) v3))
 else none))
theorem ftB_eq (a1 : List FtT) : dialtonelaw11_fit a1 =

  joinO (loopO (ftB a1) ((0 : Int), ([] : List (Bool × (Int × (Bool × Int)))))) fun v13 =>
  bif (decide ((List.length v13) ≤ (List.length v13))) then 
   some (List.take (List.length v13) v13)
  else none := rfl
noncomputable def cdA (x3 : List FtT) : Int → Option (Int ⊕ (Unit ⊕ Bool)) :=
(fun v4 =>
 bif (decide (v4 < (((List.length x3) : Nat) : Int))) then
 bif (decide (((0 : Int) ≤ v4) ∧ (v4 < (((List.length x3) : Nat) : Int)))) then 
 bindO x3[(Int.toNat v4)]? fun x5 =>
 bif (decide (x5.2.1 < (0 : Int))) then
 outO (outO (joinO (loopO (fun v6 =>
 bif (decide (v6 < (((List.length x3) : Nat) : Int))) then
 bif (decide (((0 : Int) ≤ v6) ∧ (v6 < (((List.length x3) : Nat) : Int)))) then 
 bindO x3[(Int.toNat v6)]? fun x7 =>
 bif (decide (x7.2.1 < (0 : Int))) then
 outO (outO (some Bool.false))
 else
 bif (decide (x7.2.1 > (60000 : Int))) then
 outO (outO (some Bool.false))
 else
 bif (decide (x7.2.2.2 < (0 : Int))) then
 outO (outO (some Bool.false))
 else
 bif (decide (x7.2.2.2 > (60000 : Int))) then
 outO (outO (some Bool.false))
 else
 some (Sum.inl (Go.IntKind.wrap .i64 (v6 + (1 : Int))))
 else none
 else
 outO (some (Sum.inl ()))) (0 : Int)) fun _ =>
 bindO (cloneG x3) fun x9 =>
 some Bool.false))
 else
 bif (decide (x5.2.1 > (60000 : Int))) then
 outO (outO (joinO (loopO (fun v10 =>
 bif (decide (v10 < (((List.length x3) : Nat) : Int))) then
 bif (decide (((0 : Int) ≤ v10) ∧ (v10 < (((List.length x3) : Nat) : Int)))) then 
 bindO x3[(Int.toNat v10)]? fun x11 =>
 bif (decide (x11.2.1 < (0 : Int))) then
 outO (outO (some Bool.false))
 else
 bif (decide (x11.2.1 > (60000 : Int))) then
 outO (outO (some Bool.false))
 else
 bif (decide (x11.2.2.2 < (0 : Int))) then
 outO (outO (some Bool.false))
 else
 bif (decide (x11.2.2.2 > (60000 : Int))) then
 outO (outO (some Bool.false))
 else
 some (Sum.inl (Go.IntKind.wrap .i64 (v10 + (1 : Int))))
 else none
 else
 outO (some (Sum.inl ()))) (0 : Int)) fun _ =>
 bindO (cloneG x3) fun x13 =>
 some Bool.false))
 else
 bif (decide (x5.2.2.2 < (0 : Int))) then
 outO (outO (joinO (loopO (fun v14 =>
 bif (decide (v14 < (((List.length x3) : Nat) : Int))) then
 bif (decide (((0 : Int) ≤ v14) ∧ (v14 < (((List.length x3) : Nat) : Int)))) then 
 bindO x3[(Int.toNat v14)]? fun x15 =>
 bif (decide (x15.2.1 < (0 : Int))) then
 outO (outO (some Bool.false))
 else
 bif (decide (x15.2.1 > (60000 : Int))) then
 outO (outO (some Bool.false))
 else
 bif (decide (x15.2.2.2 < (0 : Int))) then
 outO (outO (some Bool.false))
 else
 bif (decide (x15.2.2.2 > (60000 : Int))) then
 outO (outO (some Bool.false))
 else
 some (Sum.inl (Go.IntKind.wrap .i64 (v14 + (1 : Int))))
 else none
 else
 outO (some (Sum.inl ()))) (0 : Int)) fun _ =>
 bindO (cloneG x3) fun x17 =>
 some Bool.false))
 else
 bif (decide (x5.2.2.2 > (60000 : Int))) then
 outO (outO (joinO (loopO (fun v18 =>
 bif (decide (v18 < (((List.length x3) : Nat) : Int))) then
 bif (decide (((0 : Int) ≤ v18) ∧ (v18 < (((List.length x3) : Nat) : Int)))) then 
 bindO x3[(Int.toNat v18)]? fun x19 =>
 bif (decide (x19.2.1 < (0 : Int))) then
 outO (outO (some Bool.false))
 else
 bif (decide (x19.2.1 > (60000 : Int))) then
 outO (outO (some Bool.false))
 else
 bif (decide (x19.2.2.2 < (0 : Int))) then
 outO (outO (some Bool.false))
 else
 bif (decide (x19.2.2.2 > (60000 : Int))) then
 outO (outO (some Bool.false))
 else
 some (Sum.inl (Go.IntKind.wrap .i64 (v18 + (1 : Int))))
 else none
 else
 outO (some (Sum.inl ()))) (0 : Int)) fun _ =>
 bindO (cloneG x3) fun x21 =>
 some Bool.false))
 else
 some (Sum.inl (Go.IntKind.wrap .i64 (v4 + (1 : Int))))
 else none
 else
 outO (some (Sum.inl ())))
noncomputable def cdB (x3 : List FtT) : Int → Option (Int ⊕ (Unit ⊕ Bool)) :=
(fun v24 =>
 bif (decide (v24 < (((List.length x3) : Nat) : Int))) then
 bif (decide (((0 : Int) ≤ v24) ∧ (v24 < (((List.length x3) : Nat) : Int)))) then 
 bindO x3[(Int.toNat v24)]? fun x25 =>
 bif (decide (x25.2.1 < (0 : Int))) then
 outO (outO (some Bool.false))
 else
 bif (decide (x25.2.1 > (60000 : Int))) then
 outO (outO (some Bool.false))
 else
 bif (decide (x25.2.2.2 < (0 : Int))) then
 outO (outO (some Bool.false))
 else
 bif (decide (x25.2.2.2 > (60000 : Int))) then
 outO (outO (some Bool.false))
 else
 some (Sum.inl (Go.IntKind.wrap .i64 (v24 + (1 : Int))))
 else none
 else
 outO (some (Sum.inl ())))
noncomputable def sdB {δ : Type} (v28 x48 x46 : Int) (v32 : Bool) (v33 : List FtT) (v34 : List PcT) (v35 v36 v37 : Int) : Option ((Int × (Int × CaT)) ⊕ δ) :=
(bif (!v32) then
 bif ((decide ((List.length v33) ≤ (List.length v33))) && (decide ((List.length v34) ≤ (List.length v34)))) then 
 some (Sum.inl ((0 : Int), ((1 : Int), (v32, ((List.take (List.length v33) v33), ((List.take (List.length v34) v34), (v35, (v36, v37))))))))
 else none
 else
 bif (decide (x46 < v37)) then
 bif ((decide ((List.length v33) ≤ (List.length v33))) && (decide ((List.length v34) ≤ (List.length v34)))) then 
 some (Sum.inl ((0 : Int), ((3 : Int), (v32, ((List.take (List.length v33) v33), ((List.take (List.length v34) v34), (v35, (v36, v37))))))))
 else none
 else
 bif (decide (x46 > (1099511627776 : Int))) then
 bif ((decide ((List.length v33) ≤ (List.length v33))) && (decide ((List.length v34) ≤ (List.length v34)))) then 
 some (Sum.inl ((0 : Int), ((3 : Int), (v32, ((List.take (List.length v33) v33), ((List.take (List.length v34) v34), (v35, (v36, v37))))))))
 else none
 else
 bif (decide (v35 ≥ (10000 : Int))) then
 bif ((decide ((List.length v33) ≤ (List.length v33))) && (decide ((List.length v34) ≤ (List.length v34)))) then 
 some (Sum.inl ((0 : Int), ((4 : Int), (v32, ((List.take (List.length v33) v33), ((List.take (List.length v34) v34), (v35, (v36, v37))))))))
 else none
 else
 joinO (bindO (some ((Go.IntKind.wrap .u8 v28) :: (x48 :: ([] : List Int)))) fun x49 =>
 bif (decide ((List.length x49) ≤ (List.length x49))) then 
 some (Sum.inl (List.take (List.length x49) x49))
 else none) fun v50 =>
 joinO (bif (decide (v35 < (((List.length v33) : Nat) : Int))) then
 bif (decide (((0 : Int) ≤ v35) ∧ (v35 < (((List.length v33) : Nat) : Int)))) then 
 bindO v33[(Int.toNat v35)]? fun x51 =>
 bif (decide ((List.length v50) ≤ (List.length v50))) then 
 some (Sum.inl (x51.1, (x51.2.1, (x51.2.2.1, (x51.2.2.2, (v35, (((97 : UInt8) :: ([] : List UInt8)), (((98 : UInt8) :: ([] : List UInt8)), (x46, (Bool.false, (List.take (List.length v50) v50)))))))))))
 else none
 else none
 else
 bif (decide ((List.length v50) ≤ (List.length v50))) then 
 some (Sum.inl (Bool.false, ((0 : Int), (Bool.false, ((0 : Int), (v35, (((97 : UInt8) :: ([] : List UInt8)), (((98 : UInt8) :: ([] : List UInt8)), (x46, (Bool.false, (List.take (List.length v50) v50)))))))))))
 else none) fun (v52, (v53, (v54, (v55, (v56, (v57, (v58, (v59, (v60, v61))))))))) =>
 bindO (some (Go.IntKind.wrap .i64 (v35 + (1 : Int)))) fun x62 =>
 bif v52 then
 bif ((decide ((List.length v33) ≤ (List.length v33))) && (decide ((List.length v34) ≤ (List.length v34)))) then 
 some (Sum.inl (v56, ((0 : Int), (v32, ((List.take (List.length v33) v33), ((List.take (List.length v34) v34), (x62, ((Go.IntKind.wrap .i64 (v36 + (1 : Int))), x46))))))))
 else none
 else
 bif (decide ((List.length v61) ≤ (List.length v61))) then 
 bif (decide ((List.length v34) ≤ (List.length v34))) then 
 bif (decide (((List.length ((List.take (List.length v34) v34) ++ (((v52, (v53, (v54, v55))), (v56, (v57, (v58, (v59, (v60, (List.take (List.length v61) v61))))))) :: ([] : List ((Bool × (Int × (Bool × Int))) × (Int × ((List UInt8) × ((List UInt8) × (Int × (Bool × (List Int))))))))))) * 112) ≤ 140737488355328)) then 
 bindO (some ((List.take (List.length v34) v34) ++ (((v52, (v53, (v54, v55))), (v56, (v57, (v58, (v59, (v60, (List.take (List.length v61) v61))))))) :: ([] : List ((Bool × (Int × (Bool × Int))) × (Int × ((List UInt8) × ((List UInt8) × (Int × (Bool × (List Int))))))))))) fun x64 =>
 bif v54 then
 bif (decide ((List.length v61) ≤ (List.length v61))) then 
 bif (decide ((List.length x64) ≤ (List.length x64))) then 
 bif (decide (((List.length ((List.take (List.length x64) x64) ++ (((v52, (v53, (v54, v55))), (v56, (v57, (v58, (v59, (Bool.true, (List.take (List.length v61) v61))))))) :: ([] : List ((Bool × (Int × (Bool × Int))) × (Int × ((List UInt8) × ((List UInt8) × (Int × (Bool × (List Int))))))))))) * 112) ≤ 140737488355328)) then 
 bindO (some ((List.take (List.length x64) x64) ++ (((v52, (v53, (v54, v55))), (v56, (v57, (v58, (v59, (Bool.true, (List.take (List.length v61) v61))))))) :: ([] : List ((Bool × (Int × (Bool × Int))) × (Int × ((List UInt8) × ((List UInt8) × (Int × (Bool × (List Int))))))))))) fun x65 =>
 bif ((decide ((List.length v33) ≤ (List.length v33))) && (decide ((List.length x65) ≤ (List.length x65)))) then 
 some (Sum.inl (v56, ((0 : Int), (v32, ((List.take (List.length v33) v33), ((List.take (List.length x65) x65), (x62, (v36, x46))))))))
 else none
 else none
 else none
 else none
 else
 bif ((decide ((List.length v33) ≤ (List.length v33))) && (decide ((List.length x64) ≤ (List.length x64)))) then 
 some (Sum.inl (v56, ((0 : Int), (v32, ((List.take (List.length v33) v33), ((List.take (List.length x64) x64), (x62, (v36, x46))))))))
 else none
 else none
 else none
 else none)
noncomputable def cdM (a2 : List Int) : (Int × StT) → Option ((Int × StT) ⊕ (StT ⊕ Bool)) :=
(fun (v28, (v29, (v30, (v31, ((v32, (v33, (v34, (v35, (v36, v37))))), (v38, (v39, (v40, (v41, (v42, v43)))))))))) =>
 bif (decide (v28 < (((List.length a2) : Nat) : Int))) then
 bif (decide (v28 < (60 : Int))) then
 bif (decide (((0 : Int) ≤ v28) ∧ (v28 < (((List.length a2) : Nat) : Int)))) then 
 bindO a2[(Int.toNat v28)]? fun x44 =>
 bindO (some (Go.IntKind.wrap .i64 (v31 + (Go.IntKind.wrap .i64 x44)))) fun x46 =>
 bif (decide (((0 : Int) ≤ v28) ∧ (v28 < (((List.length a2) : Nat) : Int)))) then 
 bindO a2[(Int.toNat v28)]? fun x48 =>
 joinO (sdB v28 x48 x46 v32 v33 v34 v35 v36 v37) fun (v66, (v67, (v68, (v69, (v70, (v71, (v72, v73))))))) =>
 joinO (sdB v28 x48 x46 v38 v39 v40 v41 v42 v43) fun (v91, (v92, (v93, (v94, (v95, (v96, (v97, v98))))))) =>
 joinO (bif (decide (v67 ≠ (0 : Int))) then
 outO (outO (outO (some Bool.false)))
 else
 bif (decide (v92 ≠ (0 : Int))) then
 outO (outO (outO (some Bool.false)))
 else
 bif (decide (v66 ≠ v28)) then
 outO (outO (outO (some Bool.false)))
 else
 bif (decide (v91 ≠ v28)) then
 outO (outO (outO (some Bool.false)))
 else
 some (Sum.inl ())) fun _ =>
 bindO ((Go.IntKind.wrap .u8 v28) :: (x48 :: ([] : List Int)))[0]? fun x99 =>
 bif (decide ((List.length v30) ≤ (List.length v30))) then 
 bif (decide (((List.length ((List.take (List.length v30) v30) ++ (x46 :: ([] : List Int)))) * 8) ≤ 140737488355328)) then 
 bindO (some ((List.take (List.length v30) v30) ++ (x46 :: ([] : List Int)))) fun x100 =>
 bif ((decide ((List.length v69) = (List.length v69))) && (decide ((List.length v70) = (List.length v70)))) then 
 bindO (carrier_Carrier_Receive (x46, (v68, (v69, (v70, (v71, (v72, v73))))))) fun (x102, (x103, (x104, (x105, (x106, (x107, (x108, x109))))))) =>
 bif (decide (x103 ≠ (0 : Int))) then
 outO (outO (some Bool.false))
 else
 bif ((decide ((List.length x102) ≤ (List.length x102))) && (decide ((List.length v29) ≤ (List.length v29)))) then 
 bif (decide (((List.length ((List.take (List.length v29) v29) ++ (List.take (List.length x102) x102))) * 72) ≤ 140737488355328)) then 
 bindO (some ((List.take (List.length v29) v29) ++ (List.take (List.length x102) x102))) fun x110 =>
 bif ((decide ((List.length x110) ≤ (List.length x110))) && ((decide ((List.length x100) ≤ (List.length x100))) && ((decide ((List.length x105) ≤ (List.length x105))) && ((decide ((List.length x106) ≤ (List.length x106))) && ((decide ((List.length v94) ≤ (List.length v94))) && (decide ((List.length v95) ≤ (List.length v95)))))))) then 
 some (Sum.inl ((Go.IntKind.wrap .i64 (v28 + (1 : Int))), ((List.take (List.length x110) x110), ((List.take (List.length x100) x100), (x46, ((x104, ((List.take (List.length x105) x105), ((List.take (List.length x106) x106), (x107, (x108, x109))))), (v93, ((List.take (List.length v94) v94), ((List.take (List.length v95) v95), (v96, (v97, v98)))))))))))
 else none
 else none
 else none
 else none
 else none
 else none
 else none
 else none
 else
 outO (bif ((decide ((List.length v29) ≤ (List.length v29))) && ((decide ((List.length v30) ≤ (List.length v30))) && ((decide ((List.length v33) ≤ (List.length v33))) && ((decide ((List.length v34) ≤ (List.length v34))) && ((decide ((List.length v39) ≤ (List.length v39))) && (decide ((List.length v40) ≤ (List.length v40)))))))) then 
 some (Sum.inl ((List.take (List.length v29) v29), ((List.take (List.length v30) v30), (v31, ((v32, ((List.take (List.length v33) v33), ((List.take (List.length v34) v34), (v35, (v36, v37))))), (v38, ((List.take (List.length v39) v39), ((List.take (List.length v40) v40), (v41, (v42, v43))))))))))
 else none)
 else
 outO (bif ((decide ((List.length v29) ≤ (List.length v29))) && ((decide ((List.length v30) ≤ (List.length v30))) && ((decide ((List.length v33) ≤ (List.length v33))) && ((decide ((List.length v34) ≤ (List.length v34))) && ((decide ((List.length v39) ≤ (List.length v39))) && (decide ((List.length v40) ≤ (List.length v40)))))))) then 
 some (Sum.inl ((List.take (List.length v29) v29), ((List.take (List.length v30) v30), (v31, ((v32, ((List.take (List.length v33) v33), ((List.take (List.length v34) v34), (v35, (v36, v37))))), (v38, ((List.take (List.length v39) v39), ((List.take (List.length v40) v40), (v41, (v42, v43))))))))))
 else none))
noncomputable def cdW (x3 : List FtT) (a2 v113 : List Int) (x139 : List DgT) : (Int × Int) → Option ((Int × Int) ⊕ (Int ⊕ Bool)) :=
(fun (v150, v151) =>
 bif (decide (v150 < (((List.length v113) : Nat) : Int))) then
 joinO (bif (decide (v150 < (((List.length x3) : Nat) : Int))) then
 bif (decide (((0 : Int) ≤ v150) ∧ (v150 < (((List.length x3) : Nat) : Int)))) then 
 bindO x3[(Int.toNat v150)]? fun x152 =>
 some (Sum.inl (x152.1, (x152.2.1, (x152.2.2.1, x152.2.2.2))))
 else none
 else
 some (Sum.inl (Bool.false, ((0 : Int), (Bool.false, (0 : Int)))))) fun (v153, (v154, (v155, v156))) =>
 bif v153 then
 some (Sum.inl ((Go.IntKind.wrap .i64 (v150 + (1 : Int))), v151))
 else
 bindO (some (Go.IntKind.wrap .i64 (v151 + (1 : Int)))) fun x158 =>
 bif (decide (((0 : Int) ≤ v150) ∧ (v150 < (((List.length v113) : Nat) : Int)))) then 
 bindO v113[(Int.toNat v150)]? fun x159 =>
 bif (decide (((0 : Int) ≤ v150) ∧ (v150 < (((List.length a2) : Nat) : Int)))) then 
 bindO a2[(Int.toNat v150)]? fun x161 =>
 bif (decide ((List.length x139) ≤ (List.length x139))) then 
 bindO (dialtonelaw11_has ((List.take (List.length x139) x139), (v150, ((Go.IntKind.wrap .i64 (x159 + v154)), x161)))) fun x162 =>
 bif (!x162) then
 outO (outO (some Bool.false))
 else
 bif v155 then
 bif (decide (((0 : Int) ≤ v150) ∧ (v150 < (((List.length v113) : Nat) : Int)))) then 
 bindO v113[(Int.toNat v150)]? fun x164 =>
 bif (decide (((0 : Int) ≤ v150) ∧ (v150 < (((List.length a2) : Nat) : Int)))) then 
 bindO a2[(Int.toNat v150)]? fun x166 =>
 bif (decide ((List.length x139) ≤ (List.length x139))) then 
 bindO (dialtonelaw11_has ((List.take (List.length x139) x139), (v150, ((Go.IntKind.wrap .i64 (x164 + v156)), x166)))) fun x167 =>
 bif (!x167) then
 outO (outO (some Bool.false))
 else
 some (Sum.inl ((Go.IntKind.wrap .i64 (v150 + (1 : Int))), (Go.IntKind.wrap .i64 (x158 + (1 : Int)))))
 else none
 else none
 else none
 else
 some (Sum.inl ((Go.IntKind.wrap .i64 (v150 + (1 : Int))), x158))
 else none
 else none
 else none
 else
 outO (some (Sum.inl v151)))
noncomputable def cdO (x139 : List DgT) : Int → Option (Int ⊕ (Unit ⊕ Bool)) :=
(fun v171 =>
 bif (decide (v171 < (((List.length x139) : Nat) : Int))) then
 bif (decide (v171 > (0 : Int))) then
 bif (decide (((0 : Int) ≤ v171) ∧ (v171 < (((List.length x139) : Nat) : Int)))) then 
 bindO x139[(Int.toNat v171)]? fun x172 =>
 bindO (some (Go.IntKind.wrap .i64 (v171 - (1 : Int)))) fun x173 =>
 bif (decide (((0 : Int) ≤ x173) ∧ (x173 < (((List.length x139) : Nat) : Int)))) then 
 bindO x139[(Int.toNat x173)]? fun x174 =>
 bif (decide (x172.2.2.2.1 < x174.2.2.2.1)) then
 outO (outO (some Bool.false))
 else
 bif (decide (((0 : Int) ≤ v171) ∧ (v171 < (((List.length x139) : Nat) : Int)))) then 
 bindO x139[(Int.toNat v171)]? fun x175 =>
 bindO (some (Go.IntKind.wrap .i64 (v171 - (1 : Int)))) fun x176 =>
 bif (decide (((0 : Int) ≤ x176) ∧ (x176 < (((List.length x139) : Nat) : Int)))) then 
 bindO x139[(Int.toNat x176)]? fun x177 =>
 bif (decide (x175.2.2.2.1 = x177.2.2.2.1)) then
 bif (decide (((0 : Int) ≤ v171) ∧ (v171 < (((List.length x139) : Nat) : Int)))) then 
 bindO x139[(Int.toNat v171)]? fun x178 =>
 bindO (some (Go.IntKind.wrap .i64 (v171 - (1 : Int)))) fun x179 =>
 bif (decide (((0 : Int) ≤ x179) ∧ (x179 < (((List.length x139) : Nat) : Int)))) then 
 bindO x139[(Int.toNat x179)]? fun x180 =>
 bif (decide (x178.1 < x180.1)) then
 outO (outO (some Bool.false))
 else
 some (Sum.inl (Go.IntKind.wrap .i64 (v171 + (1 : Int))))
 else none
 else none
 else
 some (Sum.inl (Go.IntKind.wrap .i64 (v171 + (1 : Int))))
 else none
 else none
 else none
 else none
 else
 some (Sum.inl (Go.IntKind.wrap .i64 (v171 + (1 : Int))))
 else
 outO (some (Sum.inl ())))
theorem cd_eq (a1 : List FtT) (a2 : List Int) : dialtonelaw11_CarrierDelivers (a1, a2) =

  bindO (dialtonelaw11_fit a1) fun x3 =>
  joinO (loopO (cdA x3) (0 : Int)) fun _ =>
  bindO (cloneG x3) fun x23 =>
  joinO (loopO (cdB x3) (0 : Int)) fun _ =>
  bindO (cloneG x3) fun x27 =>
  joinO (bif ((decide ((List.length x23) ≤ (List.length x23))) && (decide ((List.length x27) ≤ (List.length x27)))) then 
    loopO (cdM a2) ((0 : Int), (([] : List (Int × ((List UInt8) × ((List UInt8) × (Int × (List Int)))))), (([] : List Int), ((0 : Int), ((Bool.true, ((List.take (List.length x23) x23), (([] : List ((Bool × (Int × (Bool × Int))) × (Int × ((List UInt8) × ((List UInt8) × (Int × (Bool × (List Int)))))))), ((0 : Int), ((0 : Int), (0 : Int)))))), (Bool.true, ((List.take (List.length x27) x27), (([] : List ((Bool × (Int × (Bool × Int))) × (Int × ((List UInt8) × ((List UInt8) × (Int × (Bool × (List Int)))))))), ((0 : Int), ((0 : Int), (0 : Int)))))))))))
   else none) fun (v112, (v113, (v114, ((v115, (v116, (v117, (v118, (v119, v120))))), (v121, (v122, (v123, (v124, (v125, v126))))))))) =>
  bif ((decide ((List.length v116) = (List.length v116))) && (decide ((List.length v117) = (List.length v117)))) then 
   bindO (carrier_Carrier_Receive ((Go.IntKind.wrap .i64 (v114 + (1000 : Int))), (v115, (v116, (v117, (v118, (v119, v120))))))) fun (x129, (x130, (x131, (x132, (x133, (x134, (x135, x136))))))) =>
   bif ((decide ((List.length v122) = (List.length v122))) && (decide ((List.length v123) = (List.length v123)))) then 
    bindO (carrier_Carrier_Receive ((Go.IntKind.wrap .i64 (v114 + (1000 : Int))), (v121, (v122, (v123, (v124, (v125, v126))))))) fun (x139, (x140, (x141, (x142, (x143, (x144, (x145, x146))))))) =>
    bif ((decide ((List.length x129) ≤ (List.length x129))) && (decide ((List.length v112) ≤ (List.length v112)))) then 
     bif (decide (((List.length ((List.take (List.length v112) v112) ++ (List.take (List.length x129) x129))) * 72) ≤ 140737488355328)) then 
      bindO (some ((List.take (List.length v112) v112) ++ (List.take (List.length x129) x129))) fun x147 =>
      joinO (bif (decide (x130 ≠ (0 : Int))) then
        outO (some Bool.false)
       else
        bif (decide (x140 ≠ (0 : Int))) then
         outO (some Bool.false)
        else
         bif (decide ((((List.length x147) : Nat) : Int) ≠ (((List.length x139) : Nat) : Int))) then
          outO (some Bool.false)
         else
          bif ((decide ((List.length x132) = (List.length x132))) && (decide ((List.length x133) = (List.length x133)))) then 
           bindO (carrier_Carrier_Waiting (x131, (x132, (x133, (x134, (x135, x136)))))) fun x148 =>
           bif (decide (x148 ≠ (0 : Int))) then
            outO (some Bool.false)
           else
            bif ((decide ((List.length x142) = (List.length x142))) && (decide ((List.length x143) = (List.length x143)))) then 
             bindO (carrier_Carrier_Waiting (x141, (x142, (x143, (x144, (x145, x146)))))) fun x149 =>
             bif (decide (x149 ≠ (0 : Int))) then
              outO (some Bool.false)
             else
              some (Sum.inl ())
            else none
          else none) fun _ =>
      joinO (loopO (cdW x3 a2 v113 x139) ((0 : Int), (0 : Int))) fun v170 =>
      joinO (loopO (cdO x139) (0 : Int)) fun _ =>
      bif (decide (v170 = (((List.length x139) : Nat) : Int))) then
       bif ((decide ((List.length x147) ≤ (List.length x147))) && (decide ((List.length x139) ≤ (List.length x139)))) then 
        bindO (dialtonelaw11_alike ((List.take (List.length x147) x147), (List.take (List.length x139) x139))) fun x184 =>
        bif x184 then
         some Bool.true
        else
         some Bool.false
       else none
      else
       some Bool.false
     else none
    else none
   else none
  else none := rfl
end Go.Proofs.Ytkhdpjlpahammaa
