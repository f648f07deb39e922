import Derived.Test.YtkhdpjlpahammaaS17p
import Derived.Test.YtkhdpjlpahammaaZ5p
set_option linter.unusedVariables false
set_option linter.unusedSimpArgs false
set_option maxRecDepth 100000
namespace Go.Proofs.Ytkhdpjlpahammaa
open Go.RowKit
abbrev CaT := Bool × (List FtT × (List PcT × (Int × (Int × Int))))
abbrev RfT := List FtT × (List DgT × (Int × (Int × Int)))
abbrev AcT := Int × (Int × (List UInt8 × (List UInt8 × List Int)))
abbrev PlT := Int × (RfT × (CaT × (RfT × CaT)))
abbrev PeT := RfT × (CaT × (RfT × CaT))
noncomputable def rrB {δ : Type} (a1 : Int) : (Int × (List DgT × RfT)) → Option ((Int × (List DgT × RfT)) ⊕ ((List DgT × RfT) ⊕ δ)) :=
(fun (v8, (v9, (v10, (v11, (v12, (v13, v14)))))) =>
 bif (decide (v8 ≥ (0 : Int))) then
 bif (decide (((0 : Int) ≤ v8) ∧ (v8 < (((List.length v11) : Nat) : Int)))) then 
 bindO v11[(Int.toNat v8)]? fun x15 =>
 bif (decide (x15.2.2.2.1 ≤ a1)) then
 bif (decide (((0 : Int) ≤ v8) ∧ (v8 < (((List.length v11) : Nat) : Int)))) then 
 bindO v11[(Int.toNat v8)]? fun x16 =>
 bif (decide ((List.length v9) ≤ (List.length v9))) then 
 bif (decide (((List.length ((List.take (List.length v9) v9) ++ ((x16.1, (x16.2.1, (x16.2.2.1, (x16.2.2.2.1, x16.2.2.2.2)))) :: ([] : List (Int × ((List UInt8) × ((List UInt8) × (Int × (List Int))))))))) * 72) ≤ 140737488355328)) then 
 bindO (some ((List.take (List.length v9) v9) ++ ((x16.1, (x16.2.1, (x16.2.2.1, (x16.2.2.2.1, x16.2.2.2.2)))) :: ([] : List (Int × ((List UInt8) × ((List UInt8) × (Int × (List Int))))))))) fun x17 =>
 bif (decide (((0 : Int) ≤ v8) ∧ (v8 ≤ (((List.length v11) : Nat) : Int)))) then 
 bif (decide ((Int.toNat v8) ≤ (List.length v11))) then 
 bif (decide (((List.length (List.take (Int.toNat v8) v11)) * 72) ≤ 140737488355328)) then 
 bindO (some (List.take (Int.toNat v8) v11)) fun x18 =>
 bindO (some (Go.IntKind.wrap .i64 (v8 + (1 : Int)))) fun x19 =>
 bif (decide (((0 : Int) ≤ x19) ∧ (x19 ≤ (((List.length v11) : Nat) : Int)))) then 
 bif ((decide (((Int.toNat x19) + ((List.length v11) - (Int.toNat x19))) ≤ (List.length v11))) && (decide ((List.length x18) ≤ (List.length x18)))) then 
 bif (decide (((List.length ((List.take (List.length x18) x18) ++ (List.take ((List.length v11) - (Int.toNat x19)) (List.drop (Int.toNat x19) v11)))) * 72) ≤ 140737488355328)) then 
 bindO (some ((List.take (List.length x18) x18) ++ (List.take ((List.length v11) - (Int.toNat x19)) (List.drop (Int.toNat x19) v11)))) fun x20 =>
 bif (decide ((List.length x20) = (List.length x20))) then 
 bindO (rfirst (v10, (x20, (v12, (v13, v14))))) fun x21 =>
 bif ((decide ((List.length x17) ≤ (List.length x17))) && (decide ((List.length x20) ≤ (List.length x20)))) then 
 some (Sum.inl (x21, ((List.take (List.length x17) x17), (v10, ((List.take (List.length x20) x20), (v12, (v13, v14)))))))
 else none
 else none
 else none
 else none
 else none
 else none
 else none
 else none
 else none
 else none
 else none
 else
 outO (bif ((decide ((List.length v9) ≤ (List.length v9))) && (decide ((List.length v11) ≤ (List.length v11)))) then 
 some (Sum.inl ((List.take (List.length v9) v9), (v10, ((List.take (List.length v11) v11), (v12, (v13, v14))))))
 else none)
 else none
 else
 outO (bif ((decide ((List.length v9) ≤ (List.length v9))) && (decide ((List.length v11) ≤ (List.length v11)))) then 
 some (Sum.inl ((List.take (List.length v9) v9), (v10, ((List.take (List.length v11) v11), (v12, (v13, v14))))))
 else none))
theorem rr_eq (a1 : Int) (a2 : List FtT) (a3 : List DgT) (a4 a5 a6 : Int) : rReceive (a1, (a2, (a3, (a4, (a5, a6))))) =

  bif (decide (a1 < a4)) then
   bif (decide ((List.length a3) ≤ (List.length a3))) then 
    some (([] : List (Int × ((List UInt8) × ((List UInt8) × (Int × (List Int)))))), ((3 : Int), (a2, ((List.take (List.length a3) a3), (a4, (a5, a6))))))
   else none
  else
   bif (decide (a1 > (1099511627776 : Int))) then
    bif (decide ((List.length a3) ≤ (List.length a3))) then 
     some (([] : List (Int × ((List UInt8) × ((List UInt8) × (Int × (List Int)))))), ((3 : Int), (a2, ((List.take (List.length a3) a3), (a4, (a5, a6))))))
    else none
   else
    joinO (bif (decide ((List.length a3) = (List.length a3))) then 
      bindO (rfirst (a2, (a3, (a1, (a5, a6))))) fun x7 =>
      bif (decide ((List.length a3) ≤ (List.length a3))) then 
       loopO (rrB a1) (x7, (([] : List (Int × ((List UInt8) × ((List UInt8) × (Int × (List Int)))))), (a2, ((List.take (List.length a3) a3), (a1, (a5, a6))))))
      else none
     else none) fun (v22, (v23, (v24, (v25, (v26, v27))))) =>
    bif ((decide ((List.length v22) ≤ (List.length v22))) && (decide ((List.length v24) ≤ (List.length v24)))) then 
     some ((List.take (List.length v22) v22), ((0 : Int), (v23, ((List.take (List.length v24) v24), (v25, (v26, v27))))))
    else none := rfl
noncomputable def cpB {δ : Type} (x8 : List PcT) : (Int × List PcT) → Option ((Int × List PcT) ⊕ (List PcT ⊕ δ)) :=
(fun (v9, v10) =>
 bif (decide (v9 < (((List.length x8) : Nat) : Int))) then
 bif (decide (((0 : Int) ≤ v9) ∧ (v9 < (((List.length x8) : Nat) : Int)))) then 
 bindO v10[(Int.toNat v9)]? fun x11 =>
 bindO (cloneB x11.2.2.2.2.2.2) fun x12 =>
 bif (decide (((0 : Int) ≤ v9) ∧ (v9 < (((List.length x8) : Nat) : Int)))) then 
 bindO v10[(Int.toNat v9)]? fun x13 =>
 bif (decide ((List.length x12) ≤ (List.length x12))) then 
 some (Sum.inl ((Go.IntKind.wrap .i64 (v9 + (1 : Int))), (List.set v10 (Int.toNat v9) ((x13.1.1, (x13.1.2.1, (x13.1.2.2.1, x13.1.2.2.2))), (x13.2.1, (x13.2.2.1, (x13.2.2.2.1, (x13.2.2.2.2.1, (x13.2.2.2.2.2.1, (List.take (List.length x12) x12))))))))))
 else none
 else none
 else none
 else
 outO (some (Sum.inl v10)))
theorem cp_eq (a1 : Bool) (a2 : List FtT) (a3 : List PcT) (a4 a5 a6 : Int) : copyC (a1, (a2, (a3, (a4, (a5, a6))))) =

  bif (!a1) then
   none 
  else
   bif (decide ((List.length a2) = (List.length a2))) then 
    bindO (cloneG a2) fun x7 =>
    bif (decide ((List.length a3) = (List.length a3))) then 
     bindO (cloneG a3) fun x8 =>
     joinO (loopO (cpB x8) ((0 : Int), x8)) fun v15 =>
     bif ((decide ((List.length x7) = (List.length x7))) && (decide ((List.length x8) = (List.length v15)))) then 
      some (a1, (x7, (v15, (a4, (a5, a6)))))
     else none
    else none
   else none := rfl
noncomputable def plI (x3 : List FtT) : Int → Option (Int ⊕ (Unit ⊕ Bool)) :=
(fun v7 =>
 bif (decide (v7 < (((List.length x3) : Nat) : Int))) then
 bif (decide (((0 : Int) ≤ v7) ∧ (v7 < (((List.length x3) : Nat) : Int)))) then 
 bindO x3[(Int.toNat v7)]? fun x8 =>
 bindO (dialtoneref11_delay x8.2.1) fun x9 =>
 bif (!x9) then
 outO (outO (some Bool.true))
 else
 bif (decide (((0 : Int) ≤ v7) ∧ (v7 < (((List.length x3) : Nat) : Int)))) then 
 bindO x3[(Int.toNat v7)]? fun x11 =>
 bindO (dialtoneref11_delay x11.2.2.2) fun x12 =>
 bif (!x12) then
 outO (outO (some Bool.true))
 else
 some (Sum.inl (Go.IntKind.wrap .i64 (v7 + (1 : Int))))
 else none
 else none
 else
 outO (some (Sum.inl ())))
noncomputable def plA (x3 : List FtT) : Int → Option (Int ⊕ (Unit ⊕ Bool)) :=
(fun v5 =>
 bif (decide (v5 < (((List.length x3) : Nat) : Int))) then
 bif (decide (((0 : Int) ≤ v5) ∧ (v5 < (((List.length x3) : Nat) : Int)))) then 
 bindO x3[(Int.toNat v5)]? fun x6 =>
 bif (decide (x6.2.1 < (0 : Int))) then
 outO (outO (joinO (loopO (plI x3) (0 : Int)) fun _ =>
 bif (decide (((List.length x3) * 32) ≤ 140737488355328)) then 
 some Bool.false
 else none))
 else
 bif (decide (x6.2.1 > (60000 : Int))) then
 outO (outO (joinO (loopO (plI x3) (0 : Int)) fun _ =>
 bif (decide (((List.length x3) * 32) ≤ 140737488355328)) then 
 some Bool.false
 else none))
 else
 bif (decide (x6.2.2.2 < (0 : Int))) then
 outO (outO (joinO (loopO (plI x3) (0 : Int)) fun _ =>
 bif (decide (((List.length x3) * 32) ≤ 140737488355328)) then 
 some Bool.false
 else none))
 else
 bif (decide (x6.2.2.2 > (60000 : Int))) then
 outO (outO (joinO (loopO (plI x3) (0 : Int)) fun _ =>
 bif (decide (((List.length x3) * 32) ≤ 140737488355328)) then 
 some Bool.false
 else none))
 else
 some (Sum.inl (Go.IntKind.wrap .i64 (v5 + (1 : Int))))
 else none
 else
 outO (some (Sum.inl ())))
noncomputable def plB (x3 : List FtT) : Int → Option (Int ⊕ (Unit ⊕ Bool)) :=
(fun v45 =>
 bif (decide (v45 < (((List.length x3) : Nat) : Int))) then
 bif (decide (((0 : Int) ≤ v45) ∧ (v45 < (((List.length x3) : Nat) : Int)))) then 
 bindO x3[(Int.toNat v45)]? fun x46 =>
 bindO (dialtoneref11_delay x46.2.1) fun x47 =>
 bif (!x47) then
 outO (outO (some Bool.false))
 else
 bif (decide (((0 : Int) ≤ v45) ∧ (v45 < (((List.length x3) : Nat) : Int)))) then 
 bindO x3[(Int.toNat v45)]? fun x48 =>
 bindO (dialtoneref11_delay x48.2.2.2) fun x49 =>
 bif (!x49) then
 outO (outO (some Bool.false))
 else
 some (Sum.inl (Go.IntKind.wrap .i64 (v45 + (1 : Int))))
 else none
 else none
 else
 outO (some (Sum.inl ())))
noncomputable def plH (x4 : List AcT) (v60 : Int) (v61 : List FtT) (v62 : List DgT) (v63 v64 v65 : Int) (v66 : Bool) (v67 : List FtT) (v68 : List PcT) (v69 v70 v71 : Int) (v72 : List FtT) (v73 : List DgT) (v74 v75 v76 : Int) (v77 : Bool) (v78 : List FtT) (v79 : List PcT) (v80 v81 v82 : Int) : Option ((RfT × CaT) ⊕ (PlT ⊕ (PeT ⊕ Bool))) :=
(bif (decide (v60 = (Go.IntKind.wrap .i64 (Int.tdiv (((List.length x4) : Nat) : Int) (2 : Int))))) then
 bif ((decide ((List.length v78) = (List.length v78))) && (decide ((List.length v79) = (List.length v79)))) then 
 bindO (copyC (v77, (v78, (v79, (v80, (v81, v82)))))) fun (x85, (x86, (x87, (x88, (x89, x90))))) =>
 bif (decide ((List.length v73) ≤ (List.length v73))) then 
 bif (decide (((List.length (List.take (List.length v73) v73)) * 72) ≤ 140737488355328)) then 
 bindO (some (List.take (List.length v73) v73)) fun x91 =>
 bif ((decide ((List.length x91) = (List.length x91))) && ((decide ((List.length x86) = (List.length x86))) && (decide ((List.length x87) = (List.length x87))))) then 
 some (Sum.inl ((v72, (x91, (v74, (v75, v76)))), (x85, (x86, (x87, (x88, (x89, x90)))))))
 else none
 else none
 else none
 else none
 else
 bif ((decide ((List.length v62) = (List.length v62))) && ((decide ((List.length v67) = (List.length v67))) && (decide ((List.length v68) = (List.length v68))))) then 
 some (Sum.inl ((v61, (v62, (v63, (v64, v65)))), (v66, (v67, (v68, (v69, (v70, v71)))))))
 else none)
noncomputable def plS (x103 : AcT) (v72 : List FtT) (v73 : List DgT) (v74 v75 v76 : Int) (v77 : Bool) (v78 : List FtT) (v79 : List PcT) (v80 v81 v82 : Int) : Option ((RfT × CaT) ⊕ (PlT ⊕ (PeT ⊕ Bool))) :=
(bif (decide ((Int.tmod x103.1 (4 : Int)) < (2 : Int))) then
 bif ((decide ((List.length v78) = (List.length v78))) && (decide ((List.length v79) = (List.length v79)))) then 
 bindO (carrier_Carrier_Send (x103.2.2.1, (x103.2.2.2.1, (x103.2.2.2.2, (x103.2.1, (v77, (v78, (v79, (v80, (v81, v82)))))))))) fun (x106, (x107, (x108, (x109, (x110, (x111, (x112, x113))))))) =>
 bif (decide ((List.length v73) = (List.length v73))) then 
 bindO (rSend (x103.2.2.1, (x103.2.2.2.1, (x103.2.2.2.2, (x103.2.1, (v72, (v73, (v74, (v75, v76))))))))) fun (x115, (x116, (x117, (x118, (x119, (x120, x121)))))) =>
 bif (decide (x106 ≠ x115)) then
 outO (outO (outO (some Bool.false)))
 else
 bif (decide (x107 ≠ x116)) then
 outO (outO (outO (some Bool.false)))
 else
 bif ((decide ((List.length x118) ≤ (List.length x118))) && ((decide ((List.length x109) ≤ (List.length x109))) && (decide ((List.length x110) ≤ (List.length x110))))) then 
 some (Sum.inl ((x117, ((List.take (List.length x118) x118), (x119, (x120, x121)))), (x108, ((List.take (List.length x109) x109), ((List.take (List.length x110) x110), (x111, (x112, x113)))))))
 else none
 else none
 else none
 else
 joinO (bif (decide ((Int.tmod x103.1 (4 : Int)) = (3 : Int))) then
 some (Sum.inl (Go.IntKind.wrap .i64 (v74 + (Go.IntKind.wrap .i64 (Int.tmod (Go.IntKind.wrap .u64 x103.2.1) (50 : Int))))))
 else
 some (Sum.inl x103.2.1)) fun v127 =>
 bif ((decide ((List.length v78) = (List.length v78))) && (decide ((List.length v79) = (List.length v79)))) then 
 bindO (carrier_Carrier_Receive (v127, (v77, (v78, (v79, (v80, (v81, v82))))))) fun (x129, (x130, (x131, (x132, (x133, (x134, (x135, x136))))))) =>
 bif (decide ((List.length v73) = (List.length v73))) then 
 bindO (rReceive (v127, (v72, (v73, (v74, (v75, v76)))))) fun (x138, (x139, (x140, (x141, (x142, (x143, x144)))))) =>
 bif (decide (x130 ≠ x139)) then
 outO (outO (outO (some Bool.false)))
 else
 bif ((decide ((List.length x129) ≤ (List.length x129))) && (decide ((List.length x138) ≤ (List.length x138)))) then 
 bindO (dialtoneref11_Same ((List.take (List.length x129) x129), (List.take (List.length x138) x138))) fun x145 =>
 bif (!x145) then
 outO (outO (outO (some Bool.false)))
 else
 bif ((decide ((List.length x141) ≤ (List.length x141))) && ((decide ((List.length x132) ≤ (List.length x132))) && (decide ((List.length x133) ≤ (List.length x133))))) then 
 some (Sum.inl ((x140, ((List.take (List.length x141) x141), (x142, (x143, x144)))), (x131, ((List.take (List.length x132) x132), ((List.take (List.length x133) x133), (x134, (x135, x136)))))))
 else none
 else none
 else none
 else none)
noncomputable def plM (x4 : List AcT) : PlT → Option (PlT ⊕ (PeT ⊕ Bool)) :=
(fun (v60, ((v61, (v62, (v63, (v64, v65)))), ((v66, (v67, (v68, (v69, (v70, v71))))), ((v72, (v73, (v74, (v75, v76)))), (v77, (v78, (v79, (v80, (v81, v82))))))))) =>
 bif (decide (v60 < (((List.length x4) : Nat) : Int))) then
 joinO (plH x4 v60 v61 v62 v63 v64 v65 v66 v67 v68 v69 v70 v71 v72 v73 v74 v75 v76 v77 v78 v79 v80 v81 v82) fun ((v92, (v93, (v94, (v95, v96)))), (v97, (v98, (v99, (v100, (v101, v102)))))) =>
 bif (decide (((0 : Int) ≤ v60) ∧ (v60 < (((List.length x4) : Nat) : Int)))) then 
 bindO x4[(Int.toNat v60)]? fun x103 =>
 joinO (plS x103 v72 v73 v74 v75 v76 v77 v78 v79 v80 v81 v82) fun ((v146, (v147, (v148, (v149, v150)))), (v151, (v152, (v153, (v154, (v155, v156)))))) =>
 bif ((decide ((List.length v152) = (List.length v152))) && ((decide ((List.length v153) = (List.length v153))) && (decide ((List.length v147) = (List.length v147))))) then 
 bindO (sameL ((v151, (v152, (v153, (v154, (v155, v156))))), (v146, (v147, (v148, (v149, v150)))))) fun x157 =>
 bif (!x157) then
 outO (outO (some Bool.false))
 else
 bif ((decide ((List.length v93) = (List.length v93))) && ((decide ((List.length v98) = (List.length v98))) && ((decide ((List.length v99) = (List.length v99))) && ((decide ((List.length v147) = (List.length v147))) && ((decide ((List.length v152) = (List.length v152))) && (decide ((List.length v153) = (List.length v153)))))))) then 
 some (Sum.inl ((Go.IntKind.wrap .i64 (v60 + (1 : Int))), ((v92, (v93, (v94, (v95, v96)))), ((v97, (v98, (v99, (v100, (v101, v102))))), ((v146, (v147, (v148, (v149, v150)))), (v151, (v152, (v153, (v154, (v155, v156))))))))))
 else none
 else none
 else none
 else
 outO (bif ((decide ((List.length v62) = (List.length v62))) && ((decide ((List.length v67) = (List.length v67))) && ((decide ((List.length v68) = (List.length v68))) && ((decide ((List.length v73) = (List.length v73))) && ((decide ((List.length v78) = (List.length v78))) && (decide ((List.length v79) = (List.length v79)))))))) then 
 some (Sum.inl ((v61, (v62, (v63, (v64, v65)))), ((v66, (v67, (v68, (v69, (v70, v71))))), ((v72, (v73, (v74, (v75, v76)))), (v77, (v78, (v79, (v80, (v81, v82)))))))))
 else none))
theorem pl_eq (a1 : List FtT) (a2 : List AcT) : dialtonelaw11_CarrierPlays (a1, a2) =

  bif (decide (((0 : Int) ≤ (minA (((List.length a1) : Nat) : Int) (60 : Int))) ∧ ((minA (((List.length a1) : Nat) : Int) (60 : Int)) ≤ (((List.length a1) : Nat) : Int)))) then 
   bindO (some (List.take (Int.toNat (minA (((List.length a1) : Nat) : Int) (60 : Int))) a1)) fun x3 =>
   bif (decide (((0 : Int) ≤ (minA (((List.length a2) : Nat) : Int) (60 : Int))) ∧ ((minA (((List.length a2) : Nat) : Int) (60 : Int)) ≤ (((List.length a2) : Nat) : Int)))) then 
    bindO (some (List.take (Int.toNat (minA (((List.length a2) : Nat) : Int) (60 : Int))) a2)) fun x4 =>
    joinO (loopO (plA x3) (0 : Int)) fun _ =>
    bindO (cloneG x3) fun x44 =>
    joinO (loopO (plB x3) (0 : Int)) fun _ =>
    bif (decide (((List.length x3) * 32) ≤ 140737488355328)) then 
     bif (decide ((List.length x44) = (List.length x44))) then 
      bindO (copyC (Bool.true, (x44, (([] : List ((Bool × (Int × (Bool × Int))) × (Int × ((List UInt8) × ((List UInt8) × (Int × (Bool × (List Int)))))))), ((0 : Int), ((0 : Int), (0 : Int))))))) fun (x53, (x54, (x55, (x56, (x57, x58))))) =>
      joinO (bif ((decide ((List.length x3) ≤ (List.length x3))) && ((decide ((List.length x54) = (List.length x54))) && ((decide ((List.length x55) = (List.length x55))) && ((decide ((List.length x3) ≤ (List.length x3))) && ((decide ((List.length x44) = (List.length x44))) && Bool.true))))) then 
        loopO (plM x4) ((0 : Int), (((List.take (List.length x3) x3), (([] : List (Int × ((List UInt8) × ((List UInt8) × (Int × (List Int)))))), ((0 : Int), ((0 : Int), (0 : Int))))), ((x53, (x54, (x55, (x56, (x57, x58))))), (((List.take (List.length x3) x3), (([] : List (Int × ((List UInt8) × ((List UInt8) × (Int × (List Int)))))), ((0 : Int), ((0 : Int), (0 : Int))))), (Bool.true, (x44, (([] : List ((Bool × (Int × (Bool × Int))) × (Int × ((List UInt8) × ((List UInt8) × (Int × (Bool × (List Int)))))))), ((0 : Int), ((0 : Int), (0 : Int))))))))))
       else none) fun ((v159, (v160, (v161, (v162, v163)))), ((v164, (v165, (v166, (v167, (v168, v169))))), ((v170, (v171, (v172, (v173, v174)))), (v175, (v176, (v177, (v178, (v179, v180)))))))) =>
      bif ((decide ((List.length v165) = (List.length v165))) && ((decide ((List.length v166) = (List.length v166))) && (decide ((List.length v160) = (List.length v160))))) then 
       bindO (sameL ((v164, (v165, (v166, (v167, (v168, v169))))), (v159, (v160, (v161, (v162, v163)))))) fun x181 =>
       bif x181 then
        some Bool.true
       else
        some Bool.false
      else none
     else none
    else none
   else none
  else none := rfl
end Go.Proofs.Ytkhdpjlpahammaa
