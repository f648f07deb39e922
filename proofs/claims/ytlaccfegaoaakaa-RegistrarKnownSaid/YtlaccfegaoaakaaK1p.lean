import Derived.Test.YtlaccfegaoaakaaY2p
import Derived.Test.YtlaccfegaoaakaaZ2p
set_option linter.unusedVariables false
set_option maxRecDepth 1000000
set_option maxHeartbeats 0
namespace Go.Proofs.Ytlaccfegaoaakaa
open Go.RowKit
def registrar_within_F : (Int × (Int × Int)) → Option Bool := fun (a1, (a2, a3)) =>
  bif (decide (a1 ≥ a2)) then
   some (decide (a1 ≤ a3))
  else
   some Bool.false
theorem registrar_within_le (x : _) : LeO (registrar_within_F x) (registrar_within x) := by
  unfold registrar_within_F registrar_within
  repeat' (first | (with_reducible first | exact LeO.refl _ | apply LeO.bind | apply LeO.join | apply LeO.out | apply LeO.cond | apply LeO.loop) | (intro p; first | (obtain ⟨a, q⟩ : Prod _ _ := p; revert q) | skip) | dsimp only)
def registrar_Formed_F : ((List UInt8) × ((List UInt8) × (Int × (Bool × ((List ((List UInt8) × (Int × Int))) × (Int × ((List UInt8) × (Int × (List (List UInt8)))))))))) → Option Bool := fun (a1, (a2, (a3, (a4, (a5, (a6, (a7, (a8, a9)))))))) =>
  joinO (bindO (registrar_within_F ((((List.length a1) : Nat) : Int), ((1 : Int), (255 : Int)))) fun x10 =>
   bif (!x10) then
    outO (some Bool.false)
   else
    bindO (registrar_within_F ((((List.length a2) : Nat) : Int), ((1 : Int), (255 : Int)))) fun x11 =>
    bif (!x11) then
     outO (some Bool.false)
    else
     bindO (registrar_within_F (a3, ((0 : Int), (2147483647 : Int)))) fun x12 =>
     bif (!x12) then
      outO (some Bool.false)
     else
      some (Sum.inl ())) fun _ =>
  joinO (bindO (registrar_within_F (a6, ((-1 : Int), (2147483647 : Int)))) fun x13 =>
   bif (!x13) then
    outO (some Bool.false)
   else
    bif (decide ((((List.length a5) : Nat) : Int) > (20 : Int))) then
     outO (some Bool.false)
    else
     bif (decide ((((List.length a9) : Nat) : Int) > (10 : Int))) then
      outO (some Bool.false)
     else
      some (Sum.inl ())) fun _ =>
  joinO (bif a4 then
    bif (decide ((((List.length a5) : Nat) : Int) > (0 : Int))) then
     outO (some Bool.false)
    else
     bif (decide (a6 ≠ (0 : Int))) then
      outO (some Bool.false)
     else
      some (Sum.inl ())
   else
    some (Sum.inl ())) fun _ =>
  bif (decide ((((List.length a7) : Nat) : Int) > (255 : Int))) then
   some Bool.false
  else
   bindO (registrar_within_F (a8, ((0 : Int), (2147483647 : Int)))) fun x14 =>
   bif (!x14) then
    some Bool.false
   else
    joinO (bif (decide (a8 ≠ (0 : Int))) then
      bif (decide (a7 = ([] : List UInt8))) then
       outO (some Bool.false)
      else
       bif (decide ((((List.length a5) : Nat) : Int) > (1 : Int))) then
        outO (some Bool.false)
       else
        some (Sum.inl ())
     else
      some (Sum.inl ())) fun _ =>
    joinO (loopF (fun v15 =>
      bif (decide (v15 < (((List.length a5) : Nat) : Int))) then
       bif (decide (((0 : Int) ≤ v15) ∧ (v15 < (((List.length a5) : Nat) : Int)))) then 
        bindO a5[(Int.toNat v15)]? fun x16 =>
        joinO (bindO (registrar_within_F ((((List.length x16.1) : Nat) : Int), ((1 : Int), (1000 : Int)))) fun x17 =>
         bif (!x17) then
          outO (outO (outO (some Bool.false)))
         else
          bindO (registrar_within_F (x16.2.1, ((0 : Int), (1000 : Int)))) fun x18 =>
          bif (!x18) then
           outO (outO (outO (some Bool.false)))
          else
           bindO (registrar_within_F (x16.2.2, ((-1 : Int), (2147483647 : Int)))) fun x19 =>
           bif (!x19) then
            outO (outO (outO (some Bool.false)))
           else
            some (Sum.inl ())) fun _ =>
        bif (decide (((0 : Int) ≤ v15) ∧ (v15 ≤ (((List.length a5) : Nat) : Int)))) then 
         bindO (some (List.take (Int.toNat v15) a5)) fun x20 =>
         joinO (joinO (loopF (fun v21 =>
            bif (decide (v21 < (((List.length x20) : Nat) : Int))) then
             bif (decide (((0 : Int) ≤ v21) ∧ (v21 < (((List.length x20) : Nat) : Int)))) then 
              bindO x20[(Int.toNat v21)]? fun x22 =>
              bif (decide (x22.1 = x16.1)) then
               outO (outO (some (Sum.inl v21)))
              else
               some (Sum.inl (Go.IntKind.wrap .i64 (v21 + (1 : Int))))
             else none
            else
             outO (some (Sum.inl ()))) 1000 (0 : Int)) fun _ =>
          some (Sum.inl (-1 : Int))) fun v24 =>
         bif (decide (v24 ≥ (0 : Int))) then
          outO (outO (some Bool.false))
         else
          some (Sum.inl (Go.IntKind.wrap .i64 (v15 + (1 : Int))))
        else none
       else none
      else
       outO (some (Sum.inl ()))) 1000 (0 : Int)) fun _ =>
    joinO (joinO (loopF (fun v26 =>
       bif (decide (v26 < (((List.length a9) : Nat) : Int))) then
        bif (decide (((0 : Int) ≤ v26) ∧ (v26 < (((List.length a9) : Nat) : Int)))) then 
         bindO a9[(Int.toNat v26)]? fun x27 =>
         bindO (registrar_within_F ((((List.length x27) : Nat) : Int), ((1 : Int), (1000 : Int)))) fun x28 =>
         bif (!x28) then
          outO (outO (some (Sum.inl v26)))
         else
          some (Sum.inl (Go.IntKind.wrap .i64 (v26 + (1 : Int))))
        else none
       else
        outO (some (Sum.inl ()))) 1000 (0 : Int)) fun _ =>
     some (Sum.inl (-1 : Int))) fun v30 =>
    some (!(decide (v30 ≥ (0 : Int))))
theorem registrar_Formed_le (x : _) : LeO (registrar_Formed_F x) (registrar_Formed x) := by
  unfold registrar_Formed_F registrar_Formed
  repeat' (first | (with_reducible first | exact LeO.refl _ | apply LeO.bind | apply LeO.join | apply LeO.out | apply LeO.cond | apply LeO.loop) | (with_reducible exact registrar_within_le _) | (intro p; first | (obtain ⟨a, q⟩ : Prod _ _ := p; revert q) | skip) | dsimp only)
def registrar_signed_F : Int → Option Int := fun a1 =>
  bif (decide (a1 = (4294967295 : Int))) then
   some (-1 : Int)
  else
   some (Go.IntKind.wrap .i64 a1)
theorem registrar_signed_le (x : _) : LeO (registrar_signed_F x) (registrar_signed x) := by
  unfold registrar_signed_F registrar_signed
  repeat' (first | (with_reducible first | exact LeO.refl _ | apply LeO.bind | apply LeO.join | apply LeO.out | apply LeO.cond | apply LeO.loop) | (intro p; first | (obtain ⟨a, q⟩ : Prod _ _ := p; revert q) | skip) | dsimp only)
def registrar_DecodeAct_F : (List Int) → Option (Int × (((List UInt8) × ((List UInt8) × (Int × (Bool × ((List ((List UInt8) × (Int × Int))) × (Int × ((List UInt8) × (Int × (List (List UInt8)))))))))) × Int)) := fun a1 =>
  joinO (joinO (joinO (bif (decide ((((List.length a1) : Nat) : Int) < (8 : Int))) then
      some (Sum.inl (([] : List Int), (a1, (6 : Int))))
     else
      bif ((decide (((0 : Int) ≤ (8 : Int)) ∧ ((8 : Int) ≤ (((List.length a1) : Nat) : Int)))) && Bool.true) then 
       bif (decide (((0 : Int) ≤ (8 : Int)) ∧ ((8 : Int) ≤ (((List.length a1) : Nat) : Int)))) then 
        some (Sum.inl ((List.take 8 a1), ((List.drop 8 a1), (0 : Int))))
       else none
      else none) fun (v4, (v5, v6)) =>
    loopF (fun (v7, v8) =>
     bif (decide (v7 < (((List.length v4) : Nat) : Int))) then
      bif (decide (((0 : Int) ≤ v7) ∧ (v7 < (((List.length v4) : Nat) : Int)))) then 
       bindO v4[(Int.toNat v7)]? fun x9 =>
       some (Sum.inl ((Go.IntKind.wrap .i64 (v7 + (1 : Int))), (Go.IntKind.wrap .u64 (((BitVec.toNat ((BitVec.ofInt 64 (Go.IntKind.wrap .u64 (v8 * (256 : Int)))) ||| (BitVec.ofInt 64 (Go.IntKind.wrap .u64 x9)))) : Nat) : Int))))
      else none
     else
      outO (some (Sum.inl (v8, (v5, v6))))) 1000 ((0 : Int), (0 : Int))) fun (v14, (v15, v16)) =>
   some (Sum.inl (v14, (v15, v16)))) fun (v17, (v18, v19)) =>
  joinO (joinO (joinO (bif (decide (v19 ≠ (0 : Int))) then
      some (Sum.inl (([] : List Int), (v18, (6 : Int))))
     else
      bif (decide ((((List.length v18) : Nat) : Int) < (2 : Int))) then
       some (Sum.inl (([] : List Int), (v18, (6 : Int))))
      else
       bif ((decide (((0 : Int) ≤ (2 : Int)) ∧ ((2 : Int) ≤ (((List.length v18) : Nat) : Int)))) && Bool.true) then 
        bif (decide (((0 : Int) ≤ (2 : Int)) ∧ ((2 : Int) ≤ (((List.length v18) : Nat) : Int)))) then 
         some (Sum.inl ((List.take 2 v18), ((List.drop 2 v18), v19)))
        else none
       else none) fun (v22, (v23, v24)) =>
    loopF (fun (v25, v26) =>
     bif (decide (v25 < (((List.length v22) : Nat) : Int))) then
      bif (decide (((0 : Int) ≤ v25) ∧ (v25 < (((List.length v22) : Nat) : Int)))) then 
       bindO v22[(Int.toNat v25)]? fun x27 =>
       some (Sum.inl ((Go.IntKind.wrap .i64 (v25 + (1 : Int))), (Go.IntKind.wrap .u64 (((BitVec.toNat ((BitVec.ofInt 64 (Go.IntKind.wrap .u64 (v26 * (256 : Int)))) ||| (BitVec.ofInt 64 (Go.IntKind.wrap .u64 x27)))) : Nat) : Int))))
      else none
     else
      outO (some (Sum.inl (v26, (v23, v24))))) 1000 ((0 : Int), (0 : Int))) fun (v32, (v33, v34)) =>
   some (Sum.inl (v32, (v33, v34)))) fun (v35, (v36, v37)) =>
  joinO (bif (decide (v37 ≠ (0 : Int))) then
    some (Sum.inl (([] : List Int), (v36, (6 : Int))))
   else
    bif (decide ((((List.length v36) : Nat) : Int) < (Go.IntKind.wrap .i64 v35))) then
     some (Sum.inl (([] : List Int), (v36, (6 : Int))))
    else
     bif ((decide (((0 : Int) ≤ (Go.IntKind.wrap .i64 v35)) ∧ ((Go.IntKind.wrap .i64 v35) ≤ (((List.length v36) : Nat) : Int)))) && (decide (((0 : Int) ≤ (Go.IntKind.wrap .i64 v35)) ∧ ((Go.IntKind.wrap .i64 v35) ≤ (((Int.toNat (Go.IntKind.wrap .i64 v35)) : Nat) : Int))))) then 
      bif (decide (((0 : Int) ≤ (Go.IntKind.wrap .i64 v35)) ∧ ((Go.IntKind.wrap .i64 v35) ≤ (((List.length v36) : Nat) : Int)))) then 
       some (Sum.inl ((List.take (Int.toNat (Go.IntKind.wrap .i64 v35)) v36), ((List.drop (Int.toNat (Go.IntKind.wrap .i64 v35)) v36), v37)))
      else none
     else none) fun (v41, (v42, v43)) =>
  joinO (joinO (joinO (bif (decide (v43 ≠ (0 : Int))) then
      some (Sum.inl (([] : List Int), (v42, (6 : Int))))
     else
      bif (decide ((((List.length v42) : Nat) : Int) < (2 : Int))) then
       some (Sum.inl (([] : List Int), (v42, (6 : Int))))
      else
       bif ((decide (((0 : Int) ≤ (2 : Int)) ∧ ((2 : Int) ≤ (((List.length v42) : Nat) : Int)))) && Bool.true) then 
        bif (decide (((0 : Int) ≤ (2 : Int)) ∧ ((2 : Int) ≤ (((List.length v42) : Nat) : Int)))) then 
         some (Sum.inl ((List.take 2 v42), ((List.drop 2 v42), v43)))
        else none
       else none) fun (v46, (v47, v48)) =>
    loopF (fun (v49, v50) =>
     bif (decide (v49 < (((List.length v46) : Nat) : Int))) then
      bif (decide (((0 : Int) ≤ v49) ∧ (v49 < (((List.length v46) : Nat) : Int)))) then 
       bindO v46[(Int.toNat v49)]? fun x51 =>
       some (Sum.inl ((Go.IntKind.wrap .i64 (v49 + (1 : Int))), (Go.IntKind.wrap .u64 (((BitVec.toNat ((BitVec.ofInt 64 (Go.IntKind.wrap .u64 (v50 * (256 : Int)))) ||| (BitVec.ofInt 64 (Go.IntKind.wrap .u64 x51)))) : Nat) : Int))))
      else none
     else
      outO (some (Sum.inl (v50, (v47, v48))))) 1000 ((0 : Int), (0 : Int))) fun (v56, (v57, v58)) =>
   some (Sum.inl (v56, (v57, v58)))) fun (v59, (v60, v61)) =>
  joinO (bif (decide (v61 ≠ (0 : Int))) then
    some (Sum.inl (([] : List Int), (v60, (6 : Int))))
   else
    bif (decide ((((List.length v60) : Nat) : Int) < (Go.IntKind.wrap .i64 v59))) then
     some (Sum.inl (([] : List Int), (v60, (6 : Int))))
    else
     bif ((decide (((0 : Int) ≤ (Go.IntKind.wrap .i64 v59)) ∧ ((Go.IntKind.wrap .i64 v59) ≤ (((List.length v60) : Nat) : Int)))) && (decide (((0 : Int) ≤ (Go.IntKind.wrap .i64 v59)) ∧ ((Go.IntKind.wrap .i64 v59) ≤ (((Int.toNat (Go.IntKind.wrap .i64 v59)) : Nat) : Int))))) then 
      bif (decide (((0 : Int) ≤ (Go.IntKind.wrap .i64 v59)) ∧ ((Go.IntKind.wrap .i64 v59) ≤ (((List.length v60) : Nat) : Int)))) then 
       some (Sum.inl ((List.take (Int.toNat (Go.IntKind.wrap .i64 v59)) v60), ((List.drop (Int.toNat (Go.IntKind.wrap .i64 v59)) v60), v61)))
      else none
     else none) fun (v65, (v66, v67)) =>
  joinO (joinO (joinO (bif (decide (v67 ≠ (0 : Int))) then
      some (Sum.inl (([] : List Int), (v66, (6 : Int))))
     else
      bif (decide ((((List.length v66) : Nat) : Int) < (4 : Int))) then
       some (Sum.inl (([] : List Int), (v66, (6 : Int))))
      else
       bif ((decide (((0 : Int) ≤ (4 : Int)) ∧ ((4 : Int) ≤ (((List.length v66) : Nat) : Int)))) && Bool.true) then 
        bif (decide (((0 : Int) ≤ (4 : Int)) ∧ ((4 : Int) ≤ (((List.length v66) : Nat) : Int)))) then 
         some (Sum.inl ((List.take 4 v66), ((List.drop 4 v66), v67)))
        else none
       else none) fun (v70, (v71, v72)) =>
    loopF (fun (v73, v74) =>
     bif (decide (v73 < (((List.length v70) : Nat) : Int))) then
      bif (decide (((0 : Int) ≤ v73) ∧ (v73 < (((List.length v70) : Nat) : Int)))) then 
       bindO v70[(Int.toNat v73)]? fun x75 =>
       some (Sum.inl ((Go.IntKind.wrap .i64 (v73 + (1 : Int))), (Go.IntKind.wrap .u64 (((BitVec.toNat ((BitVec.ofInt 64 (Go.IntKind.wrap .u64 (v74 * (256 : Int)))) ||| (BitVec.ofInt 64 (Go.IntKind.wrap .u64 x75)))) : Nat) : Int))))
      else none
     else
      outO (some (Sum.inl (v74, (v71, v72))))) 1000 ((0 : Int), (0 : Int))) fun (v80, (v81, v82)) =>
   some (Sum.inl (v80, (v81, v82)))) fun (v83, (v84, v85)) =>
  bindO (registrar_signed_F v83) fun x86 =>
  joinO (joinO (joinO (bif (decide (v85 ≠ (0 : Int))) then
      some (Sum.inl (([] : List Int), (v84, (6 : Int))))
     else
      bif (decide ((((List.length v84) : Nat) : Int) < (1 : Int))) then
       some (Sum.inl (([] : List Int), (v84, (6 : Int))))
      else
       bif ((decide (((0 : Int) ≤ (1 : Int)) ∧ ((1 : Int) ≤ (((List.length v84) : Nat) : Int)))) && Bool.true) then 
        bif (decide (((0 : Int) ≤ (1 : Int)) ∧ ((1 : Int) ≤ (((List.length v84) : Nat) : Int)))) then 
         some (Sum.inl ((List.take 1 v84), ((List.drop 1 v84), v85)))
        else none
       else none) fun (v89, (v90, v91)) =>
    loopF (fun (v92, v93) =>
     bif (decide (v92 < (((List.length v89) : Nat) : Int))) then
      bif (decide (((0 : Int) ≤ v92) ∧ (v92 < (((List.length v89) : Nat) : Int)))) then 
       bindO v89[(Int.toNat v92)]? fun x94 =>
       some (Sum.inl ((Go.IntKind.wrap .i64 (v92 + (1 : Int))), (Go.IntKind.wrap .u64 (((BitVec.toNat ((BitVec.ofInt 64 (Go.IntKind.wrap .u64 (v93 * (256 : Int)))) ||| (BitVec.ofInt 64 (Go.IntKind.wrap .u64 x94)))) : Nat) : Int))))
      else none
     else
      outO (some (Sum.inl (v93, (v90, v91))))) 1000 ((0 : Int), (0 : Int))) fun (v99, (v100, v101)) =>
   some (Sum.inl (v99, (v100, v101)))) fun (v102, (v103, v104)) =>
  joinO (joinO (joinO (bif (decide (v104 ≠ (0 : Int))) then
      some (Sum.inl (([] : List Int), (v103, (6 : Int))))
     else
      bif (decide ((((List.length v103) : Nat) : Int) < (4 : Int))) then
       some (Sum.inl (([] : List Int), (v103, (6 : Int))))
      else
       bif ((decide (((0 : Int) ≤ (4 : Int)) ∧ ((4 : Int) ≤ (((List.length v103) : Nat) : Int)))) && Bool.true) then 
        bif (decide (((0 : Int) ≤ (4 : Int)) ∧ ((4 : Int) ≤ (((List.length v103) : Nat) : Int)))) then 
         some (Sum.inl ((List.take 4 v103), ((List.drop 4 v103), v104)))
        else none
       else none) fun (v107, (v108, v109)) =>
    loopF (fun (v110, v111) =>
     bif (decide (v110 < (((List.length v107) : Nat) : Int))) then
      bif (decide (((0 : Int) ≤ v110) ∧ (v110 < (((List.length v107) : Nat) : Int)))) then 
       bindO v107[(Int.toNat v110)]? fun x112 =>
       some (Sum.inl ((Go.IntKind.wrap .i64 (v110 + (1 : Int))), (Go.IntKind.wrap .u64 (((BitVec.toNat ((BitVec.ofInt 64 (Go.IntKind.wrap .u64 (v111 * (256 : Int)))) ||| (BitVec.ofInt 64 (Go.IntKind.wrap .u64 x112)))) : Nat) : Int))))
      else none
     else
      outO (some (Sum.inl (v111, (v108, v109))))) 1000 ((0 : Int), (0 : Int))) fun (v117, (v118, v119)) =>
   some (Sum.inl (v117, (v118, v119)))) fun (v120, (v121, v122)) =>
  bindO (registrar_signed_F v120) fun x123 =>
  joinO (joinO (joinO (bif (decide (v122 ≠ (0 : Int))) then
      some (Sum.inl (([] : List Int), (v121, (6 : Int))))
     else
      bif (decide ((((List.length v121) : Nat) : Int) < (2 : Int))) then
       some (Sum.inl (([] : List Int), (v121, (6 : Int))))
      else
       bif ((decide (((0 : Int) ≤ (2 : Int)) ∧ ((2 : Int) ≤ (((List.length v121) : Nat) : Int)))) && Bool.true) then 
        bif (decide (((0 : Int) ≤ (2 : Int)) ∧ ((2 : Int) ≤ (((List.length v121) : Nat) : Int)))) then 
         some (Sum.inl ((List.take 2 v121), ((List.drop 2 v121), v122)))
        else none
       else none) fun (v126, (v127, v128)) =>
    loopF (fun (v129, v130) =>
     bif (decide (v129 < (((List.length v126) : Nat) : Int))) then
      bif (decide (((0 : Int) ≤ v129) ∧ (v129 < (((List.length v126) : Nat) : Int)))) then 
       bindO v126[(Int.toNat v129)]? fun x131 =>
       some (Sum.inl ((Go.IntKind.wrap .i64 (v129 + (1 : Int))), (Go.IntKind.wrap .u64 (((BitVec.toNat ((BitVec.ofInt 64 (Go.IntKind.wrap .u64 (v130 * (256 : Int)))) ||| (BitVec.ofInt 64 (Go.IntKind.wrap .u64 x131)))) : Nat) : Int))))
      else none
     else
      outO (some (Sum.inl (v130, (v127, v128))))) 1000 ((0 : Int), (0 : Int))) fun (v136, (v137, v138)) =>
   some (Sum.inl (v136, (v137, v138)))) fun (v139, (v140, v141)) =>
  joinO (bif (decide (v141 ≠ (0 : Int))) then
    some (Sum.inl (([] : List Int), (v140, (6 : Int))))
   else
    bif (decide ((((List.length v140) : Nat) : Int) < (Go.IntKind.wrap .i64 v139))) then
     some (Sum.inl (([] : List Int), (v140, (6 : Int))))
    else
     bif ((decide (((0 : Int) ≤ (Go.IntKind.wrap .i64 v139)) ∧ ((Go.IntKind.wrap .i64 v139) ≤ (((List.length v140) : Nat) : Int)))) && (decide (((0 : Int) ≤ (Go.IntKind.wrap .i64 v139)) ∧ ((Go.IntKind.wrap .i64 v139) ≤ (((Int.toNat (Go.IntKind.wrap .i64 v139)) : Nat) : Int))))) then 
      bif (decide (((0 : Int) ≤ (Go.IntKind.wrap .i64 v139)) ∧ ((Go.IntKind.wrap .i64 v139) ≤ (((List.length v140) : Nat) : Int)))) then 
       some (Sum.inl ((List.take (Int.toNat (Go.IntKind.wrap .i64 v139)) v140), ((List.drop (Int.toNat (Go.IntKind.wrap .i64 v139)) v140), v141)))
      else none
     else none) fun (v145, (v146, v147)) =>
  joinO (joinO (joinO (bif (decide (v147 ≠ (0 : Int))) then
      some (Sum.inl (([] : List Int), (v146, (6 : Int))))
     else
      bif (decide ((((List.length v146) : Nat) : Int) < (4 : Int))) then
       some (Sum.inl (([] : List Int), (v146, (6 : Int))))
      else
       bif ((decide (((0 : Int) ≤ (4 : Int)) ∧ ((4 : Int) ≤ (((List.length v146) : Nat) : Int)))) && Bool.true) then 
        bif (decide (((0 : Int) ≤ (4 : Int)) ∧ ((4 : Int) ≤ (((List.length v146) : Nat) : Int)))) then 
         some (Sum.inl ((List.take 4 v146), ((List.drop 4 v146), v147)))
        else none
       else none) fun (v150, (v151, v152)) =>
    loopF (fun (v153, v154) =>
     bif (decide (v153 < (((List.length v150) : Nat) : Int))) then
      bif (decide (((0 : Int) ≤ v153) ∧ (v153 < (((List.length v150) : Nat) : Int)))) then 
       bindO v150[(Int.toNat v153)]? fun x155 =>
       some (Sum.inl ((Go.IntKind.wrap .i64 (v153 + (1 : Int))), (Go.IntKind.wrap .u64 (((BitVec.toNat ((BitVec.ofInt 64 (Go.IntKind.wrap .u64 (v154 * (256 : Int)))) ||| (BitVec.ofInt 64 (Go.IntKind.wrap .u64 x155)))) : Nat) : Int))))
      else none
     else
      outO (some (Sum.inl (v154, (v151, v152))))) 1000 ((0 : Int), (0 : Int))) fun (v160, (v161, v162)) =>
   some (Sum.inl (v160, (v161, v162)))) fun (v163, (v164, v165)) =>
  bindO (registrar_signed_F v163) fun x166 =>
  joinO (joinO (joinO (joinO (bif (decide (v165 ≠ (0 : Int))) then
       some (Sum.inl (([] : List Int), (v164, (6 : Int))))
      else
       bif (decide ((((List.length v164) : Nat) : Int) < (1 : Int))) then
        some (Sum.inl (([] : List Int), (v164, (6 : Int))))
       else
        bif ((decide (((0 : Int) ≤ (1 : Int)) ∧ ((1 : Int) ≤ (((List.length v164) : Nat) : Int)))) && Bool.true) then 
         bif (decide (((0 : Int) ≤ (1 : Int)) ∧ ((1 : Int) ≤ (((List.length v164) : Nat) : Int)))) then 
          some (Sum.inl ((List.take 1 v164), ((List.drop 1 v164), v165)))
         else none
        else none) fun (v169, (v170, v171)) =>
     loopF (fun (v172, v173) =>
      bif (decide (v172 < (((List.length v169) : Nat) : Int))) then
       bif (decide (((0 : Int) ≤ v172) ∧ (v172 < (((List.length v169) : Nat) : Int)))) then 
        bindO v169[(Int.toNat v172)]? fun x174 =>
        some (Sum.inl ((Go.IntKind.wrap .i64 (v172 + (1 : Int))), (Go.IntKind.wrap .u64 (((BitVec.toNat ((BitVec.ofInt 64 (Go.IntKind.wrap .u64 (v173 * (256 : Int)))) ||| (BitVec.ofInt 64 (Go.IntKind.wrap .u64 x174)))) : Nat) : Int))))
       else none
      else
       outO (some (Sum.inl (v173, (v170, v171))))) 1000 ((0 : Int), (0 : Int))) fun (v179, (v180, v181)) =>
    some (Sum.inl (v179, (v180, v181)))) fun (v182, (v183, v184)) =>
   loopF (fun (v185, ((v186, (v187, (v188, (v189, (v190, (v191, (v192, v193))))))), (v194, v195))) =>
    bif (decide (v185 < v182)) then
     joinO (joinO (joinO (bif (decide (v195 ≠ (0 : Int))) then
         some (Sum.inl (([] : List Int), (v194, (6 : Int))))
        else
         bif (decide ((((List.length v194) : Nat) : Int) < (2 : Int))) then
          some (Sum.inl (([] : List Int), (v194, (6 : Int))))
         else
          bif ((decide (((0 : Int) ≤ (2 : Int)) ∧ ((2 : Int) ≤ (((List.length v194) : Nat) : Int)))) && Bool.true) then 
           bif (decide (((0 : Int) ≤ (2 : Int)) ∧ ((2 : Int) ≤ (((List.length v194) : Nat) : Int)))) then 
            some (Sum.inl ((List.take 2 v194), ((List.drop 2 v194), v195)))
           else none
          else none) fun (v198, (v199, v200)) =>
       loopF (fun (v201, v202) =>
        bif (decide (v201 < (((List.length v198) : Nat) : Int))) then
         bif (decide (((0 : Int) ≤ v201) ∧ (v201 < (((List.length v198) : Nat) : Int)))) then 
          bindO v198[(Int.toNat v201)]? fun x203 =>
          some (Sum.inl ((Go.IntKind.wrap .i64 (v201 + (1 : Int))), (Go.IntKind.wrap .u64 (((BitVec.toNat ((BitVec.ofInt 64 (Go.IntKind.wrap .u64 (v202 * (256 : Int)))) ||| (BitVec.ofInt 64 (Go.IntKind.wrap .u64 x203)))) : Nat) : Int))))
         else none
        else
         outO (some (Sum.inl (v202, (v199, v200))))) 1000 ((0 : Int), (0 : Int))) fun (v208, (v209, v210)) =>
      some (Sum.inl (v208, (v209, v210)))) fun (v211, (v212, v213)) =>
     joinO (bif (decide (v213 ≠ (0 : Int))) then
       some (Sum.inl (([] : List Int), (v212, (6 : Int))))
      else
       bif (decide ((((List.length v212) : Nat) : Int) < (Go.IntKind.wrap .i64 v211))) then
        some (Sum.inl (([] : List Int), (v212, (6 : Int))))
       else
        bif ((decide (((0 : Int) ≤ (Go.IntKind.wrap .i64 v211)) ∧ ((Go.IntKind.wrap .i64 v211) ≤ (((List.length v212) : Nat) : Int)))) && (decide (((0 : Int) ≤ (Go.IntKind.wrap .i64 v211)) ∧ ((Go.IntKind.wrap .i64 v211) ≤ (((Int.toNat (Go.IntKind.wrap .i64 v211)) : Nat) : Int))))) then 
         bif (decide (((0 : Int) ≤ (Go.IntKind.wrap .i64 v211)) ∧ ((Go.IntKind.wrap .i64 v211) ≤ (((List.length v212) : Nat) : Int)))) then 
          some (Sum.inl ((List.take (Int.toNat (Go.IntKind.wrap .i64 v211)) v212), ((List.drop (Int.toNat (Go.IntKind.wrap .i64 v211)) v212), v213)))
         else none
        else none) fun (v217, (v218, v219)) =>
     joinO (joinO (joinO (bif (decide (v219 ≠ (0 : Int))) then
         some (Sum.inl (([] : List Int), (v218, (6 : Int))))
        else
         bif (decide ((((List.length v218) : Nat) : Int) < (2 : Int))) then
          some (Sum.inl (([] : List Int), (v218, (6 : Int))))
         else
          bif ((decide (((0 : Int) ≤ (2 : Int)) ∧ ((2 : Int) ≤ (((List.length v218) : Nat) : Int)))) && Bool.true) then 
           bif (decide (((0 : Int) ≤ (2 : Int)) ∧ ((2 : Int) ≤ (((List.length v218) : Nat) : Int)))) then 
            some (Sum.inl ((List.take 2 v218), ((List.drop 2 v218), v219)))
           else none
          else none) fun (v222, (v223, v224)) =>
       loopF (fun (v225, v226) =>
        bif (decide (v225 < (((List.length v222) : Nat) : Int))) then
         bif (decide (((0 : Int) ≤ v225) ∧ (v225 < (((List.length v222) : Nat) : Int)))) then 
          bindO v222[(Int.toNat v225)]? fun x227 =>
          some (Sum.inl ((Go.IntKind.wrap .i64 (v225 + (1 : Int))), (Go.IntKind.wrap .u64 (((BitVec.toNat ((BitVec.ofInt 64 (Go.IntKind.wrap .u64 (v226 * (256 : Int)))) ||| (BitVec.ofInt 64 (Go.IntKind.wrap .u64 x227)))) : Nat) : Int))))
         else none
        else
         outO (some (Sum.inl (v226, (v223, v224))))) 1000 ((0 : Int), (0 : Int))) fun (v232, (v233, v234)) =>
      some (Sum.inl (v232, (v233, v234)))) fun (v235, (v236, v237)) =>
     joinO (joinO (joinO (bif (decide (v237 ≠ (0 : Int))) then
         some (Sum.inl (([] : List Int), (v236, (6 : Int))))
        else
         bif (decide ((((List.length v236) : Nat) : Int) < (4 : Int))) then
          some (Sum.inl (([] : List Int), (v236, (6 : Int))))
         else
          bif ((decide (((0 : Int) ≤ (4 : Int)) ∧ ((4 : Int) ≤ (((List.length v236) : Nat) : Int)))) && Bool.true) then 
           bif (decide (((0 : Int) ≤ (4 : Int)) ∧ ((4 : Int) ≤ (((List.length v236) : Nat) : Int)))) then 
            some (Sum.inl ((List.take 4 v236), ((List.drop 4 v236), v237)))
           else none
          else none) fun (v241, (v242, v243)) =>
       loopF (fun (v244, v245) =>
        bif (decide (v244 < (((List.length v241) : Nat) : Int))) then
         bif (decide (((0 : Int) ≤ v244) ∧ (v244 < (((List.length v241) : Nat) : Int)))) then 
          bindO v241[(Int.toNat v244)]? fun x246 =>
          some (Sum.inl ((Go.IntKind.wrap .i64 (v244 + (1 : Int))), (Go.IntKind.wrap .u64 (((BitVec.toNat ((BitVec.ofInt 64 (Go.IntKind.wrap .u64 (v245 * (256 : Int)))) ||| (BitVec.ofInt 64 (Go.IntKind.wrap .u64 x246)))) : Nat) : Int))))
         else none
        else
         outO (some (Sum.inl (v245, (v242, v243))))) 1000 ((0 : Int), (0 : Int))) fun (v251, (v252, v253)) =>
      some (Sum.inl (v251, (v252, v253)))) fun (v254, (v255, v256)) =>
     bindO (registrar_signed_F v254) fun x257 =>
     bif (decide ((List.length v190) ≤ (List.length v190))) then 
      bif (decide (((List.length ((List.take (List.length v190) v190) ++ (((bytesU v217), ((Go.IntKind.wrap .i64 v235), x257)) :: ([] : List ((List UInt8) × (Int × Int)))))) * 32) ≤ 140737488355328)) then 
       bindO (some ((List.take (List.length v190) v190) ++ (((bytesU v217), ((Go.IntKind.wrap .i64 v235), x257)) :: ([] : List ((List UInt8) × (Int × Int)))))) fun x258 =>
       bif (decide ((List.length x258) ≤ (List.length x258))) then 
        some (Sum.inl ((Go.IntKind.wrap .u64 (v185 + (1 : Int))), ((v186, (v187, (v188, (v189, ((List.take (List.length x258) x258), (v191, (v192, v193))))))), (v255, v256))))
       else none
      else none
     else none
    else
     outO (bif (decide ((List.length v190) ≤ (List.length v190))) then 
      some (Sum.inl ((v186, (v187, (v188, (v189, ((List.take (List.length v190) v190), (v191, (v192, v193))))))), (v194, v195)))
     else none)) 1000 ((0 : Int), (((bytesU v41), ((bytesU v65), (x86, ((decide (v102 = (1 : Int))), (([] : List ((List UInt8) × (Int × Int))), (x123, ((bytesU v145), x166))))))), (v183, v184)))) fun ((v260, (v261, (v262, (v263, (v264, (v265, (v266, v267))))))), (v268, v269)) =>
  joinO (joinO (joinO (joinO (bif (decide (v269 ≠ (0 : Int))) then
       some (Sum.inl (([] : List Int), (v268, (6 : Int))))
      else
       bif (decide ((((List.length v268) : Nat) : Int) < (1 : Int))) then
        some (Sum.inl (([] : List Int), (v268, (6 : Int))))
       else
        bif ((decide (((0 : Int) ≤ (1 : Int)) ∧ ((1 : Int) ≤ (((List.length v268) : Nat) : Int)))) && Bool.true) then 
         bif (decide (((0 : Int) ≤ (1 : Int)) ∧ ((1 : Int) ≤ (((List.length v268) : Nat) : Int)))) then 
          some (Sum.inl ((List.take 1 v268), ((List.drop 1 v268), v269)))
         else none
        else none) fun (v272, (v273, v274)) =>
     loopF (fun (v275, v276) =>
      bif (decide (v275 < (((List.length v272) : Nat) : Int))) then
       bif (decide (((0 : Int) ≤ v275) ∧ (v275 < (((List.length v272) : Nat) : Int)))) then 
        bindO v272[(Int.toNat v275)]? fun x277 =>
        some (Sum.inl ((Go.IntKind.wrap .i64 (v275 + (1 : Int))), (Go.IntKind.wrap .u64 (((BitVec.toNat ((BitVec.ofInt 64 (Go.IntKind.wrap .u64 (v276 * (256 : Int)))) ||| (BitVec.ofInt 64 (Go.IntKind.wrap .u64 x277)))) : Nat) : Int))))
       else none
      else
       outO (some (Sum.inl (v276, (v273, v274))))) 1000 ((0 : Int), (0 : Int))) fun (v282, (v283, v284)) =>
    some (Sum.inl (v282, (v283, v284)))) fun (v285, (v286, v287)) =>
   bif (decide ((List.length v264) ≤ (List.length v264))) then 
    loopF (fun (v288, ((v289, (v290, (v291, (v292, (v293, (v294, (v295, (v296, v297)))))))), (v298, v299))) =>
     bif (decide (v288 < v285)) then
      joinO (joinO (joinO (bif (decide (v299 ≠ (0 : Int))) then
          some (Sum.inl (([] : List Int), (v298, (6 : Int))))
         else
          bif (decide ((((List.length v298) : Nat) : Int) < (2 : Int))) then
           some (Sum.inl (([] : List Int), (v298, (6 : Int))))
          else
           bif ((decide (((0 : Int) ≤ (2 : Int)) ∧ ((2 : Int) ≤ (((List.length v298) : Nat) : Int)))) && Bool.true) then 
            bif (decide (((0 : Int) ≤ (2 : Int)) ∧ ((2 : Int) ≤ (((List.length v298) : Nat) : Int)))) then 
             some (Sum.inl ((List.take 2 v298), ((List.drop 2 v298), v299)))
            else none
           else none) fun (v302, (v303, v304)) =>
        loopF (fun (v305, v306) =>
         bif (decide (v305 < (((List.length v302) : Nat) : Int))) then
          bif (decide (((0 : Int) ≤ v305) ∧ (v305 < (((List.length v302) : Nat) : Int)))) then 
           bindO v302[(Int.toNat v305)]? fun x307 =>
           some (Sum.inl ((Go.IntKind.wrap .i64 (v305 + (1 : Int))), (Go.IntKind.wrap .u64 (((BitVec.toNat ((BitVec.ofInt 64 (Go.IntKind.wrap .u64 (v306 * (256 : Int)))) ||| (BitVec.ofInt 64 (Go.IntKind.wrap .u64 x307)))) : Nat) : Int))))
          else none
         else
          outO (some (Sum.inl (v306, (v303, v304))))) 1000 ((0 : Int), (0 : Int))) fun (v312, (v313, v314)) =>
       some (Sum.inl (v312, (v313, v314)))) fun (v315, (v316, v317)) =>
      joinO (bif (decide (v317 ≠ (0 : Int))) then
        some (Sum.inl (([] : List Int), (v316, (6 : Int))))
       else
        bif (decide ((((List.length v316) : Nat) : Int) < (Go.IntKind.wrap .i64 v315))) then
         some (Sum.inl (([] : List Int), (v316, (6 : Int))))
        else
         bif ((decide (((0 : Int) ≤ (Go.IntKind.wrap .i64 v315)) ∧ ((Go.IntKind.wrap .i64 v315) ≤ (((List.length v316) : Nat) : Int)))) && (decide (((0 : Int) ≤ (Go.IntKind.wrap .i64 v315)) ∧ ((Go.IntKind.wrap .i64 v315) ≤ (((Int.toNat (Go.IntKind.wrap .i64 v315)) : Nat) : Int))))) then 
          bif (decide (((0 : Int) ≤ (Go.IntKind.wrap .i64 v315)) ∧ ((Go.IntKind.wrap .i64 v315) ≤ (((List.length v316) : Nat) : Int)))) then 
           some (Sum.inl ((List.take (Int.toNat (Go.IntKind.wrap .i64 v315)) v316), ((List.drop (Int.toNat (Go.IntKind.wrap .i64 v315)) v316), v317)))
          else none
         else none) fun (v321, (v322, v323)) =>
      bif (decide ((List.length v297) ≤ (List.length v297))) then 
       bif (decide (((List.length ((List.take (List.length v297) v297) ++ ((bytesU v321) :: ([] : List (List UInt8))))) * 16) ≤ 140737488355328)) then 
        bindO (some ((List.take (List.length v297) v297) ++ ((bytesU v321) :: ([] : List (List UInt8))))) fun x324 =>
        bif ((decide ((List.length v293) ≤ (List.length v293))) && (decide ((List.length x324) ≤ (List.length x324)))) then 
         some (Sum.inl ((Go.IntKind.wrap .u64 (v288 + (1 : Int))), ((v289, (v290, (v291, (v292, ((List.take (List.length v293) v293), (v294, (v295, (v296, (List.take (List.length x324) x324))))))))), (v322, v323))))
        else none
       else none
      else none
     else
      outO (bif ((decide ((List.length v293) ≤ (List.length v293))) && (decide ((List.length v297) ≤ (List.length v297)))) then 
       some (Sum.inl ((v289, (v290, (v291, (v292, ((List.take (List.length v293) v293), (v294, (v295, (v296, (List.take (List.length v297) v297))))))))), (v298, v299)))
      else none)) 1000 ((0 : Int), ((v260, (v261, (v262, (v263, ((List.take (List.length v264) v264), (v265, (v266, (v267, ([] : List (List UInt8)))))))))), (v286, v287)))
   else none) fun ((v326, (v327, (v328, (v329, (v330, (v331, (v332, (v333, v334)))))))), (v335, v336)) =>
  bif (decide (v336 ≠ (0 : Int))) then
   some ((0 : Int), ((([] : List UInt8), (([] : List UInt8), ((0 : Int), (Bool.false, (([] : List ((List UInt8) × (Int × Int))), ((0 : Int), (([] : List UInt8), ((0 : Int), ([] : List (List UInt8)))))))))), v336))
  else
   bif (decide ((((List.length v335) : Nat) : Int) > (0 : Int))) then
    some ((0 : Int), ((([] : List UInt8), (([] : List UInt8), ((0 : Int), (Bool.false, (([] : List ((List UInt8) × (Int × Int))), ((0 : Int), (([] : List UInt8), ((0 : Int), ([] : List (List UInt8)))))))))), (5 : Int)))
   else
    bif (decide (v102 > (1 : Int))) then
     some ((0 : Int), ((([] : List UInt8), (([] : List UInt8), ((0 : Int), (Bool.false, (([] : List ((List UInt8) × (Int × Int))), ((0 : Int), (([] : List UInt8), ((0 : Int), ([] : List (List UInt8)))))))))), (5 : Int)))
    else
     bif (decide (v17 > (1099511627776 : Int))) then
      some ((0 : Int), ((([] : List UInt8), (([] : List UInt8), ((0 : Int), (Bool.false, (([] : List ((List UInt8) × (Int × Int))), ((0 : Int), (([] : List UInt8), ((0 : Int), ([] : List (List UInt8)))))))))), (5 : Int)))
     else
      bif ((decide ((List.length v330) ≤ (List.length v330))) && (decide ((List.length v334) ≤ (List.length v334)))) then 
       bindO (registrar_Formed_F (v326, (v327, (v328, (v329, ((List.take (List.length v330) v330), (v331, (v332, (v333, (List.take (List.length v334) v334)))))))))) fun x337 =>
       bif (!x337) then
        some ((0 : Int), ((([] : List UInt8), (([] : List UInt8), ((0 : Int), (Bool.false, (([] : List ((List UInt8) × (Int × Int))), ((0 : Int), (([] : List UInt8), ((0 : Int), ([] : List (List UInt8)))))))))), (5 : Int)))
       else
        bif ((decide ((List.length v330) ≤ (List.length v330))) && (decide ((List.length v334) ≤ (List.length v334)))) then 
         some ((Go.IntKind.wrap .i64 v17), ((v326, (v327, (v328, (v329, ((List.take (List.length v330) v330), (v331, (v332, (v333, (List.take (List.length v334) v334))))))))), (0 : Int)))
        else none
      else none
theorem registrar_DecodeAct_le (x : _) : LeO (registrar_DecodeAct_F x) (registrar_DecodeAct x) := by
  unfold registrar_DecodeAct_F registrar_DecodeAct
  repeat' (first | (with_reducible first | exact LeO.refl _ | apply LeO.bind | apply LeO.join | apply LeO.out | apply LeO.cond | apply LeO.loop) | (with_reducible exact registrar_Formed_le _) | (with_reducible exact registrar_signed_le _) | (intro p; first | (obtain ⟨a, q⟩ : Prod _ _ := p; revert q) | skip) | dsimp only)
end Go.Proofs.Ytlaccfegaoaakaa
