import Derived.Test.YtkmfgldoljegoaaN1p
import Derived.Test.YtkmfgldoljegoaaZ3p
set_option linter.unusedVariables false
set_option linter.unusedSimpArgs false
set_option maxRecDepth 1000000
set_option maxHeartbeats 4000000
namespace Go.Proofs.Ytkmfgldoljegoaa
open Go.RowKit
noncomputable def dncB {δ : Type} (v173 : List Ca) : (Int × Int) → Option ((Int × Int) ⊕ ((Int × Int) ⊕ δ)) :=
(fun (v181, v182) =>
 bif (decide (v181 < (((List.length v173) : Nat) : Int))) then
 bif (decide (((0 : Int) ≤ v181) ∧ (v181 < (((List.length v173) : Nat) : Int)))) then 
 bindO v173[(Int.toNat v181)]? fun x183 =>
 bif (decide (x183.2.2.2 = (0 : Int))) then
 bif (decide (v182 < (0 : Int))) then
 some (Sum.inl ((Go.IntKind.wrap .i64 (v181 + (1 : Int))), v181))
 else
 bif (decide (((0 : Int) ≤ v181) ∧ (v181 < (((List.length v173) : Nat) : Int)))) then 
 bindO v173[(Int.toNat v181)]? fun x185 =>
 bif (decide (((0 : Int) ≤ v182) ∧ (v182 < (((List.length v173) : Nat) : Int)))) then 
 bindO v173[(Int.toNat v182)]? fun x186 =>
 bif (decide (x185.2.1 > x186.2.1)) then
 some (Sum.inl ((Go.IntKind.wrap .i64 (v181 + (1 : Int))), v181))
 else
 some (Sum.inl ((Go.IntKind.wrap .i64 (v181 + (1 : Int))), v182))
 else none
 else none
 else
 some (Sum.inl ((Go.IntKind.wrap .i64 (v181 + (1 : Int))), v182))
 else none
 else
 outO (some (Sum.inl (v181, v182))))
noncomputable def dnsB {δ : Type} (v174 : List Se) : (Int × Int) → Option ((Int × Int) ⊕ ((Int × Int) ⊕ δ)) :=
(fun (v192, v193) =>
 bif (decide (v192 < (((List.length v174) : Nat) : Int))) then
 bif (decide (((0 : Int) ≤ v192) ∧ (v192 < (((List.length v174) : Nat) : Int)))) then 
 bindO v174[(Int.toNat v192)]? fun x194 =>
 bif (decide (x194.2.1 = (1 : Int))) then
 bif (decide (v193 < (0 : Int))) then
 some (Sum.inl ((Go.IntKind.wrap .i64 (v192 + (1 : Int))), v192))
 else
 bif (decide (((0 : Int) ≤ v192) ∧ (v192 < (((List.length v174) : Nat) : Int)))) then 
 bindO v174[(Int.toNat v192)]? fun x196 =>
 bif (decide (((0 : Int) ≤ v193) ∧ (v193 < (((List.length v174) : Nat) : Int)))) then 
 bindO v174[(Int.toNat v193)]? fun x197 =>
 bif (decide (x196.2.2.1 < x197.2.2.1)) then
 some (Sum.inl ((Go.IntKind.wrap .i64 (v192 + (1 : Int))), v192))
 else
 some (Sum.inl ((Go.IntKind.wrap .i64 (v192 + (1 : Int))), v193))
 else none
 else none
 else
 some (Sum.inl ((Go.IntKind.wrap .i64 (v192 + (1 : Int))), v193))
 else none
 else
 outO (some (Sum.inl (v192, v193))))
noncomputable def dmatchB {δ : Type}  : Wk → Option (Wk ⊕ (Wk ⊕ δ)) :=
(fun (v173, (v174, (v175, (v176, (v177, (v178, (v179, v180))))))) =>
 joinO (loopO (dncB v173) ((0 : Int), (-1 : Int))) fun (v190, v191) =>
 joinO (loopO (dnsB v174) ((0 : Int), (-1 : Int))) fun (v201, v202) =>
 bif (decide (v191 < (0 : Int))) then
 outO (bif ((decide ((List.length v173) ≤ (List.length v173))) && ((decide ((List.length v174) ≤ (List.length v174))) && (decide ((List.length v180) ≤ (List.length v180))))) then 
 some (Sum.inl ((List.take (List.length v173) v173), ((List.take (List.length v174) v174), (v175, (v176, (v177, (v178, (v179, (List.take (List.length v180) v180)))))))))
 else none)
 else
 bif (decide (v202 < (0 : Int))) then
 outO (bif ((decide ((List.length v173) ≤ (List.length v173))) && ((decide ((List.length v174) ≤ (List.length v174))) && (decide ((List.length v180) ≤ (List.length v180))))) then 
 some (Sum.inl ((List.take (List.length v173) v173), ((List.take (List.length v174) v174), (v175, (v176, (v177, (v178, (v179, (List.take (List.length v180) v180)))))))))
 else none)
 else
 bif (decide (((0 : Int) ≤ v191) ∧ (v191 < (((List.length v173) : Nat) : Int)))) then 
 bindO v173[(Int.toNat v191)]? fun x203 =>
 bif (decide (((0 : Int) ≤ v202) ∧ (v202 < (((List.length v174) : Nat) : Int)))) then 
 bindO v174[(Int.toNat v202)]? fun x204 =>
 bif (decide (((0 : Int) ≤ v202) ∧ (v202 < (((List.length v174) : Nat) : Int)))) then 
 bindO (List.set v174 (Int.toNat v202) (x204.1, ((2 : Int), (x204.2.2.1, (x204.2.2.2.1, x204.2.2.2.2)))))[(Int.toNat v202)]? fun x205 =>
 bif (decide (((0 : Int) ≤ v202) ∧ (v202 < (((List.length v174) : Nat) : Int)))) then 
 bindO (List.set (List.set v174 (Int.toNat v202) (x204.1, ((2 : Int), (x204.2.2.1, (x204.2.2.2.1, x204.2.2.2.2))))) (Int.toNat v202) (x205.1, (x205.2.1, (x205.2.2.1, (x203.1, x205.2.2.2.2)))))[(Int.toNat v202)]? fun x206 =>
 bif (decide (((0 : Int) ≤ v202) ∧ (v202 < (((List.length v174) : Nat) : Int)))) then 
 bindO (List.set (List.set (List.set v174 (Int.toNat v202) (x204.1, ((2 : Int), (x204.2.2.1, (x204.2.2.2.1, x204.2.2.2.2))))) (Int.toNat v202) (x205.1, (x205.2.1, (x205.2.2.1, (x203.1, x205.2.2.2.2))))) (Int.toNat v202) (x206.1, (x206.2.1, (v179, (x206.2.2.2.1, x206.2.2.2.2)))))[(Int.toNat v202)]? fun x207 =>
 bif (decide (((0 : Int) ≤ v191) ∧ (v191 < (((List.length v173) : Nat) : Int)))) then 
 bindO v173[(Int.toNat v191)]? fun x208 =>
 bif (decide (((0 : Int) ≤ v191) ∧ (v191 < (((List.length v173) : Nat) : Int)))) then 
 bindO (List.set v173 (Int.toNat v191) (x208.1, (x208.2.1, (x208.2.2.1, x207.1))))[(Int.toNat v191)]? fun x209 =>
 bif (decide (((0 : Int) ≤ v202) ∧ (v202 < (((List.length v174) : Nat) : Int)))) then 
 bindO (List.set (List.set (List.set v174 (Int.toNat v202) (x204.1, ((2 : Int), (x204.2.2.1, (x204.2.2.2.1, x204.2.2.2.2))))) (Int.toNat v202) (x205.1, (x205.2.1, (x205.2.2.1, (x203.1, x205.2.2.2.2))))) (Int.toNat v202) (x206.1, (x206.2.1, (v179, (x206.2.2.2.1, x206.2.2.2.2)))))[(Int.toNat v202)]? fun x210 =>
 bif (decide ((List.length v180) ≤ (List.length v180))) then 
 bif (decide (((List.length ((List.take (List.length v180) v180) ++ (((1 : Int), (x209.1, x210.1)) :: ([] : List Ac)))) * 24) ≤ 140737488355328)) then 
 bindO (some ((List.take (List.length v180) v180) ++ (((1 : Int), (x209.1, x210.1)) :: ([] : List Ac)))) fun x211 =>
 bif ((decide ((List.length v173) ≤ (List.length (List.set v173 (Int.toNat v191) (x208.1, (x208.2.1, (x208.2.2.1, x207.1))))))) && ((decide ((List.length v174) ≤ (List.length (List.set (List.set (List.set v174 (Int.toNat v202) (x204.1, ((2 : Int), (x204.2.2.1, (x204.2.2.2.1, x204.2.2.2.2))))) (Int.toNat v202) (x205.1, (x205.2.1, (x205.2.2.1, (x203.1, x205.2.2.2.2))))) (Int.toNat v202) (x206.1, (x206.2.1, (v179, (x206.2.2.2.1, x206.2.2.2.2)))))))) && (decide ((List.length x211) ≤ (List.length x211))))) then 
 some (Sum.inl ((List.take (List.length v173) (List.set v173 (Int.toNat v191) (x208.1, (x208.2.1, (x208.2.2.1, x207.1))))), ((List.take (List.length v174) (List.set (List.set (List.set v174 (Int.toNat v202) (x204.1, ((2 : Int), (x204.2.2.1, (x204.2.2.2.1, x204.2.2.2.2))))) (Int.toNat v202) (x205.1, (x205.2.1, (x205.2.2.1, (x203.1, x205.2.2.2.2))))) (Int.toNat v202) (x206.1, (x206.2.1, (v179, (x206.2.2.2.1, x206.2.2.2.2)))))), (v175, (v176, (v177, (v178, (v179, (List.take (List.length x211) x211)))))))))
 else none
 else none
 else none
 else none
 else none
 else none
 else none
 else none
 else none
 else none
 else none)
noncomputable def dhapB {δ : Type} (v14 : List Ca) (v15 : List Se) (v16 v17 v18 v19 : Int) (v21 : List Ac) (x23 x24 x25 : Int) : Option (Wk ⊕ δ) :=
(bif (decide (x24 ≥ (0 : Int))) then
 bif (decide (((0 : Int) ≤ x24) ∧ (x24 < (((List.length v14) : Nat) : Int)))) then 
 bindO v14[(Int.toNat x24)]? fun x27 =>
 joinO (bif (decide (((0 : Int) ≤ x24) ∧ (x24 < (((List.length v14) : Nat) : Int)))) then 
 bindO v14[(Int.toNat x24)]? fun x28 =>
 bif (decide (((0 : Int) ≤ x24) ∧ (x24 ≤ (((List.length v14) : Nat) : Int)))) then 
 bif (decide ((Int.toNat x24) ≤ (List.length v14))) then 
 bif (decide (((List.length (List.take (Int.toNat x24) v14)) * 32) ≤ 140737488355328)) then 
 bindO (some (List.take (Int.toNat x24) v14)) fun x29 =>
 bindO (some (Go.IntKind.wrap .i64 (x24 + (1 : Int)))) fun x30 =>
 bif (decide (((0 : Int) ≤ x30) ∧ (x30 ≤ (((List.length v14) : Nat) : Int)))) then 
 bif ((decide (((Int.toNat x30) + ((List.length v14) - (Int.toNat x30))) ≤ (List.length v14))) && (decide ((List.length x29) ≤ (List.length x29)))) then 
 bif (decide (((List.length ((List.take (List.length x29) x29) ++ (List.take ((List.length v14) - (Int.toNat x30)) (List.drop (Int.toNat x30) v14)))) * 32) ≤ 140737488355328)) then 
 bindO (some ((List.take (List.length x29) x29) ++ (List.take ((List.length v14) - (Int.toNat x30)) (List.drop (Int.toNat x30) v14)))) fun x31 =>
 bif (decide (x28.2.2.2 ≠ (0 : Int))) then
 bif ((decide ((List.length x31) ≤ (List.length x31))) && (decide ((List.length v15) ≤ (List.length v15)))) then 
 bindO (dialtoneref36_seat (((List.take (List.length x31) x31), ((List.take (List.length v15) v15), (v16, (v17, (v18, (v19, x23)))))), x28.2.2.2)) fun x32 =>
 joinO (bif (decide (((0 : Int) ≤ x32) ∧ (x32 < (((List.length v15) : Nat) : Int)))) then 
 bindO v15[(Int.toNat x32)]? fun x33 =>
 bif ((decide ((List.length x31) ≤ (List.length x31))) && (decide ((List.length v15) ≤ (List.length v15)))) then 
 bindO (dialtoneref36_waits (((List.take (List.length x31) x31), ((List.take (List.length v15) v15), (v16, (v17, (v18, (v19, x23)))))), x33.2.2.2.1)) fun x34 =>
 joinO (bif (decide (x34 ≥ (0 : Int))) then
 bif (decide (((0 : Int) ≤ x34) ∧ (x34 < (((List.length x31) : Nat) : Int)))) then 
 bindO x31[(Int.toNat x34)]? fun x35 =>
 some (Sum.inl (List.set x31 (Int.toNat x34) (x35.1, (x35.2.1, (x35.2.2.1, (0 : Int))))))
 else none
 else
 some (Sum.inl x31)) fun v36 =>
 bif (decide (((0 : Int) ≤ x32) ∧ (x32 < (((List.length v15) : Nat) : Int)))) then 
 bindO v15[(Int.toNat x32)]? fun x37 =>
 bif (decide ((List.length v21) ≤ (List.length v21))) then 
 bif (decide (((List.length ((List.take (List.length v21) v21) ++ (((2 : Int), (x33.2.2.2.1, x37.1)) :: ([] : List Ac)))) * 24) ≤ 140737488355328)) then 
 bindO (some ((List.take (List.length v21) v21) ++ (((2 : Int), (x33.2.2.2.1, x37.1)) :: ([] : List Ac)))) fun x38 =>
 bif (decide (((0 : Int) ≤ x32) ∧ (x32 < (((List.length v15) : Nat) : Int)))) then 
 bindO v15[(Int.toNat x32)]? fun x39 =>
 bif (decide (((0 : Int) ≤ x32) ∧ (x32 < (((List.length v15) : Nat) : Int)))) then 
 bindO (List.set v15 (Int.toNat x32) (x39.1, ((1 : Int), (x39.2.2.1, (x39.2.2.2.1, x39.2.2.2.2)))))[(Int.toNat x32)]? fun x40 =>
 bif (decide (((0 : Int) ≤ x32) ∧ (x32 < (((List.length v15) : Nat) : Int)))) then 
 bindO (List.set (List.set v15 (Int.toNat x32) (x39.1, ((1 : Int), (x39.2.2.1, (x39.2.2.2.1, x39.2.2.2.2))))) (Int.toNat x32) (x40.1, (x40.2.1, (x40.2.2.1, ((0 : Int), x40.2.2.2.2)))))[(Int.toNat x32)]? fun x41 =>
 bif ((decide ((List.length x31) ≤ (List.length v36))) && ((decide ((List.length v15) ≤ (List.length (List.set (List.set (List.set v15 (Int.toNat x32) (x39.1, ((1 : Int), (x39.2.2.1, (x39.2.2.2.1, x39.2.2.2.2))))) (Int.toNat x32) (x40.1, (x40.2.1, (x40.2.2.1, ((0 : Int), x40.2.2.2.2))))) (Int.toNat x32) (x41.1, (x41.2.1, (x23, (x41.2.2.2.1, x41.2.2.2.2)))))))) && (decide ((List.length x38) ≤ (List.length x38))))) then 
 some (Sum.inl ((List.take (List.length x31) v36), ((List.take (List.length v15) (List.set (List.set (List.set v15 (Int.toNat x32) (x39.1, ((1 : Int), (x39.2.2.1, (x39.2.2.2.1, x39.2.2.2.2))))) (Int.toNat x32) (x40.1, (x40.2.1, (x40.2.2.1, ((0 : Int), x40.2.2.2.2))))) (Int.toNat x32) (x41.1, (x41.2.1, (x23, (x41.2.2.2.1, x41.2.2.2.2)))))), (v16, (v17, (v18, (v19, (x23, (List.take (List.length x38) x38)))))))))
 else none
 else none
 else none
 else none
 else none
 else none
 else none
 else none
 else none) fun (v42, (v43, (v44, (v45, (v46, (v47, (v48, v49))))))) =>
 bif ((decide ((List.length v42) ≤ (List.length v42))) && ((decide ((List.length v43) ≤ (List.length v43))) && (decide ((List.length v49) ≤ (List.length v49))))) then 
 some (Sum.inl ((List.take (List.length v42) v42), ((List.take (List.length v43) v43), (v44, (v45, (v46, (v47, (v48, (List.take (List.length v49) v49)))))))))
 else none
 else none
 else
 bif ((decide ((List.length x31) ≤ (List.length x31))) && ((decide ((List.length v15) ≤ (List.length v15))) && (decide ((List.length v21) ≤ (List.length v21))))) then 
 some (Sum.inl ((List.take (List.length x31) x31), ((List.take (List.length v15) v15), (v16, (v17, (v18, (v19, (x23, (List.take (List.length v21) v21)))))))))
 else none
 else none
 else none
 else none
 else none
 else none
 else none
 else none) fun (v50, (v51, (v52, (v53, (v54, (v55, (v56, v57))))))) =>
 bif (decide ((List.length v57) ≤ (List.length v57))) then 
 bif (decide (((List.length ((List.take (List.length v57) v57) ++ (((4 : Int), (x27.1, (0 : Int))) :: ([] : List Ac)))) * 24) ≤ 140737488355328)) then 
 bindO (some ((List.take (List.length v57) v57) ++ (((4 : Int), (x27.1, (0 : Int))) :: ([] : List Ac)))) fun x58 =>
 bif ((decide ((List.length v50) ≤ (List.length v50))) && ((decide ((List.length v51) ≤ (List.length v51))) && (decide ((List.length x58) ≤ (List.length x58))))) then 
 some (Sum.inl ((List.take (List.length v50) v50), ((List.take (List.length v51) v51), (v52, (v53, (v54, (v55, (v56, (List.take (List.length x58) x58)))))))))
 else none
 else none
 else none
 else none
 else
 bif (decide (((0 : Int) ≤ x25) ∧ (x25 < (((List.length v15) : Nat) : Int)))) then 
 bindO v15[(Int.toNat x25)]? fun x59 =>
 bif (decide (x59.2.1 = (2 : Int))) then
 joinO (bif (decide (((0 : Int) ≤ x25) ∧ (x25 < (((List.length v15) : Nat) : Int)))) then 
 bindO v15[(Int.toNat x25)]? fun x60 =>
 bif ((decide ((List.length v14) ≤ (List.length v14))) && (decide ((List.length v15) ≤ (List.length v15)))) then 
 bindO (dialtoneref36_waits (((List.take (List.length v14) v14), ((List.take (List.length v15) v15), (v16, (v17, (v18, (v19, x23)))))), x60.2.2.2.1)) fun x61 =>
 joinO (bif (decide (x61 ≥ (0 : Int))) then
 bif (decide (((0 : Int) ≤ x61) ∧ (x61 < (((List.length v14) : Nat) : Int)))) then 
 bindO v14[(Int.toNat x61)]? fun x62 =>
 some (Sum.inl (List.set v14 (Int.toNat x61) (x62.1, (x62.2.1, (x62.2.2.1, (0 : Int))))))
 else none
 else
 some (Sum.inl v14)) fun v63 =>
 bif (decide (((0 : Int) ≤ x25) ∧ (x25 < (((List.length v15) : Nat) : Int)))) then 
 bindO v15[(Int.toNat x25)]? fun x64 =>
 bif (decide ((List.length v21) ≤ (List.length v21))) then 
 bif (decide (((List.length ((List.take (List.length v21) v21) ++ (((2 : Int), (x60.2.2.2.1, x64.1)) :: ([] : List Ac)))) * 24) ≤ 140737488355328)) then 
 bindO (some ((List.take (List.length v21) v21) ++ (((2 : Int), (x60.2.2.2.1, x64.1)) :: ([] : List Ac)))) fun x65 =>
 bif (decide (((0 : Int) ≤ x25) ∧ (x25 < (((List.length v15) : Nat) : Int)))) then 
 bindO v15[(Int.toNat x25)]? fun x66 =>
 bif (decide (((0 : Int) ≤ x25) ∧ (x25 < (((List.length v15) : Nat) : Int)))) then 
 bindO (List.set v15 (Int.toNat x25) (x66.1, ((4 : Int), (x66.2.2.1, (x66.2.2.2.1, x66.2.2.2.2)))))[(Int.toNat x25)]? fun x67 =>
 bif (decide (((0 : Int) ≤ x25) ∧ (x25 < (((List.length v15) : Nat) : Int)))) then 
 bindO (List.set (List.set v15 (Int.toNat x25) (x66.1, ((4 : Int), (x66.2.2.1, (x66.2.2.2.1, x66.2.2.2.2))))) (Int.toNat x25) (x67.1, (x67.2.1, (x67.2.2.1, ((0 : Int), x67.2.2.2.2)))))[(Int.toNat x25)]? fun x68 =>
 bif ((decide ((List.length v14) ≤ (List.length v63))) && ((decide ((List.length v15) ≤ (List.length (List.set (List.set (List.set v15 (Int.toNat x25) (x66.1, ((4 : Int), (x66.2.2.1, (x66.2.2.2.1, x66.2.2.2.2))))) (Int.toNat x25) (x67.1, (x67.2.1, (x67.2.2.1, ((0 : Int), x67.2.2.2.2))))) (Int.toNat x25) (x68.1, (x68.2.1, (x23, (x68.2.2.2.1, x68.2.2.2.2)))))))) && (decide ((List.length x65) ≤ (List.length x65))))) then 
 some (Sum.inl ((List.take (List.length v14) v63), ((List.take (List.length v15) (List.set (List.set (List.set v15 (Int.toNat x25) (x66.1, ((4 : Int), (x66.2.2.1, (x66.2.2.2.1, x66.2.2.2.2))))) (Int.toNat x25) (x67.1, (x67.2.1, (x67.2.2.1, ((0 : Int), x67.2.2.2.2))))) (Int.toNat x25) (x68.1, (x68.2.1, (x23, (x68.2.2.2.1, x68.2.2.2.2)))))), (v16, (v17, (v18, (v19, (x23, (List.take (List.length x65) x65)))))))))
 else none
 else none
 else none
 else none
 else none
 else none
 else none
 else none
 else none) fun (v69, (v70, (v71, (v72, (v73, (v74, (v75, v76))))))) =>
 bif ((decide ((List.length v69) ≤ (List.length v69))) && ((decide ((List.length v70) ≤ (List.length v70))) && (decide ((List.length v76) ≤ (List.length v76))))) then 
 some (Sum.inl ((List.take (List.length v69) v69), ((List.take (List.length v70) v70), (v71, (v72, (v73, (v74, (v75, (List.take (List.length v76) v76)))))))))
 else none
 else
 bif (decide (((0 : Int) ≤ x25) ∧ (x25 < (((List.length v15) : Nat) : Int)))) then 
 bindO v15[(Int.toNat x25)]? fun x77 =>
 bif (decide (((0 : Int) ≤ x25) ∧ (x25 < (((List.length v15) : Nat) : Int)))) then 
 bindO (List.set v15 (Int.toNat x25) (x77.1, ((1 : Int), (x77.2.2.1, (x77.2.2.2.1, x77.2.2.2.2)))))[(Int.toNat x25)]? fun x78 =>
 bif ((decide ((List.length v14) ≤ (List.length v14))) && ((decide ((List.length v15) ≤ (List.length (List.set (List.set v15 (Int.toNat x25) (x77.1, ((1 : Int), (x77.2.2.1, (x77.2.2.2.1, x77.2.2.2.2))))) (Int.toNat x25) (x78.1, (x78.2.1, (x23, (x78.2.2.2.1, x78.2.2.2.2)))))))) && (decide ((List.length v21) ≤ (List.length v21))))) then 
 some (Sum.inl ((List.take (List.length v14) v14), ((List.take (List.length v15) (List.set (List.set v15 (Int.toNat x25) (x77.1, ((1 : Int), (x77.2.2.1, (x77.2.2.2.1, x77.2.2.2.2))))) (Int.toNat x25) (x78.1, (x78.2.1, (x23, (x78.2.2.2.1, x78.2.2.2.2)))))), (v16, (v17, (v18, (v19, (x23, (List.take (List.length v21) v21)))))))))
 else none
 else none
 else none
 else none)
noncomputable def dpassB {δ : Type} (a9 : Int) : Wk → Option (Wk ⊕ (Wk ⊕ δ)) :=
(fun (v14, (v15, (v16, (v17, (v18, (v19, (v20, v21))))))) =>
 bif ((decide ((List.length v14) ≤ (List.length v14))) && (decide ((List.length v15) ≤ (List.length v15)))) then 
 bindO (dialtoneref36_due ((List.take (List.length v14) v14), ((List.take (List.length v15) v15), (v16, (v17, (v18, (v19, v20))))))) fun (x23, (x24, (x25, x26))) =>
 bif (!x26) then
 outO (bif ((decide ((List.length v14) ≤ (List.length v14))) && ((decide ((List.length v15) ≤ (List.length v15))) && (decide ((List.length v21) ≤ (List.length v21))))) then 
 some (Sum.inl ((List.take (List.length v14) v14), ((List.take (List.length v15) v15), (v16, (v17, (v18, (v19, (v20, (List.take (List.length v21) v21)))))))))
 else none)
 else
 bif (decide (x23 > a9)) then
 outO (bif ((decide ((List.length v14) ≤ (List.length v14))) && ((decide ((List.length v15) ≤ (List.length v15))) && (decide ((List.length v21) ≤ (List.length v21))))) then 
 some (Sum.inl ((List.take (List.length v14) v14), ((List.take (List.length v15) v15), (v16, (v17, (v18, (v19, (v20, (List.take (List.length v21) v21)))))))))
 else none)
 else
 joinO (dhapB v14 v15 v16 v17 v18 v19 v21 x23 x24 x25) fun (v79, (v80, (v81, (v82, (v83, (v84, (v85, v86))))))) =>
 joinO (bif ((decide ((List.length v79) ≤ (List.length v79))) && ((decide ((List.length v80) ≤ (List.length v80))) && (decide ((List.length v86) ≤ (List.length v86))))) then 
 loopO dmatchB ((List.take (List.length v79) v79), ((List.take (List.length v80) v80), (v81, (v82, (v83, (v84, (v85, (List.take (List.length v86) v86))))))))
 else none) fun (v126, (v127, (v128, (v129, (v130, (v131, (v132, v133))))))) =>
 bif ((decide ((List.length v126) ≤ (List.length v126))) && ((decide ((List.length v127) ≤ (List.length v127))) && (decide ((List.length v133) ≤ (List.length v133))))) then 
 some (Sum.inl ((List.take (List.length v126) v126), ((List.take (List.length v127) v127), (v128, (v129, (v130, (v131, (v132, (List.take (List.length v133) v133)))))))))
 else none
 else none)
noncomputable def dbegB (a1 : List Ca) (a2 : List Se) (a3 a4 a5 a6 a7 num now : Int) (K : Wk → Option Rt) : Option Rt :=
 joinO (bindO (dialtoneref36_MayQueue (a1, (a2, (a3, (a4, (a5, (a6, a7))))))) fun x10 =>
 bif (!x10) then
 outO (some ((([] : List Ca), (([] : List Se), ((0 : Int), ((0 : Int), ((0 : Int), ((0 : Int), (0 : Int))))))), (([] : List Ac), (2 : Int))))
 else
 bif (decide (now < a7)) then
 outO (some ((([] : List Ca), (([] : List Se), ((0 : Int), ((0 : Int), ((0 : Int), ((0 : Int), (0 : Int))))))), (([] : List Ac), (2 : Int))))
 else
 bif (decide (now > (1099511627776 : Int))) then
 outO (some ((([] : List Ca), (([] : List Se), ((0 : Int), ((0 : Int), ((0 : Int), ((0 : Int), (0 : Int))))))), (([] : List Ac), (2 : Int))))
 else
 bindO (dialtoneref36_id num) fun x11 =>
 bif (!x11) then
 outO (some ((([] : List Ca), (([] : List Se), ((0 : Int), ((0 : Int), ((0 : Int), ((0 : Int), (0 : Int))))))), (([] : List Ac), (2 : Int))))
 else
 some (Sum.inl ())) fun _ =>
 bif (decide (((List.length a1) * 32) ≤ 140737488355328)) then 
 bif (decide (((List.length a2) * 40) ≤ 140737488355328)) then 
 joinO (bif ((decide ((List.length a1) ≤ (List.length a1))) && (decide ((List.length a2) ≤ (List.length a2)))) then 
 loopO (dpassB now) ((List.take (List.length a1) a1), ((List.take (List.length a2) a2), (a3, (a4, (a5, (a6, (a7, ([] : List Ac))))))))
 else none) K
 else none
 else none
noncomputable def dLeaveR (a8 a9 : Int) : Wk → Option Rt := fun (v134, (v135, (v136, (v137, (v138, (v139, (v140, v141))))))) =>
 bif ((decide ((List.length v134) ≤ (List.length v134))) && (decide ((List.length v135) ≤ (List.length v135)))) then 
 bindO (dialtoneref36_waits (((List.take (List.length v134) v134), ((List.take (List.length v135) v135), (v136, (v137, (v138, (v139, a9)))))), a8)) fun x142 =>
 bif (decide (x142 < (0 : Int))) then
 some ((([] : List Ca), (([] : List Se), ((0 : Int), ((0 : Int), ((0 : Int), ((0 : Int), (0 : Int))))))), (([] : List Ac), (8 : Int)))
 else
 joinO (bif (decide (((0 : Int) ≤ x142) ∧ (x142 < (((List.length v134) : Nat) : Int)))) then 
 bindO v134[(Int.toNat x142)]? fun x143 =>
 bif (decide (((0 : Int) ≤ x142) ∧ (x142 ≤ (((List.length v134) : Nat) : Int)))) then 
 bif (decide ((Int.toNat x142) ≤ (List.length v134))) then 
 bif (decide (((List.length (List.take (Int.toNat x142) v134)) * 32) ≤ 140737488355328)) then 
 bindO (some (List.take (Int.toNat x142) v134)) fun x144 =>
 bindO (some (Go.IntKind.wrap .i64 (x142 + (1 : Int)))) fun x145 =>
 bif (decide (((0 : Int) ≤ x145) ∧ (x145 ≤ (((List.length v134) : Nat) : Int)))) then 
 bif ((decide (((Int.toNat x145) + ((List.length v134) - (Int.toNat x145))) ≤ (List.length v134))) && (decide ((List.length x144) ≤ (List.length x144)))) then 
 bif (decide (((List.length ((List.take (List.length x144) x144) ++ (List.take ((List.length v134) - (Int.toNat x145)) (List.drop (Int.toNat x145) v134)))) * 32) ≤ 140737488355328)) then 
 bindO (some ((List.take (List.length x144) x144) ++ (List.take ((List.length v134) - (Int.toNat x145)) (List.drop (Int.toNat x145) v134)))) fun x146 =>
 bif (decide (x143.2.2.2 ≠ (0 : Int))) then
 bif ((decide ((List.length x146) ≤ (List.length x146))) && (decide ((List.length v135) ≤ (List.length v135)))) then 
 bindO (dialtoneref36_seat (((List.take (List.length x146) x146), ((List.take (List.length v135) v135), (v136, (v137, (v138, (v139, a9)))))), x143.2.2.2)) fun x147 =>
 joinO (bif (decide (((0 : Int) ≤ x147) ∧ (x147 < (((List.length v135) : Nat) : Int)))) then 
 bindO v135[(Int.toNat x147)]? fun x148 =>
 bif ((decide ((List.length x146) ≤ (List.length x146))) && (decide ((List.length v135) ≤ (List.length v135)))) then 
 bindO (dialtoneref36_waits (((List.take (List.length x146) x146), ((List.take (List.length v135) v135), (v136, (v137, (v138, (v139, a9)))))), x148.2.2.2.1)) fun x149 =>
 joinO (bif (decide (x149 ≥ (0 : Int))) then
 bif (decide (((0 : Int) ≤ x149) ∧ (x149 < (((List.length x146) : Nat) : Int)))) then 
 bindO x146[(Int.toNat x149)]? fun x150 =>
 some (Sum.inl (List.set x146 (Int.toNat x149) (x150.1, (x150.2.1, (x150.2.2.1, (0 : Int))))))
 else none
 else
 some (Sum.inl x146)) fun v151 =>
 bif (decide (((0 : Int) ≤ x147) ∧ (x147 < (((List.length v135) : Nat) : Int)))) then 
 bindO v135[(Int.toNat x147)]? fun x152 =>
 bif (decide ((List.length v141) ≤ (List.length v141))) then 
 bif (decide (((List.length ((List.take (List.length v141) v141) ++ (((2 : Int), (x148.2.2.2.1, x152.1)) :: ([] : List Ac)))) * 24) ≤ 140737488355328)) then 
 bindO (some ((List.take (List.length v141) v141) ++ (((2 : Int), (x148.2.2.2.1, x152.1)) :: ([] : List Ac)))) fun x153 =>
 bif (decide (((0 : Int) ≤ x147) ∧ (x147 < (((List.length v135) : Nat) : Int)))) then 
 bindO v135[(Int.toNat x147)]? fun x154 =>
 bif (decide (((0 : Int) ≤ x147) ∧ (x147 < (((List.length v135) : Nat) : Int)))) then 
 bindO (List.set v135 (Int.toNat x147) (x154.1, ((1 : Int), (x154.2.2.1, (x154.2.2.2.1, x154.2.2.2.2)))))[(Int.toNat x147)]? fun x155 =>
 bif (decide (((0 : Int) ≤ x147) ∧ (x147 < (((List.length v135) : Nat) : Int)))) then 
 bindO (List.set (List.set v135 (Int.toNat x147) (x154.1, ((1 : Int), (x154.2.2.1, (x154.2.2.2.1, x154.2.2.2.2))))) (Int.toNat x147) (x155.1, (x155.2.1, (x155.2.2.1, ((0 : Int), x155.2.2.2.2)))))[(Int.toNat x147)]? fun x156 =>
 bif ((decide ((List.length x146) ≤ (List.length v151))) && ((decide ((List.length v135) ≤ (List.length (List.set (List.set (List.set v135 (Int.toNat x147) (x154.1, ((1 : Int), (x154.2.2.1, (x154.2.2.2.1, x154.2.2.2.2))))) (Int.toNat x147) (x155.1, (x155.2.1, (x155.2.2.1, ((0 : Int), x155.2.2.2.2))))) (Int.toNat x147) (x156.1, (x156.2.1, (a9, (x156.2.2.2.1, x156.2.2.2.2)))))))) && (decide ((List.length x153) ≤ (List.length x153))))) then 
 some (Sum.inl ((List.take (List.length x146) v151), ((List.take (List.length v135) (List.set (List.set (List.set v135 (Int.toNat x147) (x154.1, ((1 : Int), (x154.2.2.1, (x154.2.2.2.1, x154.2.2.2.2))))) (Int.toNat x147) (x155.1, (x155.2.1, (x155.2.2.1, ((0 : Int), x155.2.2.2.2))))) (Int.toNat x147) (x156.1, (x156.2.1, (a9, (x156.2.2.2.1, x156.2.2.2.2)))))), (v136, (v137, (v138, (v139, (a9, (List.take (List.length x153) x153)))))))))
 else none
 else none
 else none
 else none
 else none
 else none
 else none
 else none
 else none) fun (v157, (v158, (v159, (v160, (v161, (v162, (v163, v164))))))) =>
 bif ((decide ((List.length v157) ≤ (List.length v157))) && ((decide ((List.length v158) ≤ (List.length v158))) && (decide ((List.length v164) ≤ (List.length v164))))) then 
 some (Sum.inl ((List.take (List.length v157) v157), ((List.take (List.length v158) v158), (v159, (v160, (v161, (v162, (v163, (List.take (List.length v164) v164)))))))))
 else none
 else none
 else
 bif ((decide ((List.length x146) ≤ (List.length x146))) && ((decide ((List.length v135) ≤ (List.length v135))) && (decide ((List.length v141) ≤ (List.length v141))))) then 
 some (Sum.inl ((List.take (List.length x146) x146), ((List.take (List.length v135) v135), (v136, (v137, (v138, (v139, (a9, (List.take (List.length v141) v141)))))))))
 else none
 else none
 else none
 else none
 else none
 else none
 else none
 else none) fun (v165, (v166, (v167, (v168, (v169, (v170, (v171, v172))))))) =>
 joinO (bif ((decide ((List.length v165) ≤ (List.length v165))) && ((decide ((List.length v166) ≤ (List.length v166))) && (decide ((List.length v172) ≤ (List.length v172))))) then 
 loopO dmatchB ((List.take (List.length v165) v165), ((List.take (List.length v166) v166), (v167, (v168, (v169, (v170, (v171, (List.take (List.length v172) v172))))))))
 else none) endL
 else none
noncomputable def dAdvanceR (a8 : Int) : Wk → Option Rt := fun (v133, (v134, (v135, (v136, (v137, (v138, (v139, v140))))))) =>
 joinO (bif ((decide ((List.length v133) ≤ (List.length v133))) && ((decide ((List.length v134) ≤ (List.length v134))) && (decide ((List.length v140) ≤ (List.length v140))))) then 
 loopO dmatchB ((List.take (List.length v133) v133), ((List.take (List.length v134) v134), (v135, (v136, (v137, (v138, (a8, (List.take (List.length v140) v140))))))))
 else none) endL
noncomputable def dJoinR (a8 a9 a10 : Int) : Wk → Option Rt := fun (v135, (v136, (v137, (v138, (v139, (v140, (v141, v142))))))) =>
 bindO (dialtoneref36_from (a9, ((0 : Int), (10 : Int)))) fun x143 =>
 bif (!x143) then
 some ((([] : List Ca), (([] : List Se), ((0 : Int), ((0 : Int), ((0 : Int), ((0 : Int), (0 : Int))))))), (([] : List Ac), (2 : Int)))
 else
 bif ((decide ((List.length v135) ≤ (List.length v135))) && (decide ((List.length v136) ≤ (List.length v136)))) then 
 bindO (dialtoneref36_waits (((List.take (List.length v135) v135), ((List.take (List.length v136) v136), (v137, (v138, (v139, (v140, a10)))))), a8)) fun x144 =>
 bif (decide (x144 ≥ (0 : Int))) then
 some ((([] : List Ca), (([] : List Se), ((0 : Int), ((0 : Int), ((0 : Int), ((0 : Int), (0 : Int))))))), (([] : List Ac), (7 : Int)))
 else
 bif ((decide ((List.length v135) ≤ (List.length v135))) && (decide ((List.length v136) ≤ (List.length v136)))) then 
 bindO (dialtoneref36_busy (((List.take (List.length v135) v135), ((List.take (List.length v136) v136), (v137, (v138, (v139, (v140, a10)))))), a8)) fun x145 =>
 bif x145 then
 some ((([] : List Ca), (([] : List Se), ((0 : Int), ((0 : Int), ((0 : Int), ((0 : Int), (0 : Int))))))), (([] : List Ac), (7 : Int)))
 else
 bif (decide ((((List.length v135) : Nat) : Int) ≥ v137)) then
 some ((([] : List Ca), (([] : List Se), ((0 : Int), ((0 : Int), ((0 : Int), ((0 : Int), (0 : Int))))))), (([] : List Ac), (10 : Int)))
 else
 bif (decide ((List.length v135) ≤ (List.length v135))) then 
 bif (decide (((List.length ((List.take (List.length v135) v135) ++ ((a8, (a9, (a10, (0 : Int)))) :: ([] : List Ca)))) * 32) ≤ 140737488355328)) then 
 bindO (some ((List.take (List.length v135) v135) ++ ((a8, (a9, (a10, (0 : Int)))) :: ([] : List Ca)))) fun x146 =>
 joinO (bif ((decide ((List.length x146) ≤ (List.length x146))) && ((decide ((List.length v136) ≤ (List.length v136))) && (decide ((List.length v142) ≤ (List.length v142))))) then 
 loopO dmatchB ((List.take (List.length x146) x146), ((List.take (List.length v136) v136), (v137, (v138, (v139, (v140, (a10, (List.take (List.length v142) v142))))))))
 else none) endL
 else none
 else none
 else none
 else none
noncomputable def datB {δ : Type} (v135 : List Se) (a8 : Int) : Int → Option (Int ⊕ (Int ⊕ δ)) :=
(fun v143 =>
 bif (decide (v143 < (((List.length v135) : Nat) : Int))) then
 bif (decide (((0 : Int) ≤ v143) ∧ (v143 < (((List.length v135) : Nat) : Int)))) then 
 bindO v135[(Int.toNat v143)]? fun x144 =>
 bif (decide (x144.1 < a8)) then
 some (Sum.inl (Go.IntKind.wrap .i64 (v143 + (1 : Int))))
 else
 outO (some (Sum.inl v143))
 else none
 else
 outO (some (Sum.inl v143)))
noncomputable def dLoginR (a8 a9 : Int) : Wk → Option Rt := fun (v134, (v135, (v136, (v137, (v138, (v139, (v140, v141))))))) =>
 bif ((decide ((List.length v134) ≤ (List.length v134))) && (decide ((List.length v135) ≤ (List.length v135)))) then 
 bindO (dialtoneref36_seat (((List.take (List.length v134) v134), ((List.take (List.length v135) v135), (v136, (v137, (v138, (v139, a9)))))), a8)) fun x142 =>
 bif (decide (x142 ≥ (0 : Int))) then
 some ((([] : List Ca), (([] : List Se), ((0 : Int), ((0 : Int), ((0 : Int), ((0 : Int), (0 : Int))))))), (([] : List Ac), (7 : Int)))
 else
 bif (decide ((((List.length v135) : Nat) : Int) ≥ (100 : Int))) then
 some ((([] : List Ca), (([] : List Se), ((0 : Int), ((0 : Int), ((0 : Int), ((0 : Int), (0 : Int))))))), (([] : List Ac), (10 : Int)))
 else
 joinO (loopO (datB v135 a8) (0 : Int)) fun v146 =>
 bif (decide (((0 : Int) ≤ v146) ∧ (v146 ≤ (((List.length v135) : Nat) : Int)))) then 
 bif (decide ((Int.toNat v146) ≤ (List.length v135))) then 
 bif (decide (((List.length (List.take (Int.toNat v146) v135)) * 40) ≤ 140737488355328)) then 
 bindO (some (List.take (Int.toNat v146) v135)) fun x147 =>
 bif (decide ((List.length x147) ≤ (List.length x147))) then 
 bif (decide (((List.length ((List.take (List.length x147) x147) ++ ((a8, ((1 : Int), (a9, ((0 : Int), (0 : Int))))) :: ([] : List Se)))) * 40) ≤ 140737488355328)) then 
 bindO (some ((List.take (List.length x147) x147) ++ ((a8, ((1 : Int), (a9, ((0 : Int), (0 : Int))))) :: ([] : List Se)))) fun x148 =>
 bif (decide (((0 : Int) ≤ v146) ∧ (v146 ≤ (((List.length v135) : Nat) : Int)))) then 
 bif ((decide (((Int.toNat v146) + ((List.length v135) - (Int.toNat v146))) ≤ (List.length v135))) && (decide ((List.length x148) ≤ (List.length x148)))) then 
 bif (decide (((List.length ((List.take (List.length x148) x148) ++ (List.take ((List.length v135) - (Int.toNat v146)) (List.drop (Int.toNat v146) v135)))) * 40) ≤ 140737488355328)) then 
 bindO (some ((List.take (List.length x148) x148) ++ (List.take ((List.length v135) - (Int.toNat v146)) (List.drop (Int.toNat v146) v135)))) fun x149 =>
 joinO (bif ((decide ((List.length v134) ≤ (List.length v134))) && ((decide ((List.length x149) ≤ (List.length x149))) && (decide ((List.length v141) ≤ (List.length v141))))) then 
 loopO dmatchB ((List.take (List.length v134) v134), ((List.take (List.length x149) x149), (v136, (v137, (v138, (v139, (a9, (List.take (List.length v141) v141))))))))
 else none) endL
 else none
 else none
 else none
 else none
 else none
 else none
 else none
 else none
 else none
noncomputable def dLogoutR (a8 a9 : Int) : Wk → Option Rt := fun (v134, (v135, (v136, (v137, (v138, (v139, (v140, v141))))))) =>
 bif ((decide ((List.length v134) ≤ (List.length v134))) && (decide ((List.length v135) ≤ (List.length v135)))) then 
 bindO (dialtoneref36_seat (((List.take (List.length v134) v134), ((List.take (List.length v135) v135), (v136, (v137, (v138, (v139, a9)))))), a8)) fun x142 =>
 bif (decide (x142 < (0 : Int))) then
 some ((([] : List Ca), (([] : List Se), ((0 : Int), ((0 : Int), ((0 : Int), ((0 : Int), (0 : Int))))))), (([] : List Ac), (8 : Int)))
 else
 bif (decide (((0 : Int) ≤ x142) ∧ (x142 < (((List.length v135) : Nat) : Int)))) then 
 bindO v135[(Int.toNat x142)]? fun x143 =>
 bif (decide (x143.2.1 = (3 : Int))) then
 some ((([] : List Ca), (([] : List Se), ((0 : Int), ((0 : Int), ((0 : Int), ((0 : Int), (0 : Int))))))), (([] : List Ac), (9 : Int)))
 else
 joinO (bif (decide (((0 : Int) ≤ x142) ∧ (x142 < (((List.length v135) : Nat) : Int)))) then 
 bindO v135[(Int.toNat x142)]? fun x144 =>
 bif (decide (x144.2.1 = (2 : Int))) then
 joinO (bif (decide (((0 : Int) ≤ x142) ∧ (x142 < (((List.length v135) : Nat) : Int)))) then 
 bindO v135[(Int.toNat x142)]? fun x145 =>
 bif ((decide ((List.length v134) ≤ (List.length v134))) && (decide ((List.length v135) ≤ (List.length v135)))) then 
 bindO (dialtoneref36_waits (((List.take (List.length v134) v134), ((List.take (List.length v135) v135), (v136, (v137, (v138, (v139, a9)))))), x145.2.2.2.1)) fun x146 =>
 joinO (bif (decide (x146 ≥ (0 : Int))) then
 bif (decide (((0 : Int) ≤ x146) ∧ (x146 < (((List.length v134) : Nat) : Int)))) then 
 bindO v134[(Int.toNat x146)]? fun x147 =>
 some (Sum.inl (List.set v134 (Int.toNat x146) (x147.1, (x147.2.1, (x147.2.2.1, (0 : Int))))))
 else none
 else
 some (Sum.inl v134)) fun v148 =>
 bif (decide (((0 : Int) ≤ x142) ∧ (x142 < (((List.length v135) : Nat) : Int)))) then 
 bindO v135[(Int.toNat x142)]? fun x149 =>
 bif (decide ((List.length v141) ≤ (List.length v141))) then 
 bif (decide (((List.length ((List.take (List.length v141) v141) ++ (((2 : Int), (x145.2.2.2.1, x149.1)) :: ([] : List Ac)))) * 24) ≤ 140737488355328)) then 
 bindO (some ((List.take (List.length v141) v141) ++ (((2 : Int), (x145.2.2.2.1, x149.1)) :: ([] : List Ac)))) fun x150 =>
 bif (decide (((0 : Int) ≤ x142) ∧ (x142 < (((List.length v135) : Nat) : Int)))) then 
 bindO v135[(Int.toNat x142)]? fun x151 =>
 bif (decide (((0 : Int) ≤ x142) ∧ (x142 < (((List.length v135) : Nat) : Int)))) then 
 bindO (List.set v135 (Int.toNat x142) (x151.1, ((1 : Int), (x151.2.2.1, (x151.2.2.2.1, x151.2.2.2.2)))))[(Int.toNat x142)]? fun x152 =>
 bif (decide (((0 : Int) ≤ x142) ∧ (x142 < (((List.length v135) : Nat) : Int)))) then 
 bindO (List.set (List.set v135 (Int.toNat x142) (x151.1, ((1 : Int), (x151.2.2.1, (x151.2.2.2.1, x151.2.2.2.2))))) (Int.toNat x142) (x152.1, (x152.2.1, (x152.2.2.1, ((0 : Int), x152.2.2.2.2)))))[(Int.toNat x142)]? fun x153 =>
 bif ((decide ((List.length v134) ≤ (List.length v148))) && ((decide ((List.length v135) ≤ (List.length (List.set (List.set (List.set v135 (Int.toNat x142) (x151.1, ((1 : Int), (x151.2.2.1, (x151.2.2.2.1, x151.2.2.2.2))))) (Int.toNat x142) (x152.1, (x152.2.1, (x152.2.2.1, ((0 : Int), x152.2.2.2.2))))) (Int.toNat x142) (x153.1, (x153.2.1, (a9, (x153.2.2.2.1, x153.2.2.2.2)))))))) && (decide ((List.length x150) ≤ (List.length x150))))) then 
 some (Sum.inl ((List.take (List.length v134) v148), ((List.take (List.length v135) (List.set (List.set (List.set v135 (Int.toNat x142) (x151.1, ((1 : Int), (x151.2.2.1, (x151.2.2.2.1, x151.2.2.2.2))))) (Int.toNat x142) (x152.1, (x152.2.1, (x152.2.2.1, ((0 : Int), x152.2.2.2.2))))) (Int.toNat x142) (x153.1, (x153.2.1, (a9, (x153.2.2.2.1, x153.2.2.2.2)))))), (v136, (v137, (v138, (v139, (a9, (List.take (List.length x150) x150)))))))))
 else none
 else none
 else none
 else none
 else none
 else none
 else none
 else none
 else none) fun (v154, (v155, (v156, (v157, (v158, (v159, (v160, v161))))))) =>
 bif ((decide ((List.length v154) ≤ (List.length v154))) && ((decide ((List.length v155) ≤ (List.length v155))) && (decide ((List.length v161) ≤ (List.length v161))))) then 
 some (Sum.inl ((List.take (List.length v154) v154), ((List.take (List.length v155) v155), (v156, (v157, (v158, (v159, (v160, (List.take (List.length v161) v161)))))))))
 else none
 else
 bif ((decide ((List.length v134) ≤ (List.length v134))) && ((decide ((List.length v135) ≤ (List.length v135))) && (decide ((List.length v141) ≤ (List.length v141))))) then 
 some (Sum.inl ((List.take (List.length v134) v134), ((List.take (List.length v135) v135), (v136, (v137, (v138, (v139, (a9, (List.take (List.length v141) v141)))))))))
 else none
 else none) fun (v162, (v163, (v164, (v165, (v166, (v167, (v168, v169))))))) =>
 bif (decide (((0 : Int) ≤ x142) ∧ (x142 ≤ (((List.length v163) : Nat) : Int)))) then 
 bif (decide ((Int.toNat x142) ≤ (List.length v163))) then 
 bif (decide (((List.length (List.take (Int.toNat x142) v163)) * 40) ≤ 140737488355328)) then 
 bindO (some (List.take (Int.toNat x142) v163)) fun x170 =>
 bindO (some (Go.IntKind.wrap .i64 (x142 + (1 : Int)))) fun x171 =>
 bif (decide (((0 : Int) ≤ x171) ∧ (x171 ≤ (((List.length v163) : Nat) : Int)))) then 
 bif ((decide (((Int.toNat x171) + ((List.length v163) - (Int.toNat x171))) ≤ (List.length v163))) && (decide ((List.length x170) ≤ (List.length x170)))) then 
 bif (decide (((List.length ((List.take (List.length x170) x170) ++ (List.take ((List.length v163) - (Int.toNat x171)) (List.drop (Int.toNat x171) v163)))) * 40) ≤ 140737488355328)) then 
 bindO (some ((List.take (List.length x170) x170) ++ (List.take ((List.length v163) - (Int.toNat x171)) (List.drop (Int.toNat x171) v163)))) fun x172 =>
 joinO (bif ((decide ((List.length v162) ≤ (List.length v162))) && ((decide ((List.length x172) ≤ (List.length x172))) && (decide ((List.length v169) ≤ (List.length v169))))) then 
 loopO dmatchB ((List.take (List.length v162) v162), ((List.take (List.length x172) x172), (v164, (v165, (v166, (v167, (v168, (List.take (List.length v169) v169))))))))
 else none) endL
 else none
 else none
 else none
 else none
 else none
 else none
 else none
 else none
noncomputable def dAcceptR (a8 a9 : Int) : Wk → Option Rt := fun (v134, (v135, (v136, (v137, (v138, (v139, (v140, v141))))))) =>
 bif ((decide ((List.length v134) ≤ (List.length v134))) && (decide ((List.length v135) ≤ (List.length v135)))) then 
 bindO (dialtoneref36_seat (((List.take (List.length v134) v134), ((List.take (List.length v135) v135), (v136, (v137, (v138, (v139, a9)))))), a8)) fun x142 =>
 bif (decide (x142 < (0 : Int))) then
 some ((([] : List Ca), (([] : List Se), ((0 : Int), ((0 : Int), ((0 : Int), ((0 : Int), (0 : Int))))))), (([] : List Ac), (8 : Int)))
 else
 bif (decide (((0 : Int) ≤ x142) ∧ (x142 < (((List.length v135) : Nat) : Int)))) then 
 bindO v135[(Int.toNat x142)]? fun x143 =>
 bif (decide (x143.2.1 ≠ (2 : Int))) then
 some ((([] : List Ca), (([] : List Se), ((0 : Int), ((0 : Int), ((0 : Int), ((0 : Int), (0 : Int))))))), (([] : List Ac), (9 : Int)))
 else
 bif (decide (((0 : Int) ≤ x142) ∧ (x142 < (((List.length v135) : Nat) : Int)))) then 
 bindO v135[(Int.toNat x142)]? fun x144 =>
 bif ((decide ((List.length v134) ≤ (List.length v134))) && (decide ((List.length v135) ≤ (List.length v135)))) then 
 bindO (dialtoneref36_waits (((List.take (List.length v134) v134), ((List.take (List.length v135) v135), (v136, (v137, (v138, (v139, a9)))))), x144.2.2.2.1)) fun x145 =>
 bif (decide (((0 : Int) ≤ x145) ∧ (x145 ≤ (((List.length v134) : Nat) : Int)))) then 
 bif (decide ((Int.toNat x145) ≤ (List.length v134))) then 
 bif (decide (((List.length (List.take (Int.toNat x145) v134)) * 32) ≤ 140737488355328)) then 
 bindO (some (List.take (Int.toNat x145) v134)) fun x146 =>
 bindO (some (Go.IntKind.wrap .i64 (x145 + (1 : Int)))) fun x147 =>
 bif (decide (((0 : Int) ≤ x147) ∧ (x147 ≤ (((List.length v134) : Nat) : Int)))) then 
 bif ((decide (((Int.toNat x147) + ((List.length v134) - (Int.toNat x147))) ≤ (List.length v134))) && (decide ((List.length x146) ≤ (List.length x146)))) then 
 bif (decide (((List.length ((List.take (List.length x146) x146) ++ (List.take ((List.length v134) - (Int.toNat x147)) (List.drop (Int.toNat x147) v134)))) * 32) ≤ 140737488355328)) then 
 bindO (some ((List.take (List.length x146) x146) ++ (List.take ((List.length v134) - (Int.toNat x147)) (List.drop (Int.toNat x147) v134)))) fun x148 =>
 bif (decide (((0 : Int) ≤ x142) ∧ (x142 < (((List.length v135) : Nat) : Int)))) then 
 bindO v135[(Int.toNat x142)]? fun x149 =>
 bif (decide (((0 : Int) ≤ x142) ∧ (x142 < (((List.length v135) : Nat) : Int)))) then 
 bindO (List.set v135 (Int.toNat x142) (x149.1, ((3 : Int), (x149.2.2.1, (x149.2.2.2.1, x149.2.2.2.2)))))[(Int.toNat x142)]? fun x150 =>
 bif (decide (((0 : Int) ≤ x142) ∧ (x142 < (((List.length v135) : Nat) : Int)))) then 
 bindO (List.set (List.set v135 (Int.toNat x142) (x149.1, ((3 : Int), (x149.2.2.1, (x149.2.2.2.1, x149.2.2.2.2))))) (Int.toNat x142) (x150.1, (x150.2.1, (a9, (x150.2.2.2.1, x150.2.2.2.2)))))[(Int.toNat x142)]? fun x151 =>
 bindO (some (Go.IntKind.wrap .i64 (x151.2.2.2.2 + (1 : Int)))) fun x152 =>
 bif (decide (((0 : Int) ≤ x142) ∧ (x142 < (((List.length v135) : Nat) : Int)))) then 
 bindO (List.set (List.set v135 (Int.toNat x142) (x149.1, ((3 : Int), (x149.2.2.1, (x149.2.2.2.1, x149.2.2.2.2))))) (Int.toNat x142) (x150.1, (x150.2.1, (a9, (x150.2.2.2.1, x150.2.2.2.2)))))[(Int.toNat x142)]? fun x153 =>
 bif (decide (((0 : Int) ≤ x142) ∧ (x142 < (((List.length v135) : Nat) : Int)))) then 
 bindO (List.set (List.set (List.set v135 (Int.toNat x142) (x149.1, ((3 : Int), (x149.2.2.1, (x149.2.2.2.1, x149.2.2.2.2))))) (Int.toNat x142) (x150.1, (x150.2.1, (a9, (x150.2.2.2.1, x150.2.2.2.2))))) (Int.toNat x142) (x153.1, (x153.2.1, (x153.2.2.1, (x153.2.2.2.1, (minA x152 (2147483647 : Int)))))))[(Int.toNat x142)]? fun x154 =>
 bif (decide ((List.length v141) ≤ (List.length v141))) then 
 bif (decide (((List.length ((List.take (List.length v141) v141) ++ (((3 : Int), (x154.2.2.2.1, a8)) :: ([] : List Ac)))) * 24) ≤ 140737488355328)) then 
 bindO (some ((List.take (List.length v141) v141) ++ (((3 : Int), (x154.2.2.2.1, a8)) :: ([] : List Ac)))) fun x155 =>
 joinO (bif ((decide ((List.length x148) ≤ (List.length x148))) && ((decide ((List.length v135) ≤ (List.length (List.set (List.set (List.set v135 (Int.toNat x142) (x149.1, ((3 : Int), (x149.2.2.1, (x149.2.2.2.1, x149.2.2.2.2))))) (Int.toNat x142) (x150.1, (x150.2.1, (a9, (x150.2.2.2.1, x150.2.2.2.2))))) (Int.toNat x142) (x153.1, (x153.2.1, (x153.2.2.1, (x153.2.2.2.1, (minA x152 (2147483647 : Int)))))))))) && (decide ((List.length x155) ≤ (List.length x155))))) then 
 loopO dmatchB ((List.take (List.length x148) x148), ((List.take (List.length v135) (List.set (List.set (List.set v135 (Int.toNat x142) (x149.1, ((3 : Int), (x149.2.2.1, (x149.2.2.2.1, x149.2.2.2.2))))) (Int.toNat x142) (x150.1, (x150.2.1, (a9, (x150.2.2.2.1, x150.2.2.2.2))))) (Int.toNat x142) (x153.1, (x153.2.1, (x153.2.2.1, (x153.2.2.2.1, (minA x152 (2147483647 : Int)))))))), (v136, (v137, (v138, (v139, (a9, (List.take (List.length x155) x155))))))))
 else none) endL
 else none
 else none
 else none
 else none
 else none
 else none
 else none
 else none
 else none
 else none
 else none
 else none
 else none
 else none
 else none
 else none
 else none
noncomputable def dRefuseR (a8 a9 : Int) : Wk → Option Rt := fun (v134, (v135, (v136, (v137, (v138, (v139, (v140, v141))))))) =>
 bif ((decide ((List.length v134) ≤ (List.length v134))) && (decide ((List.length v135) ≤ (List.length v135)))) then 
 bindO (dialtoneref36_seat (((List.take (List.length v134) v134), ((List.take (List.length v135) v135), (v136, (v137, (v138, (v139, a9)))))), a8)) fun x142 =>
 bif (decide (x142 < (0 : Int))) then
 some ((([] : List Ca), (([] : List Se), ((0 : Int), ((0 : Int), ((0 : Int), ((0 : Int), (0 : Int))))))), (([] : List Ac), (8 : Int)))
 else
 bif (decide (((0 : Int) ≤ x142) ∧ (x142 < (((List.length v135) : Nat) : Int)))) then 
 bindO v135[(Int.toNat x142)]? fun x143 =>
 bif (decide (x143.2.1 ≠ (2 : Int))) then
 some ((([] : List Ca), (([] : List Se), ((0 : Int), ((0 : Int), ((0 : Int), ((0 : Int), (0 : Int))))))), (([] : List Ac), (9 : Int)))
 else
 joinO (bif (decide (((0 : Int) ≤ x142) ∧ (x142 < (((List.length v135) : Nat) : Int)))) then 
 bindO v135[(Int.toNat x142)]? fun x144 =>
 bif ((decide ((List.length v134) ≤ (List.length v134))) && (decide ((List.length v135) ≤ (List.length v135)))) then 
 bindO (dialtoneref36_waits (((List.take (List.length v134) v134), ((List.take (List.length v135) v135), (v136, (v137, (v138, (v139, a9)))))), x144.2.2.2.1)) fun x145 =>
 joinO (bif (decide (x145 ≥ (0 : Int))) then
 bif (decide (((0 : Int) ≤ x145) ∧ (x145 < (((List.length v134) : Nat) : Int)))) then 
 bindO v134[(Int.toNat x145)]? fun x146 =>
 some (Sum.inl (List.set v134 (Int.toNat x145) (x146.1, (x146.2.1, (x146.2.2.1, (0 : Int))))))
 else none
 else
 some (Sum.inl v134)) fun v147 =>
 bif (decide (((0 : Int) ≤ x142) ∧ (x142 < (((List.length v135) : Nat) : Int)))) then 
 bindO v135[(Int.toNat x142)]? fun x148 =>
 bif (decide ((List.length v141) ≤ (List.length v141))) then 
 bif (decide (((List.length ((List.take (List.length v141) v141) ++ (((2 : Int), (x144.2.2.2.1, x148.1)) :: ([] : List Ac)))) * 24) ≤ 140737488355328)) then 
 bindO (some ((List.take (List.length v141) v141) ++ (((2 : Int), (x144.2.2.2.1, x148.1)) :: ([] : List Ac)))) fun x149 =>
 bif (decide (((0 : Int) ≤ x142) ∧ (x142 < (((List.length v135) : Nat) : Int)))) then 
 bindO v135[(Int.toNat x142)]? fun x150 =>
 bif (decide (((0 : Int) ≤ x142) ∧ (x142 < (((List.length v135) : Nat) : Int)))) then 
 bindO (List.set v135 (Int.toNat x142) (x150.1, ((4 : Int), (x150.2.2.1, (x150.2.2.2.1, x150.2.2.2.2)))))[(Int.toNat x142)]? fun x151 =>
 bif (decide (((0 : Int) ≤ x142) ∧ (x142 < (((List.length v135) : Nat) : Int)))) then 
 bindO (List.set (List.set v135 (Int.toNat x142) (x150.1, ((4 : Int), (x150.2.2.1, (x150.2.2.2.1, x150.2.2.2.2))))) (Int.toNat x142) (x151.1, (x151.2.1, (x151.2.2.1, ((0 : Int), x151.2.2.2.2)))))[(Int.toNat x142)]? fun x152 =>
 bif ((decide ((List.length v134) ≤ (List.length v147))) && ((decide ((List.length v135) ≤ (List.length (List.set (List.set (List.set v135 (Int.toNat x142) (x150.1, ((4 : Int), (x150.2.2.1, (x150.2.2.2.1, x150.2.2.2.2))))) (Int.toNat x142) (x151.1, (x151.2.1, (x151.2.2.1, ((0 : Int), x151.2.2.2.2))))) (Int.toNat x142) (x152.1, (x152.2.1, (a9, (x152.2.2.2.1, x152.2.2.2.2)))))))) && (decide ((List.length x149) ≤ (List.length x149))))) then 
 some (Sum.inl ((List.take (List.length v134) v147), ((List.take (List.length v135) (List.set (List.set (List.set v135 (Int.toNat x142) (x150.1, ((4 : Int), (x150.2.2.1, (x150.2.2.2.1, x150.2.2.2.2))))) (Int.toNat x142) (x151.1, (x151.2.1, (x151.2.2.1, ((0 : Int), x151.2.2.2.2))))) (Int.toNat x142) (x152.1, (x152.2.1, (a9, (x152.2.2.2.1, x152.2.2.2.2)))))), (v136, (v137, (v138, (v139, (a9, (List.take (List.length x149) x149)))))))))
 else none
 else none
 else none
 else none
 else none
 else none
 else none
 else none
 else none) fun (v153, (v154, (v155, (v156, (v157, (v158, (v159, v160))))))) =>
 joinO (bif ((decide ((List.length v153) ≤ (List.length v153))) && ((decide ((List.length v154) ≤ (List.length v154))) && (decide ((List.length v160) ≤ (List.length v160))))) then 
 loopO dmatchB ((List.take (List.length v153) v153), ((List.take (List.length v154) v154), (v155, (v156, (v157, (v158, (v159, (List.take (List.length v160) v160))))))))
 else none) endL
 else none
 else none
noncomputable def dDoneR (a8 a9 : Int) : Wk → Option Rt := fun (v134, (v135, (v136, (v137, (v138, (v139, (v140, v141))))))) =>
 bif ((decide ((List.length v134) ≤ (List.length v134))) && (decide ((List.length v135) ≤ (List.length v135)))) then 
 bindO (dialtoneref36_seat (((List.take (List.length v134) v134), ((List.take (List.length v135) v135), (v136, (v137, (v138, (v139, a9)))))), a8)) fun x142 =>
 bif (decide (x142 < (0 : Int))) then
 some ((([] : List Ca), (([] : List Se), ((0 : Int), ((0 : Int), ((0 : Int), ((0 : Int), (0 : Int))))))), (([] : List Ac), (8 : Int)))
 else
 bif (decide (((0 : Int) ≤ x142) ∧ (x142 < (((List.length v135) : Nat) : Int)))) then 
 bindO v135[(Int.toNat x142)]? fun x143 =>
 bif (decide (x143.2.1 ≠ (3 : Int))) then
 some ((([] : List Ca), (([] : List Se), ((0 : Int), ((0 : Int), ((0 : Int), ((0 : Int), (0 : Int))))))), (([] : List Ac), (9 : Int)))
 else
 bif (decide (((0 : Int) ≤ x142) ∧ (x142 < (((List.length v135) : Nat) : Int)))) then 
 bindO v135[(Int.toNat x142)]? fun x144 =>
 bif (decide (((0 : Int) ≤ x142) ∧ (x142 < (((List.length v135) : Nat) : Int)))) then 
 bindO (List.set v135 (Int.toNat x142) (x144.1, ((4 : Int), (x144.2.2.1, (x144.2.2.2.1, x144.2.2.2.2)))))[(Int.toNat x142)]? fun x145 =>
 bif (decide (((0 : Int) ≤ x142) ∧ (x142 < (((List.length v135) : Nat) : Int)))) then 
 bindO (List.set (List.set v135 (Int.toNat x142) (x144.1, ((4 : Int), (x144.2.2.1, (x144.2.2.2.1, x144.2.2.2.2))))) (Int.toNat x142) (x145.1, (x145.2.1, (x145.2.2.1, ((0 : Int), x145.2.2.2.2)))))[(Int.toNat x142)]? fun x146 =>
 joinO (bif ((decide ((List.length v134) ≤ (List.length v134))) && ((decide ((List.length v135) ≤ (List.length (List.set (List.set (List.set v135 (Int.toNat x142) (x144.1, ((4 : Int), (x144.2.2.1, (x144.2.2.2.1, x144.2.2.2.2))))) (Int.toNat x142) (x145.1, (x145.2.1, (x145.2.2.1, ((0 : Int), x145.2.2.2.2))))) (Int.toNat x142) (x146.1, (x146.2.1, (a9, (x146.2.2.2.1, x146.2.2.2.2)))))))) && (decide ((List.length v141) ≤ (List.length v141))))) then 
 loopO dmatchB ((List.take (List.length v134) v134), ((List.take (List.length v135) (List.set (List.set (List.set v135 (Int.toNat x142) (x144.1, ((4 : Int), (x144.2.2.1, (x144.2.2.2.1, x144.2.2.2.2))))) (Int.toNat x142) (x145.1, (x145.2.1, (x145.2.2.1, ((0 : Int), x145.2.2.2.2))))) (Int.toNat x142) (x146.1, (x146.2.1, (a9, (x146.2.2.2.1, x146.2.2.2.2)))))), (v136, (v137, (v138, (v139, (a9, (List.take (List.length v141) v141))))))))
 else none) endL
 else none
 else none
 else none
 else none
 else none
end Go.Proofs.Ytkmfgldoljegoaa
