import Derived.Test.YtkmfgldoljegoaaM3p
import Derived.Test.YtkmfgldoljegoaaZ3p
set_option linter.unusedVariables false
set_option linter.unusedSimpArgs false
set_option maxRecDepth 1000000
set_option maxHeartbeats 4000000
namespace Go.Proofs.Ytkmfgldoljegoaa
open Go.RowKit
noncomputable def tgcB {δ : Type} (v15 : List Ca) (v18 : Int) : (Int × List Th) → Option ((Int × List Th) ⊕ (List Th ⊕ δ)) :=
(fun (v23, v24) =>
 bif (decide (v23 < (((List.length v15) : Nat) : Int))) then
 bif (decide (((0 : Int) ≤ v23) ∧ (v23 < (((List.length v15) : Nat) : Int)))) then 
 bindO v15[(Int.toNat v23)]? fun x25 =>
 bindO (some (Go.IntKind.wrap .i64 (x25.2.2.1 + v18))) fun x26 =>
 bif (decide ((List.length v24) ≤ (List.length v24))) then 
 bif (decide (((List.length ((List.take (List.length v24) v24) ++ ((x26, (Bool.true, v23)) :: ([] : List Th)))) * 24) ≤ 140737488355328)) then 
 bindO (some ((List.take (List.length v24) v24) ++ ((x26, (Bool.true, v23)) :: ([] : List Th)))) fun x27 =>
 bif (decide ((List.length x27) ≤ (List.length x27))) then 
 some (Sum.inl ((Go.IntKind.wrap .i64 (v23 + (1 : Int))), (List.take (List.length x27) x27)))
 else none
 else none
 else none
 else none
 else
 outO (bif (decide ((List.length v24) ≤ (List.length v24))) then 
 some (Sum.inl (List.take (List.length v24) v24))
 else none))
noncomputable def tgsB {δ : Type} (v16 : List Se) (v19 v20 : Int) : (Int × List Th) → Option ((Int × List Th) ⊕ (List Th ⊕ δ)) :=
(fun (v30, v31) =>
 bif (decide (v30 < (((List.length v16) : Nat) : Int))) then
 bif (decide (((0 : Int) ≤ v30) ∧ (v30 < (((List.length v16) : Nat) : Int)))) then 
 bindO v16[(Int.toNat v30)]? fun x32 =>
 bif (decide (x32.2.1 = (2 : Int))) then
 bindO (some (Go.IntKind.wrap .i64 (x32.2.2.1 + v19))) fun x33 =>
 bif (decide ((List.length v31) ≤ (List.length v31))) then 
 bif (decide (((List.length ((List.take (List.length v31) v31) ++ ((x33, (Bool.false, v30)) :: ([] : List Th)))) * 24) ≤ 140737488355328)) then 
 bindO (some ((List.take (List.length v31) v31) ++ ((x33, (Bool.false, v30)) :: ([] : List Th)))) fun x34 =>
 bif (decide ((List.length x34) ≤ (List.length x34))) then 
 some (Sum.inl ((Go.IntKind.wrap .i64 (v30 + (1 : Int))), (List.take (List.length x34) x34)))
 else none
 else none
 else none
 else
 bif (decide (x32.2.1 = (4 : Int))) then
 bindO (some (Go.IntKind.wrap .i64 (x32.2.2.1 + v20))) fun x36 =>
 bif (decide ((List.length v31) ≤ (List.length v31))) then 
 bif (decide (((List.length ((List.take (List.length v31) v31) ++ ((x36, (Bool.false, v30)) :: ([] : List Th)))) * 24) ≤ 140737488355328)) then 
 bindO (some ((List.take (List.length v31) v31) ++ ((x36, (Bool.false, v30)) :: ([] : List Th)))) fun x37 =>
 bif (decide ((List.length x37) ≤ (List.length x37))) then 
 some (Sum.inl ((Go.IntKind.wrap .i64 (v30 + (1 : Int))), (List.take (List.length x37) x37)))
 else none
 else none
 else none
 else
 bif (decide ((List.length v31) ≤ (List.length v31))) then 
 some (Sum.inl ((Go.IntKind.wrap .i64 (v30 + (1 : Int))), (List.take (List.length v31) v31)))
 else none
 else none
 else
 outO (bif (decide ((List.length v31) ≤ (List.length v31))) then 
 some (Sum.inl (List.take (List.length v31) v31))
 else none))
noncomputable def lstB {δ : Type} (v41 : List Th) : (Int × Int) → Option ((Int × Int) ⊕ (Int ⊕ δ)) :=
(fun (v42, v43) =>
 bif (decide (v42 < (((List.length v41) : Nat) : Int))) then
 bif (decide (v43 < (0 : Int))) then
 some (Sum.inl ((Go.IntKind.wrap .i64 (v42 + (1 : Int))), v42))
 else
 bif (decide (((0 : Int) ≤ v42) ∧ (v42 < (((List.length v41) : Nat) : Int)))) then 
 bindO v41[(Int.toNat v42)]? fun x45 =>
 bif (decide (((0 : Int) ≤ v43) ∧ (v43 < (((List.length v41) : Nat) : Int)))) then 
 bindO v41[(Int.toNat v43)]? fun x46 =>
 bif (decide (x45.1 < x46.1)) then
 some (Sum.inl ((Go.IntKind.wrap .i64 (v42 + (1 : Int))), v42))
 else
 some (Sum.inl ((Go.IntKind.wrap .i64 (v42 + (1 : Int))), v43))
 else none
 else none
 else
 outO (some (Sum.inl v43)))
noncomputable def frcB {δ : Type} (v238 : List Ca) : (Int × List Int) → Option ((Int × List Int) ⊕ (List Int ⊕ δ)) :=
(fun (v246, v247) =>
 bif (decide (v246 < (((List.length v238) : Nat) : Int))) then
 bif (decide (((0 : Int) ≤ v246) ∧ (v246 < (((List.length v238) : Nat) : Int)))) then 
 bindO v238[(Int.toNat v246)]? fun x248 =>
 bif (decide (x248.2.2.2 = (0 : Int))) then
 bif (decide ((List.length v247) ≤ (List.length v247))) then 
 bif (decide (((List.length ((List.take (List.length v247) v247) ++ (v246 :: ([] : List Int)))) * 8) ≤ 140737488355328)) then 
 bindO (some ((List.take (List.length v247) v247) ++ (v246 :: ([] : List Int)))) fun x249 =>
 bif (decide ((List.length x249) ≤ (List.length x249))) then 
 some (Sum.inl ((Go.IntKind.wrap .i64 (v246 + (1 : Int))), (List.take (List.length x249) x249)))
 else none
 else none
 else none
 else
 bif (decide ((List.length v247) ≤ (List.length v247))) then 
 some (Sum.inl ((Go.IntKind.wrap .i64 (v246 + (1 : Int))), (List.take (List.length v247) v247)))
 else none
 else none
 else
 outO (bif (decide ((List.length v247) ≤ (List.length v247))) then 
 some (Sum.inl (List.take (List.length v247) v247))
 else none))
noncomputable def lscB {δ : Type} (v252 : List Int) (v238 : List Ca) : (Int × Int) → Option ((Int × Int) ⊕ (Int ⊕ δ)) :=
(fun (v253, v254) =>
 bif (decide (v253 < (((List.length v252) : Nat) : Int))) then
 bif (decide (v254 < (0 : Int))) then
 some (Sum.inl ((Go.IntKind.wrap .i64 (v253 + (1 : Int))), v253))
 else
 bif (decide (((0 : Int) ≤ v253) ∧ (v253 < (((List.length v252) : Nat) : Int)))) then 
 bindO v252[(Int.toNat v253)]? fun x256 =>
 bif (decide (((0 : Int) ≤ v254) ∧ (v254 < (((List.length v252) : Nat) : Int)))) then 
 bindO v252[(Int.toNat v254)]? fun x257 =>
 bif (decide (((0 : Int) ≤ x256) ∧ (x256 < (((List.length v238) : Nat) : Int)))) then 
 bindO v238[(Int.toNat x256)]? fun x258 =>
 bif (decide (((0 : Int) ≤ x257) ∧ (x257 < (((List.length v238) : Nat) : Int)))) then 
 bindO v238[(Int.toNat x257)]? fun x259 =>
 bif (decide (x258.2.1 > x259.2.1)) then
 some (Sum.inl ((Go.IntKind.wrap .i64 (v253 + (1 : Int))), v253))
 else
 some (Sum.inl ((Go.IntKind.wrap .i64 (v253 + (1 : Int))), v254))
 else none
 else none
 else none
 else none
 else
 outO (some (Sum.inl v254)))
noncomputable def frsB {δ : Type} (v239 : List Se) : (Int × List Int) → Option ((Int × List Int) ⊕ (List Int ⊕ δ)) :=
(fun (v266, v267) =>
 bif (decide (v266 < (((List.length v239) : Nat) : Int))) then
 bif (decide (((0 : Int) ≤ v266) ∧ (v266 < (((List.length v239) : Nat) : Int)))) then 
 bindO v239[(Int.toNat v266)]? fun x268 =>
 bif (decide (x268.2.1 = (1 : Int))) then
 bif (decide ((List.length v267) ≤ (List.length v267))) then 
 bif (decide (((List.length ((List.take (List.length v267) v267) ++ (v266 :: ([] : List Int)))) * 8) ≤ 140737488355328)) then 
 bindO (some ((List.take (List.length v267) v267) ++ (v266 :: ([] : List Int)))) fun x269 =>
 bif (decide ((List.length x269) ≤ (List.length x269))) then 
 some (Sum.inl ((Go.IntKind.wrap .i64 (v266 + (1 : Int))), (List.take (List.length x269) x269)))
 else none
 else none
 else none
 else
 bif (decide ((List.length v267) ≤ (List.length v267))) then 
 some (Sum.inl ((Go.IntKind.wrap .i64 (v266 + (1 : Int))), (List.take (List.length v267) v267)))
 else none
 else none
 else
 outO (bif (decide ((List.length v267) ≤ (List.length v267))) then 
 some (Sum.inl (List.take (List.length v267) v267))
 else none))
noncomputable def lssB {δ : Type} (v272 : List Int) (v239 : List Se) : (Int × Int) → Option ((Int × Int) ⊕ (Int ⊕ δ)) :=
(fun (v273, v274) =>
 bif (decide (v273 < (((List.length v272) : Nat) : Int))) then
 bif (decide (v274 < (0 : Int))) then
 some (Sum.inl ((Go.IntKind.wrap .i64 (v273 + (1 : Int))), v273))
 else
 bif (decide (((0 : Int) ≤ v273) ∧ (v273 < (((List.length v272) : Nat) : Int)))) then 
 bindO v272[(Int.toNat v273)]? fun x276 =>
 bif (decide (((0 : Int) ≤ v274) ∧ (v274 < (((List.length v272) : Nat) : Int)))) then 
 bindO v272[(Int.toNat v274)]? fun x277 =>
 bif (decide (((0 : Int) ≤ x276) ∧ (x276 < (((List.length v239) : Nat) : Int)))) then 
 bindO v239[(Int.toNat x276)]? fun x278 =>
 bif (decide (((0 : Int) ≤ x277) ∧ (x277 < (((List.length v239) : Nat) : Int)))) then 
 bindO v239[(Int.toNat x277)]? fun x279 =>
 bif (decide (x278.2.2.1 < x279.2.2.1)) then
 some (Sum.inl ((Go.IntKind.wrap .i64 (v273 + (1 : Int))), v273))
 else
 some (Sum.inl ((Go.IntKind.wrap .i64 (v273 + (1 : Int))), v274))
 else none
 else none
 else none
 else none
 else
 outO (some (Sum.inl v274)))
noncomputable def qncB {δ : Type} (v238 : List Ca) : Option (Int ⊕ δ) :=
(joinO (loopO (frcB v238) ((0 : Int), ([] : List Int))) fun v252 =>
 joinO (joinO (loopO (lscB v252 v238) ((0 : Int), (-1 : Int))) fun v262 =>
 some (Sum.inl v262)) fun v263 =>
 bif (decide (v263 < (0 : Int))) then
 some (Sum.inl (-1 : Int))
 else
 bif (decide (((0 : Int) ≤ v263) ∧ (v263 < (((List.length v252) : Nat) : Int)))) then 
 bindO v252[(Int.toNat v263)]? fun x264 =>
 some (Sum.inl x264)
 else none)
noncomputable def qnsB {δ : Type} (v239 : List Se) : Option (Int ⊕ δ) :=
(joinO (loopO (frsB v239) ((0 : Int), ([] : List Int))) fun v272 =>
 joinO (joinO (loopO (lssB v272 v239) ((0 : Int), (-1 : Int))) fun v282 =>
 some (Sum.inl v282)) fun v283 =>
 bif (decide (v283 < (0 : Int))) then
 some (Sum.inl (-1 : Int))
 else
 bif (decide (((0 : Int) ≤ v283) ∧ (v283 < (((List.length v272) : Nat) : Int)))) then 
 bindO v272[(Int.toNat v283)]? fun x284 =>
 some (Sum.inl x284)
 else none)
noncomputable def matchB {δ : Type}  : Wk → Option (Wk ⊕ (Wk ⊕ δ)) :=
(fun (v238, (v239, (v240, (v241, (v242, (v243, (v244, v245))))))) =>
 joinO (qncB v238) fun v265 =>
 joinO (qnsB v239) fun v285 =>
 bif (decide (v265 < (0 : Int))) then
 outO (bif ((decide ((List.length v238) ≤ (List.length v238))) && ((decide ((List.length v239) ≤ (List.length v239))) && (decide ((List.length v245) ≤ (List.length v245))))) then 
 some (Sum.inl ((List.take (List.length v238) v238), ((List.take (List.length v239) v239), (v240, (v241, (v242, (v243, (v244, (List.take (List.length v245) v245)))))))))
 else none)
 else
 bif (decide (v285 < (0 : Int))) then
 outO (bif ((decide ((List.length v238) ≤ (List.length v238))) && ((decide ((List.length v239) ≤ (List.length v239))) && (decide ((List.length v245) ≤ (List.length v245))))) then 
 some (Sum.inl ((List.take (List.length v238) v238), ((List.take (List.length v239) v239), (v240, (v241, (v242, (v243, (v244, (List.take (List.length v245) v245)))))))))
 else none)
 else
 bif (decide (((0 : Int) ≤ v285) ∧ (v285 < (((List.length v239) : Nat) : Int)))) then 
 bif (decide (((0 : Int) ≤ v265) ∧ (v265 < (((List.length v238) : Nat) : Int)))) then 
 bindO v238[(Int.toNat v265)]? fun x286 =>
 bindO v239[(Int.toNat v285)]? fun x287 =>
 bindO (List.set v239 (Int.toNat v285) (x287.1, ((2 : Int), (x287.2.2.1, (x287.2.2.2.1, x287.2.2.2.2)))))[(Int.toNat v285)]? fun x288 =>
 bindO (List.set (List.set v239 (Int.toNat v285) (x287.1, ((2 : Int), (x287.2.2.1, (x287.2.2.2.1, x287.2.2.2.2))))) (Int.toNat v285) (x288.1, (x288.2.1, (v244, (x288.2.2.2.1, x288.2.2.2.2)))))[(Int.toNat v285)]? fun x289 =>
 bindO (List.set (List.set (List.set v239 (Int.toNat v285) (x287.1, ((2 : Int), (x287.2.2.1, (x287.2.2.2.1, x287.2.2.2.2))))) (Int.toNat v285) (x288.1, (x288.2.1, (v244, (x288.2.2.2.1, x288.2.2.2.2))))) (Int.toNat v285) (x289.1, (x289.2.1, (x289.2.2.1, (x286.1, x289.2.2.2.2)))))[(Int.toNat v285)]? fun x290 =>
 bif (decide (((0 : Int) ≤ v265) ∧ (v265 < (((List.length v238) : Nat) : Int)))) then 
 bindO v238[(Int.toNat v265)]? fun x291 =>
 bindO (List.set (List.set (List.set v239 (Int.toNat v285) (x287.1, ((2 : Int), (x287.2.2.1, (x287.2.2.2.1, x287.2.2.2.2))))) (Int.toNat v285) (x288.1, (x288.2.1, (v244, (x288.2.2.2.1, x288.2.2.2.2))))) (Int.toNat v285) (x289.1, (x289.2.1, (x289.2.2.1, (x286.1, x289.2.2.2.2)))))[(Int.toNat v285)]? fun x292 =>
 bindO (List.set (List.set (List.set v239 (Int.toNat v285) (x287.1, ((2 : Int), (x287.2.2.1, (x287.2.2.2.1, x287.2.2.2.2))))) (Int.toNat v285) (x288.1, (x288.2.1, (v244, (x288.2.2.2.1, x288.2.2.2.2))))) (Int.toNat v285) (x289.1, (x289.2.1, (x289.2.2.1, (x286.1, x289.2.2.2.2)))))[(Int.toNat v285)]? fun x293 =>
 bif (decide ((List.length v245) ≤ (List.length v245))) then 
 bif (decide (((List.length ((List.take (List.length v245) v245) ++ (((1 : Int), (x292.2.2.2.1, x293.1)) :: ([] : List Ac)))) * 24) ≤ 140737488355328)) then 
 bindO (some ((List.take (List.length v245) v245) ++ (((1 : Int), (x292.2.2.2.1, x293.1)) :: ([] : List Ac)))) fun x294 =>
 bif ((decide ((List.length v238) ≤ (List.length (List.set v238 (Int.toNat v265) (x291.1, (x291.2.1, (x291.2.2.1, x290.1))))))) && ((decide ((List.length v239) ≤ (List.length (List.set (List.set (List.set v239 (Int.toNat v285) (x287.1, ((2 : Int), (x287.2.2.1, (x287.2.2.2.1, x287.2.2.2.2))))) (Int.toNat v285) (x288.1, (x288.2.1, (v244, (x288.2.2.2.1, x288.2.2.2.2))))) (Int.toNat v285) (x289.1, (x289.2.1, (x289.2.2.1, (x286.1, x289.2.2.2.2)))))))) && (decide ((List.length x294) ≤ (List.length x294))))) then 
 some (Sum.inl ((List.take (List.length v238) (List.set v238 (Int.toNat v265) (x291.1, (x291.2.1, (x291.2.2.1, x290.1))))), ((List.take (List.length v239) (List.set (List.set (List.set v239 (Int.toNat v285) (x287.1, ((2 : Int), (x287.2.2.1, (x287.2.2.2.1, x287.2.2.2.2))))) (Int.toNat v285) (x288.1, (x288.2.1, (v244, (x288.2.2.2.1, x288.2.2.2.2))))) (Int.toNat v285) (x289.1, (x289.2.1, (x289.2.2.1, (x286.1, x289.2.2.2.2)))))), (v240, (v241, (v242, (v243, (v244, (List.take (List.length x294) x294)))))))))
 else none
 else none
 else none
 else none
 else none
 else none)
noncomputable def thgB {δ : Type} (v15 : List Ca) (v16 : List Se) (v18 v19 v20 : Int) : Option (List Th ⊕ δ) :=
(joinO (bif (decide (v18 ≠ (0 : Int))) then
 loopO (tgcB v15 v18) ((0 : Int), ([] : List Th))
 else
 some (Sum.inl ([] : List Th))) fun v29 =>
 joinO (bif (decide ((List.length v29) ≤ (List.length v29))) then 
 loopO (tgsB v16 v19 v20) ((0 : Int), (List.take (List.length v29) v29))
 else none) fun v40 =>
 bif (decide ((List.length v40) ≤ (List.length v40))) then 
 some (Sum.inl (List.take (List.length v40) v40))
 else none)
noncomputable def lstK {δ : Type} (v41 : List Th) : Option (Int ⊕ δ) :=
(joinO (loopO (lstB v41) ((0 : Int), (-1 : Int))) fun v49 =>
 some (Sum.inl v49))
noncomputable def hapB {δ : Type} (v15 : List Ca) (v16 : List Se) (v17 v18 v19 v20 v21 : Int) (v22 : List Ac) (x53 x52 : Th) : Option (Wk ⊕ δ) :=
(bif x53.2.1 then
 bif (decide (((0 : Int) ≤ x53.2.2) ∧ (x53.2.2 < (((List.length v15) : Nat) : Int)))) then 
 bindO v15[(Int.toNat x53.2.2)]? fun x54 =>
 joinO (joinO (bif (decide (((0 : Int) ≤ x53.2.2) ∧ (x53.2.2 < (((List.length v15) : Nat) : Int)))) then 
 bindO v15[(Int.toNat x53.2.2)]? fun x55 =>
 bif (decide (x55.2.2.2 ≠ (0 : Int))) then
 bif ((decide ((List.length v15) ≤ (List.length v15))) && (decide ((List.length v16) ≤ (List.length v16)))) then 
 bindO (queues_seatOf (((List.take (List.length v15) v15), ((List.take (List.length v16) v16), (v17, (v18, (v19, (v20, x52.1)))))), x55.2.2.2)) fun x56 =>
 joinO (bif (decide (((0 : Int) ≤ x56) ∧ (x56 < (((List.length v16) : Nat) : Int)))) then 
 bindO v16[(Int.toNat x56)]? fun x57 =>
 joinO (bif ((decide ((List.length v15) ≤ (List.length v15))) && (decide ((List.length v16) ≤ (List.length v16)))) then 
 bindO (queues_callerOf (((List.take (List.length v15) v15), ((List.take (List.length v16) v16), (v17, (v18, (v19, (v20, x52.1)))))), x57.2.2.2.1)) fun x58 =>
 bif (decide (x58 ≥ (0 : Int))) then
 bif (decide (((0 : Int) ≤ x58) ∧ (x58 < (((List.length v15) : Nat) : Int)))) then 
 bindO v15[(Int.toNat x58)]? fun x59 =>
 some (Sum.inl (List.set v15 (Int.toNat x58) (x59.1, (x59.2.1, (x59.2.2.1, (0 : Int))))))
 else none
 else
 some (Sum.inl v15)
 else none) fun v60 =>
 bif (decide ((List.length v22) ≤ (List.length v22))) then 
 bif (decide (((List.length ((List.take (List.length v22) v22) ++ (((2 : Int), (x57.2.2.2.1, x57.1)) :: ([] : List Ac)))) * 24) ≤ 140737488355328)) then 
 bindO (some ((List.take (List.length v22) v22) ++ (((2 : Int), (x57.2.2.2.1, x57.1)) :: ([] : List Ac)))) fun x61 =>
 bif ((decide ((List.length v15) ≤ (List.length v60))) && ((decide ((List.length v16) ≤ (List.length v16))) && (decide ((List.length x61) ≤ (List.length x61))))) then 
 some (Sum.inl ((List.take (List.length v15) v60), ((List.take (List.length v16) v16), (v17, (v18, (v19, (v20, (x52.1, (List.take (List.length x61) x61)))))))))
 else none
 else none
 else none
 else none) fun (v62, (v63, (v64, (v65, (v66, (v67, (v68, v69))))))) =>
 bif (decide (((0 : Int) ≤ x56) ∧ (x56 < (((List.length v63) : Nat) : Int)))) then 
 bindO v63[(Int.toNat x56)]? fun x70 =>
 bindO (List.set v63 (Int.toNat x56) (x70.1, ((1 : Int), (x70.2.2.1, (x70.2.2.2.1, x70.2.2.2.2)))))[(Int.toNat x56)]? fun x71 =>
 bindO (List.set (List.set v63 (Int.toNat x56) (x70.1, ((1 : Int), (x70.2.2.1, (x70.2.2.2.1, x70.2.2.2.2))))) (Int.toNat x56) (x71.1, (x71.2.1, (v68, (x71.2.2.2.1, x71.2.2.2.2)))))[(Int.toNat x56)]? fun x72 =>
 bif ((decide ((List.length v62) ≤ (List.length v62))) && ((decide ((List.length v63) ≤ (List.length (List.set (List.set (List.set v63 (Int.toNat x56) (x70.1, ((1 : Int), (x70.2.2.1, (x70.2.2.2.1, x70.2.2.2.2))))) (Int.toNat x56) (x71.1, (x71.2.1, (v68, (x71.2.2.2.1, x71.2.2.2.2))))) (Int.toNat x56) (x72.1, (x72.2.1, (x72.2.2.1, ((0 : Int), x72.2.2.2.2)))))))) && (decide ((List.length v69) ≤ (List.length v69))))) then 
 some (Sum.inl ((List.take (List.length v62) v62), ((List.take (List.length v63) (List.set (List.set (List.set v63 (Int.toNat x56) (x70.1, ((1 : Int), (x70.2.2.1, (x70.2.2.2.1, x70.2.2.2.2))))) (Int.toNat x56) (x71.1, (x71.2.1, (v68, (x71.2.2.2.1, x71.2.2.2.2))))) (Int.toNat x56) (x72.1, (x72.2.1, (x72.2.2.1, ((0 : Int), x72.2.2.2.2)))))), (v64, (v65, (v66, (v67, (v68, (List.take (List.length v69) v69)))))))))
 else none
 else none
 else none
 else
 bif ((decide ((List.length v15) ≤ (List.length v15))) && ((decide ((List.length v16) ≤ (List.length v16))) && (decide ((List.length v22) ≤ (List.length v22))))) then 
 some (Sum.inl ((List.take (List.length v15) v15), ((List.take (List.length v16) v16), (v17, (v18, (v19, (v20, (x52.1, (List.take (List.length v22) v22)))))))))
 else none
 else none) fun (v73, (v74, (v75, (v76, (v77, (v78, (v79, v80))))))) =>
 bif (decide (((0 : Int) ≤ x53.2.2) ∧ (x53.2.2 ≤ (((List.length v73) : Nat) : Int)))) then 
 bindO (some (Go.IntKind.wrap .i64 (x53.2.2 + (1 : Int)))) fun x81 =>
 bif (decide (((0 : Int) ≤ x81) ∧ (x81 ≤ (((List.length v73) : Nat) : Int)))) then 
 bif ((decide (((Int.toNat x81) + ((List.length v73) - (Int.toNat x81))) ≤ (List.length v73))) && (decide ((Int.toNat x53.2.2) ≤ (List.length v73)))) then 
 bif (decide (((List.length ((List.take (Int.toNat x53.2.2) v73) ++ (List.take ((List.length v73) - (Int.toNat x81)) (List.drop (Int.toNat x81) v73)))) * 32) ≤ 140737488355328)) then 
 bindO (some ((List.take (Int.toNat x53.2.2) v73) ++ (List.take ((List.length v73) - (Int.toNat x81)) (List.drop (Int.toNat x81) v73)))) fun x82 =>
 bif ((decide ((List.length x82) ≤ (List.length x82))) && ((decide ((List.length v74) ≤ (List.length v74))) && (decide ((List.length v80) ≤ (List.length v80))))) then 
 some (Sum.inl ((List.take (List.length x82) x82), ((List.take (List.length v74) v74), (v75, (v76, (v77, (v78, (v79, (List.take (List.length v80) v80)))))))))
 else none
 else none
 else none
 else none
 else none) fun (v83, (v84, (v85, (v86, (v87, (v88, (v89, v90))))))) =>
 bif (decide ((List.length v90) ≤ (List.length v90))) then 
 bif (decide (((List.length ((List.take (List.length v90) v90) ++ (((4 : Int), (x54.1, (0 : Int))) :: ([] : List Ac)))) * 24) ≤ 140737488355328)) then 
 bindO (some ((List.take (List.length v90) v90) ++ (((4 : Int), (x54.1, (0 : Int))) :: ([] : List Ac)))) fun x91 =>
 bif ((decide ((List.length v83) ≤ (List.length v83))) && ((decide ((List.length v84) ≤ (List.length v84))) && (decide ((List.length x91) ≤ (List.length x91))))) then 
 some (Sum.inl ((List.take (List.length v83) v83), ((List.take (List.length v84) v84), (v85, (v86, (v87, (v88, (v89, (List.take (List.length x91) x91)))))))))
 else none
 else none
 else none
 else none
 else
 bif (decide (((0 : Int) ≤ x53.2.2) ∧ (x53.2.2 < (((List.length v16) : Nat) : Int)))) then 
 bindO v16[(Int.toNat x53.2.2)]? fun x92 =>
 bif (decide (x92.2.1 = (2 : Int))) then
 joinO (bif (decide (((0 : Int) ≤ x53.2.2) ∧ (x53.2.2 < (((List.length v16) : Nat) : Int)))) then 
 bindO v16[(Int.toNat x53.2.2)]? fun x93 =>
 joinO (bif ((decide ((List.length v15) ≤ (List.length v15))) && (decide ((List.length v16) ≤ (List.length v16)))) then 
 bindO (queues_callerOf (((List.take (List.length v15) v15), ((List.take (List.length v16) v16), (v17, (v18, (v19, (v20, x52.1)))))), x93.2.2.2.1)) fun x94 =>
 bif (decide (x94 ≥ (0 : Int))) then
 bif (decide (((0 : Int) ≤ x94) ∧ (x94 < (((List.length v15) : Nat) : Int)))) then 
 bindO v15[(Int.toNat x94)]? fun x95 =>
 some (Sum.inl (List.set v15 (Int.toNat x94) (x95.1, (x95.2.1, (x95.2.2.1, (0 : Int))))))
 else none
 else
 some (Sum.inl v15)
 else none) fun v96 =>
 bif (decide ((List.length v22) ≤ (List.length v22))) then 
 bif (decide (((List.length ((List.take (List.length v22) v22) ++ (((2 : Int), (x93.2.2.2.1, x93.1)) :: ([] : List Ac)))) * 24) ≤ 140737488355328)) then 
 bindO (some ((List.take (List.length v22) v22) ++ (((2 : Int), (x93.2.2.2.1, x93.1)) :: ([] : List Ac)))) fun x97 =>
 bif ((decide ((List.length v15) ≤ (List.length v96))) && ((decide ((List.length v16) ≤ (List.length v16))) && (decide ((List.length x97) ≤ (List.length x97))))) then 
 some (Sum.inl ((List.take (List.length v15) v96), ((List.take (List.length v16) v16), (v17, (v18, (v19, (v20, (x52.1, (List.take (List.length x97) x97)))))))))
 else none
 else none
 else none
 else none) fun (v98, (v99, (v100, (v101, (v102, (v103, (v104, v105))))))) =>
 bif (decide (((0 : Int) ≤ x53.2.2) ∧ (x53.2.2 < (((List.length v99) : Nat) : Int)))) then 
 bindO v99[(Int.toNat x53.2.2)]? fun x106 =>
 bindO (List.set v99 (Int.toNat x53.2.2) (x106.1, ((4 : Int), (x106.2.2.1, (x106.2.2.2.1, x106.2.2.2.2)))))[(Int.toNat x53.2.2)]? fun x107 =>
 bindO (List.set (List.set v99 (Int.toNat x53.2.2) (x106.1, ((4 : Int), (x106.2.2.1, (x106.2.2.2.1, x106.2.2.2.2))))) (Int.toNat x53.2.2) (x107.1, (x107.2.1, (v104, (x107.2.2.2.1, x107.2.2.2.2)))))[(Int.toNat x53.2.2)]? fun x108 =>
 bif ((decide ((List.length v98) ≤ (List.length v98))) && ((decide ((List.length v99) ≤ (List.length (List.set (List.set (List.set v99 (Int.toNat x53.2.2) (x106.1, ((4 : Int), (x106.2.2.1, (x106.2.2.2.1, x106.2.2.2.2))))) (Int.toNat x53.2.2) (x107.1, (x107.2.1, (v104, (x107.2.2.2.1, x107.2.2.2.2))))) (Int.toNat x53.2.2) (x108.1, (x108.2.1, (x108.2.2.1, ((0 : Int), x108.2.2.2.2)))))))) && (decide ((List.length v105) ≤ (List.length v105))))) then 
 some (Sum.inl ((List.take (List.length v98) v98), ((List.take (List.length v99) (List.set (List.set (List.set v99 (Int.toNat x53.2.2) (x106.1, ((4 : Int), (x106.2.2.1, (x106.2.2.2.1, x106.2.2.2.2))))) (Int.toNat x53.2.2) (x107.1, (x107.2.1, (v104, (x107.2.2.2.1, x107.2.2.2.2))))) (Int.toNat x53.2.2) (x108.1, (x108.2.1, (x108.2.2.1, ((0 : Int), x108.2.2.2.2)))))), (v100, (v101, (v102, (v103, (v104, (List.take (List.length v105) v105)))))))))
 else none
 else none
 else
 bif (decide (((0 : Int) ≤ x53.2.2) ∧ (x53.2.2 < (((List.length v16) : Nat) : Int)))) then 
 bindO v16[(Int.toNat x53.2.2)]? fun x109 =>
 bindO (List.set v16 (Int.toNat x53.2.2) (x109.1, ((1 : Int), (x109.2.2.1, (x109.2.2.2.1, x109.2.2.2.2)))))[(Int.toNat x53.2.2)]? fun x110 =>
 bindO (List.set (List.set v16 (Int.toNat x53.2.2) (x109.1, ((1 : Int), (x109.2.2.1, (x109.2.2.2.1, x109.2.2.2.2))))) (Int.toNat x53.2.2) (x110.1, (x110.2.1, (x52.1, (x110.2.2.2.1, x110.2.2.2.2)))))[(Int.toNat x53.2.2)]? fun x111 =>
 bif ((decide ((List.length v15) ≤ (List.length v15))) && ((decide ((List.length v16) ≤ (List.length (List.set (List.set (List.set v16 (Int.toNat x53.2.2) (x109.1, ((1 : Int), (x109.2.2.1, (x109.2.2.2.1, x109.2.2.2.2))))) (Int.toNat x53.2.2) (x110.1, (x110.2.1, (x52.1, (x110.2.2.2.1, x110.2.2.2.2))))) (Int.toNat x53.2.2) (x111.1, (x111.2.1, (x111.2.2.1, ((0 : Int), x111.2.2.2.2)))))))) && (decide ((List.length v22) ≤ (List.length v22))))) then 
 some (Sum.inl ((List.take (List.length v15) v15), ((List.take (List.length v16) (List.set (List.set (List.set v16 (Int.toNat x53.2.2) (x109.1, ((1 : Int), (x109.2.2.1, (x109.2.2.2.1, x109.2.2.2.2))))) (Int.toNat x53.2.2) (x110.1, (x110.2.1, (x52.1, (x110.2.2.2.1, x110.2.2.2.2))))) (Int.toNat x53.2.2) (x111.1, (x111.2.1, (x111.2.2.1, ((0 : Int), x111.2.2.2.2)))))), (v17, (v18, (v19, (v20, (x52.1, (List.take (List.length v22) v22)))))))))
 else none
 else none
 else none)
noncomputable def passB {δ : Type} (a9 : Int) : Wk → Option (Wk ⊕ (Wk ⊕ δ)) :=
(fun (v15, (v16, (v17, (v18, (v19, (v20, (v21, v22))))))) =>
 joinO (thgB v15 v16 v18 v19 v20) fun v41 =>
 joinO (lstK v41) fun v50 =>
 bif (decide (v50 < (0 : Int))) then
 outO (bif ((decide ((List.length v15) ≤ (List.length v15))) && ((decide ((List.length v16) ≤ (List.length v16))) && (decide ((List.length v22) ≤ (List.length v22))))) then 
 some (Sum.inl ((List.take (List.length v15) v15), ((List.take (List.length v16) v16), (v17, (v18, (v19, (v20, (v21, (List.take (List.length v22) v22)))))))))
 else none)
 else
 bif (decide (((0 : Int) ≤ v50) ∧ (v50 < (((List.length v41) : Nat) : Int)))) then 
 bindO v41[(Int.toNat v50)]? fun x51 =>
 bif (decide (x51.1 > a9)) then
 outO (bif ((decide ((List.length v15) ≤ (List.length v15))) && ((decide ((List.length v16) ≤ (List.length v16))) && (decide ((List.length v22) ≤ (List.length v22))))) then 
 some (Sum.inl ((List.take (List.length v15) v15), ((List.take (List.length v16) v16), (v17, (v18, (v19, (v20, (v21, (List.take (List.length v22) v22)))))))))
 else none)
 else
 bif (decide (((0 : Int) ≤ v50) ∧ (v50 < (((List.length v41) : Nat) : Int)))) then 
 bindO v41[(Int.toNat v50)]? fun x52 =>
 bif (decide (((0 : Int) ≤ v50) ∧ (v50 < (((List.length v41) : Nat) : Int)))) then 
 bindO v41[(Int.toNat v50)]? fun x53 =>
 joinO (hapB v15 v16 v17 v18 v19 v20 v21 v22 x53 x52) fun (v112, (v113, (v114, (v115, (v116, (v117, (v118, v119))))))) =>
 joinO (bif ((decide ((List.length v112) ≤ (List.length v112))) && ((decide ((List.length v113) ≤ (List.length v113))) && (decide ((List.length v119) ≤ (List.length v119))))) then 
 loopO matchB ((List.take (List.length v112) v112), ((List.take (List.length v113) v113), (v114, (v115, (v116, (v117, (v118, (List.take (List.length v119) v119))))))))
 else none) fun (v177, (v178, (v179, (v180, (v181, (v182, (v183, v184))))))) =>
 bif ((decide ((List.length v177) ≤ (List.length v177))) && ((decide ((List.length v178) ≤ (List.length v178))) && (decide ((List.length v184) ≤ (List.length v184))))) then 
 some (Sum.inl ((List.take (List.length v177) v177), ((List.take (List.length v178) v178), (v179, (v180, (v181, (v182, (v183, (List.take (List.length v184) v184)))))))))
 else none
 else none
 else none
 else none)
noncomputable def endL : Wk → Option Rt := fun (v295, (v296, (v297, (v298, (v299, (v300, (v301, v302))))))) =>
 bif ((decide ((List.length v295) ≤ (List.length v295))) && ((decide ((List.length v296) ≤ (List.length v296))) && (decide ((List.length v302) ≤ (List.length v302))))) then 
 some (((List.take (List.length v295) v295), ((List.take (List.length v296) v296), (v297, (v298, (v299, (v300, v301)))))), ((List.take (List.length v302) v302), (0 : Int)))
 else none
noncomputable def begB (a1 : List Ca) (a2 : List Se) (a3 a4 a5 a6 a7 num now : Int) (K : Wk → Option Rt) : Option Rt :=
 joinO (bindO (queues_MayQueue (a1, (a2, (a3, (a4, (a5, (a6, a7))))))) fun x10 =>
 bif (!x10) then
 outO (some ((([] : List Ca), (([] : List Se), ((0 : Int), ((0 : Int), ((0 : Int), ((0 : Int), (0 : Int))))))), (([] : List Ac), (2 : Int))))
 else
 bindO (queues_within (now, (a7, (1099511627776 : Int)))) fun x11 =>
 bif (!x11) then
 outO (some ((([] : List Ca), (([] : List Se), ((0 : Int), ((0 : Int), ((0 : Int), ((0 : Int), (0 : Int))))))), (([] : List Ac), (2 : Int))))
 else
 bindO (queues_within (num, ((1 : Int), (2147483647 : Int)))) fun x12 =>
 bif (!x12) then
 outO (some ((([] : List Ca), (([] : List Se), ((0 : Int), ((0 : Int), ((0 : Int), ((0 : Int), (0 : Int))))))), (([] : List Ac), (2 : Int))))
 else
 some (Sum.inl ())) fun _ =>
 joinO (bif (decide ((((List.length a1) : Nat) : Int) = (0 : Int))) then
 some (Sum.inl ([] : List Ca))
 else
 bif (decide (((0 : Int) ≤ (((List.length a1) : Nat) : Int)) ∧ (((((List.length a1) : Nat) : Int) ≤ (((List.length a1) : Nat) : Int)) ∧ ((((((List.length a1) : Nat) : Int) * (32 : Int)) ≤ (140737488355328 : Int)) ∧ ((((List.length a1) : Nat) : Int) ≤ (9223372036854775807 : Int)))))) then 
 bif (decide ((Int.toNat (((List.length a1) : Nat) : Int)) ≤ (List.length (List.replicate (Int.toNat (((List.length a1) : Nat) : Int)) ((0 : Int), ((0 : Int), ((0 : Int), (0 : Int)))))))) then 
 bif (decide ((Int.toNat (((List.length a1) : Nat) : Int)) ≤ (List.length (layL (List.replicate (Int.toNat (((List.length a1) : Nat) : Int)) ((0 : Int), ((0 : Int), ((0 : Int), (0 : Int))))) 0 (List.take (Int.toNat (((List.length a1) : Nat) : Int)) a1))))) then 
 some (Sum.inl (List.take (Int.toNat (((List.length a1) : Nat) : Int)) (layL (List.replicate (Int.toNat (((List.length a1) : Nat) : Int)) ((0 : Int), ((0 : Int), ((0 : Int), (0 : Int))))) 0 (List.take (Int.toNat (((List.length a1) : Nat) : Int)) a1))))
 else none
 else none
 else none) fun v13 =>
 joinO (bif (decide ((((List.length a2) : Nat) : Int) = (0 : Int))) then
 some (Sum.inl ([] : List Se))
 else
 bif (decide (((0 : Int) ≤ (((List.length a2) : Nat) : Int)) ∧ (((((List.length a2) : Nat) : Int) ≤ (((List.length a2) : Nat) : Int)) ∧ ((((((List.length a2) : Nat) : Int) * (40 : Int)) ≤ (140737488355328 : Int)) ∧ ((((List.length a2) : Nat) : Int) ≤ (9223372036854775807 : Int)))))) then 
 bif (decide ((Int.toNat (((List.length a2) : Nat) : Int)) ≤ (List.length (List.replicate (Int.toNat (((List.length a2) : Nat) : Int)) ((0 : Int), ((0 : Int), ((0 : Int), ((0 : Int), (0 : Int))))))))) then 
 bif (decide ((Int.toNat (((List.length a2) : Nat) : Int)) ≤ (List.length (layL (List.replicate (Int.toNat (((List.length a2) : Nat) : Int)) ((0 : Int), ((0 : Int), ((0 : Int), ((0 : Int), (0 : Int)))))) 0 (List.take (Int.toNat (((List.length a2) : Nat) : Int)) a2))))) then 
 some (Sum.inl (List.take (Int.toNat (((List.length a2) : Nat) : Int)) (layL (List.replicate (Int.toNat (((List.length a2) : Nat) : Int)) ((0 : Int), ((0 : Int), ((0 : Int), ((0 : Int), (0 : Int)))))) 0 (List.take (Int.toNat (((List.length a2) : Nat) : Int)) a2))))
 else none
 else none
 else none) fun v14 =>
 joinO (joinO (bif ((decide ((List.length v13) ≤ (List.length v13))) && (decide ((List.length v14) ≤ (List.length v14)))) then 
 loopO (passB now) ((List.take (List.length v13) v13), ((List.take (List.length v14) v14), (a3, (a4, (a5, (a6, (a7, ([] : List Ac))))))))
 else none) fun (v185, (v186, (v187, (v188, (v189, (v190, (v191, v192))))))) =>
 bif ((decide ((List.length v185) ≤ (List.length v185))) && ((decide ((List.length v186) ≤ (List.length v186))) && (decide ((List.length v192) ≤ (List.length v192))))) then 
 some (Sum.inl ((List.take (List.length v185) v185), ((List.take (List.length v186) v186), (v187, (v188, (v189, (v190, (now, (List.take (List.length v192) v192)))))))))
 else none) K
noncomputable def leaveR (a8 a9 : Int) : Wk → Option Rt := fun (v193, (v194, (v195, (v196, (v197, (v198, (v199, v200))))))) =>
 bif ((decide ((List.length v193) ≤ (List.length v193))) && (decide ((List.length v194) ≤ (List.length v194)))) then 
 bindO (queues_callerOf (((List.take (List.length v193) v193), ((List.take (List.length v194) v194), (v195, (v196, (v197, (v198, v199)))))), a8)) fun x201 =>
 bif (decide (x201 < (0 : Int))) then
 some ((([] : List Ca), (([] : List Se), ((0 : Int), ((0 : Int), ((0 : Int), ((0 : Int), (0 : Int))))))), (([] : List Ac), (8 : Int)))
 else
 joinO (joinO (bif (decide (((0 : Int) ≤ x201) ∧ (x201 < (((List.length v193) : Nat) : Int)))) then 
 bindO v193[(Int.toNat x201)]? fun x202 =>
 bif (decide (x202.2.2.2 ≠ (0 : Int))) then
 bif ((decide ((List.length v193) ≤ (List.length v193))) && (decide ((List.length v194) ≤ (List.length v194)))) then 
 bindO (queues_seatOf (((List.take (List.length v193) v193), ((List.take (List.length v194) v194), (v195, (v196, (v197, (v198, v199)))))), x202.2.2.2)) fun x203 =>
 joinO (bif (decide (((0 : Int) ≤ x203) ∧ (x203 < (((List.length v194) : Nat) : Int)))) then 
 bindO v194[(Int.toNat x203)]? fun x204 =>
 joinO (bif ((decide ((List.length v193) ≤ (List.length v193))) && (decide ((List.length v194) ≤ (List.length v194)))) then 
 bindO (queues_callerOf (((List.take (List.length v193) v193), ((List.take (List.length v194) v194), (v195, (v196, (v197, (v198, v199)))))), x204.2.2.2.1)) fun x205 =>
 bif (decide (x205 ≥ (0 : Int))) then
 bif (decide (((0 : Int) ≤ x205) ∧ (x205 < (((List.length v193) : Nat) : Int)))) then 
 bindO v193[(Int.toNat x205)]? fun x206 =>
 some (Sum.inl (List.set v193 (Int.toNat x205) (x206.1, (x206.2.1, (x206.2.2.1, (0 : Int))))))
 else none
 else
 some (Sum.inl v193)
 else none) fun v207 =>
 bif (decide ((List.length v200) ≤ (List.length v200))) then 
 bif (decide (((List.length ((List.take (List.length v200) v200) ++ (((2 : Int), (x204.2.2.2.1, x204.1)) :: ([] : List Ac)))) * 24) ≤ 140737488355328)) then 
 bindO (some ((List.take (List.length v200) v200) ++ (((2 : Int), (x204.2.2.2.1, x204.1)) :: ([] : List Ac)))) fun x208 =>
 bif ((decide ((List.length v193) ≤ (List.length v207))) && ((decide ((List.length v194) ≤ (List.length v194))) && (decide ((List.length x208) ≤ (List.length x208))))) then 
 some (Sum.inl ((List.take (List.length v193) v207), ((List.take (List.length v194) v194), (v195, (v196, (v197, (v198, (v199, (List.take (List.length x208) x208)))))))))
 else none
 else none
 else none
 else none) fun (v209, (v210, (v211, (v212, (v213, (v214, (v215, v216))))))) =>
 bif (decide (((0 : Int) ≤ x203) ∧ (x203 < (((List.length v210) : Nat) : Int)))) then 
 bindO v210[(Int.toNat x203)]? fun x217 =>
 bindO (List.set v210 (Int.toNat x203) (x217.1, ((1 : Int), (x217.2.2.1, (x217.2.2.2.1, x217.2.2.2.2)))))[(Int.toNat x203)]? fun x218 =>
 bindO (List.set (List.set v210 (Int.toNat x203) (x217.1, ((1 : Int), (x217.2.2.1, (x217.2.2.2.1, x217.2.2.2.2))))) (Int.toNat x203) (x218.1, (x218.2.1, (v215, (x218.2.2.2.1, x218.2.2.2.2)))))[(Int.toNat x203)]? fun x219 =>
 bif ((decide ((List.length v209) ≤ (List.length v209))) && ((decide ((List.length v210) ≤ (List.length (List.set (List.set (List.set v210 (Int.toNat x203) (x217.1, ((1 : Int), (x217.2.2.1, (x217.2.2.2.1, x217.2.2.2.2))))) (Int.toNat x203) (x218.1, (x218.2.1, (v215, (x218.2.2.2.1, x218.2.2.2.2))))) (Int.toNat x203) (x219.1, (x219.2.1, (x219.2.2.1, ((0 : Int), x219.2.2.2.2)))))))) && (decide ((List.length v216) ≤ (List.length v216))))) then 
 some (Sum.inl ((List.take (List.length v209) v209), ((List.take (List.length v210) (List.set (List.set (List.set v210 (Int.toNat x203) (x217.1, ((1 : Int), (x217.2.2.1, (x217.2.2.2.1, x217.2.2.2.2))))) (Int.toNat x203) (x218.1, (x218.2.1, (v215, (x218.2.2.2.1, x218.2.2.2.2))))) (Int.toNat x203) (x219.1, (x219.2.1, (x219.2.2.1, ((0 : Int), x219.2.2.2.2)))))), (v211, (v212, (v213, (v214, (v215, (List.take (List.length v216) v216)))))))))
 else none
 else none
 else none
 else
 bif ((decide ((List.length v193) ≤ (List.length v193))) && ((decide ((List.length v194) ≤ (List.length v194))) && (decide ((List.length v200) ≤ (List.length v200))))) then 
 some (Sum.inl ((List.take (List.length v193) v193), ((List.take (List.length v194) v194), (v195, (v196, (v197, (v198, (v199, (List.take (List.length v200) v200)))))))))
 else none
 else none) fun (v220, (v221, (v222, (v223, (v224, (v225, (v226, v227))))))) =>
 bif (decide (((0 : Int) ≤ x201) ∧ (x201 ≤ (((List.length v220) : Nat) : Int)))) then 
 bindO (some (Go.IntKind.wrap .i64 (x201 + (1 : Int)))) fun x228 =>
 bif (decide (((0 : Int) ≤ x228) ∧ (x228 ≤ (((List.length v220) : Nat) : Int)))) then 
 bif ((decide (((Int.toNat x228) + ((List.length v220) - (Int.toNat x228))) ≤ (List.length v220))) && (decide ((Int.toNat x201) ≤ (List.length v220)))) then 
 bif (decide (((List.length ((List.take (Int.toNat x201) v220) ++ (List.take ((List.length v220) - (Int.toNat x228)) (List.drop (Int.toNat x228) v220)))) * 32) ≤ 140737488355328)) then 
 bindO (some ((List.take (Int.toNat x201) v220) ++ (List.take ((List.length v220) - (Int.toNat x228)) (List.drop (Int.toNat x228) v220)))) fun x229 =>
 bif ((decide ((List.length x229) ≤ (List.length x229))) && ((decide ((List.length v221) ≤ (List.length v221))) && (decide ((List.length v227) ≤ (List.length v227))))) then 
 some (Sum.inl ((List.take (List.length x229) x229), ((List.take (List.length v221) v221), (v222, (v223, (v224, (v225, (v226, (List.take (List.length v227) v227)))))))))
 else none
 else none
 else none
 else none
 else none) fun (v230, (v231, (v232, (v233, (v234, (v235, (v236, v237))))))) =>
 joinO (bif ((decide ((List.length v230) ≤ (List.length v230))) && ((decide ((List.length v231) ≤ (List.length v231))) && (decide ((List.length v237) ≤ (List.length v237))))) then 
 loopO matchB ((List.take (List.length v230) v230), ((List.take (List.length v231) v231), (v232, (v233, (v234, (v235, (v236, (List.take (List.length v237) v237))))))))
 else none) endL
 else none
noncomputable def advanceR (a8 : Int) : Wk → Option Rt := fun (v192, (v193, (v194, (v195, (v196, (v197, (v198, v199))))))) =>
 joinO (bif ((decide ((List.length v192) ≤ (List.length v192))) && ((decide ((List.length v193) ≤ (List.length v193))) && (decide ((List.length v199) ≤ (List.length v199))))) then 
 loopO matchB ((List.take (List.length v192) v192), ((List.take (List.length v193) v193), (v194, (v195, (v196, (v197, (v198, (List.take (List.length v199) v199))))))))
 else none) endL
noncomputable def joinR (a8 a9 a10 : Int) : Wk → Option Rt := fun (v194, (v195, (v196, (v197, (v198, (v199, (v200, v201))))))) =>
 bindO (queues_within (a9, ((0 : Int), (10 : Int)))) fun x202 =>
 bif (!x202) then
 some ((([] : List Ca), (([] : List Se), ((0 : Int), ((0 : Int), ((0 : Int), ((0 : Int), (0 : Int))))))), (([] : List Ac), (2 : Int)))
 else
 bif ((decide ((List.length v194) ≤ (List.length v194))) && (decide ((List.length v195) ≤ (List.length v195)))) then 
 bindO (queues_callerOf (((List.take (List.length v194) v194), ((List.take (List.length v195) v195), (v196, (v197, (v198, (v199, v200)))))), a8)) fun x203 =>
 bif (decide (x203 ≥ (0 : Int))) then
 some ((([] : List Ca), (([] : List Se), ((0 : Int), ((0 : Int), ((0 : Int), ((0 : Int), (0 : Int))))))), (([] : List Ac), (7 : Int)))
 else
 bif (decide ((List.length v195) ≤ (List.length v195))) then 
 bindO (queues_busy ((List.take (List.length v195) v195), a8)) fun x204 =>
 bif x204 then
 some ((([] : List Ca), (([] : List Se), ((0 : Int), ((0 : Int), ((0 : Int), ((0 : Int), (0 : Int))))))), (([] : List Ac), (7 : Int)))
 else
 bif (decide ((((List.length v194) : Nat) : Int) ≥ v196)) then
 some ((([] : List Ca), (([] : List Se), ((0 : Int), ((0 : Int), ((0 : Int), ((0 : Int), (0 : Int))))))), (([] : List Ac), (10 : Int)))
 else
 bif (decide ((List.length v194) ≤ (List.length v194))) then 
 bif (decide (((List.length ((List.take (List.length v194) v194) ++ ((a8, (a9, (a10, (0 : Int)))) :: ([] : List Ca)))) * 32) ≤ 140737488355328)) then 
 bindO (some ((List.take (List.length v194) v194) ++ ((a8, (a9, (a10, (0 : Int)))) :: ([] : List Ca)))) fun x205 =>
 joinO (bif ((decide ((List.length x205) ≤ (List.length x205))) && ((decide ((List.length v195) ≤ (List.length v195))) && (decide ((List.length v201) ≤ (List.length v201))))) then 
 loopO matchB ((List.take (List.length x205) x205), ((List.take (List.length v195) v195), (v196, (v197, (v198, (v199, (v200, (List.take (List.length v201) v201))))))))
 else none) endL
 else none
 else none
 else none
 else none
noncomputable def swapB {δ : Type} (x202 : List Se) (a8 : Int) : (Int × List Se) → Option ((Int × List Se) ⊕ (List Se ⊕ δ)) :=
(fun (v204, v205) =>
 bif (decide (v204 > (0 : Int))) then
 bindO (some (Go.IntKind.wrap .i64 (v204 - (1 : Int)))) fun x206 =>
 bif (decide (((0 : Int) ≤ x206) ∧ (x206 < (((List.length x202) : Nat) : Int)))) then 
 bindO v205[(Int.toNat x206)]? fun x207 =>
 bif (decide (x207.1 > a8)) then
 bindO (some (Go.IntKind.wrap .i64 (v204 - (1 : Int)))) fun x208 =>
 bindO (some (Go.IntKind.wrap .i64 (v204 - (1 : Int)))) fun x209 =>
 bif (decide (((0 : Int) ≤ x209) ∧ (x209 < (((List.length x202) : Nat) : Int)))) then 
 bindO v205[(Int.toNat x209)]? fun x210 =>
 bif (decide (((0 : Int) ≤ v204) ∧ (v204 < (((List.length x202) : Nat) : Int)))) then 
 bindO v205[(Int.toNat v204)]? fun x211 =>
 bif (decide (((0 : Int) ≤ v204) ∧ (v204 < (((List.length x202) : Nat) : Int)))) then 
 bindO v205[(Int.toNat v204)]? fun x212 =>
 bif (decide (((0 : Int) ≤ x208) ∧ (x208 < (((List.length x202) : Nat) : Int)))) then 
 bindO (List.set v205 (Int.toNat v204) (x210.1, (x210.2.1, (x210.2.2.1, (x210.2.2.2.1, x210.2.2.2.2)))))[(Int.toNat x208)]? fun x213 =>
 some (Sum.inl ((Go.IntKind.wrap .i64 (v204 - (1 : Int))), (List.set (List.set v205 (Int.toNat v204) (x210.1, (x210.2.1, (x210.2.2.1, (x210.2.2.2.1, x210.2.2.2.2))))) (Int.toNat x208) (x211.1, (x211.2.1, (x211.2.2.1, (x211.2.2.2.1, x211.2.2.2.2)))))))
 else none
 else none
 else none
 else none
 else
 outO (some (Sum.inl v205))
 else none
 else
 outO (some (Sum.inl v205)))
noncomputable def loginR (a8 a9 : Int) : Wk → Option Rt := fun (v193, (v194, (v195, (v196, (v197, (v198, (v199, v200))))))) =>
 bif ((decide ((List.length v193) ≤ (List.length v193))) && (decide ((List.length v194) ≤ (List.length v194)))) then 
 bindO (queues_seatOf (((List.take (List.length v193) v193), ((List.take (List.length v194) v194), (v195, (v196, (v197, (v198, v199)))))), a8)) fun x201 =>
 bif (decide (x201 ≥ (0 : Int))) then
 some ((([] : List Ca), (([] : List Se), ((0 : Int), ((0 : Int), ((0 : Int), ((0 : Int), (0 : Int))))))), (([] : List Ac), (7 : Int)))
 else
 bif (decide ((((List.length v194) : Nat) : Int) ≥ (100 : Int))) then
 some ((([] : List Ca), (([] : List Se), ((0 : Int), ((0 : Int), ((0 : Int), ((0 : Int), (0 : Int))))))), (([] : List Ac), (10 : Int)))
 else
 bif (decide ((List.length v194) ≤ (List.length v194))) then 
 bif (decide (((List.length ((List.take (List.length v194) v194) ++ ((a8, ((1 : Int), (a9, ((0 : Int), (0 : Int))))) :: ([] : List Se)))) * 40) ≤ 140737488355328)) then 
 bindO (some ((List.take (List.length v194) v194) ++ ((a8, ((1 : Int), (a9, ((0 : Int), (0 : Int))))) :: ([] : List Se)))) fun x202 =>
 joinO (loopO (swapB x202 a8) ((Go.IntKind.wrap .i64 ((((List.length x202) : Nat) : Int) - (1 : Int))), x202)) fun v215 =>
 joinO (bif ((decide ((List.length v193) ≤ (List.length v193))) && ((decide ((List.length x202) ≤ (List.length v215))) && (decide ((List.length v200) ≤ (List.length v200))))) then 
 loopO matchB ((List.take (List.length v193) v193), ((List.take (List.length x202) v215), (v195, (v196, (v197, (v198, (v199, (List.take (List.length v200) v200))))))))
 else none) endL
 else none
 else none
 else none
noncomputable def logoutR (a8 a9 : Int) : Wk → Option Rt := fun (v193, (v194, (v195, (v196, (v197, (v198, (v199, v200))))))) =>
 bif ((decide ((List.length v193) ≤ (List.length v193))) && (decide ((List.length v194) ≤ (List.length v194)))) then 
 bindO (queues_seatOf (((List.take (List.length v193) v193), ((List.take (List.length v194) v194), (v195, (v196, (v197, (v198, v199)))))), a8)) fun x201 =>
 bif (decide (x201 < (0 : Int))) then
 some ((([] : List Ca), (([] : List Se), ((0 : Int), ((0 : Int), ((0 : Int), ((0 : Int), (0 : Int))))))), (([] : List Ac), (8 : Int)))
 else
 joinO (bif (decide (((0 : Int) ≤ x201) ∧ (x201 < (((List.length v194) : Nat) : Int)))) then 
 bindO v194[(Int.toNat x201)]? fun x202 =>
 bif (decide (x202.2.1 = (3 : Int))) then
 outO (some ((([] : List Ca), (([] : List Se), ((0 : Int), ((0 : Int), ((0 : Int), ((0 : Int), (0 : Int))))))), (([] : List Ac), (9 : Int))))
 else
 bif (decide (x202.2.1 = (2 : Int))) then
 joinO (bif (decide (((0 : Int) ≤ x201) ∧ (x201 < (((List.length v194) : Nat) : Int)))) then 
 bindO v194[(Int.toNat x201)]? fun x203 =>
 joinO (bif ((decide ((List.length v193) ≤ (List.length v193))) && (decide ((List.length v194) ≤ (List.length v194)))) then 
 bindO (queues_callerOf (((List.take (List.length v193) v193), ((List.take (List.length v194) v194), (v195, (v196, (v197, (v198, v199)))))), x203.2.2.2.1)) fun x204 =>
 bif (decide (x204 ≥ (0 : Int))) then
 bif (decide (((0 : Int) ≤ x204) ∧ (x204 < (((List.length v193) : Nat) : Int)))) then 
 bindO v193[(Int.toNat x204)]? fun x205 =>
 some (Sum.inl (List.set v193 (Int.toNat x204) (x205.1, (x205.2.1, (x205.2.2.1, (0 : Int))))))
 else none
 else
 some (Sum.inl v193)
 else none) fun v206 =>
 bif (decide ((List.length v200) ≤ (List.length v200))) then 
 bif (decide (((List.length ((List.take (List.length v200) v200) ++ (((2 : Int), (x203.2.2.2.1, x203.1)) :: ([] : List Ac)))) * 24) ≤ 140737488355328)) then 
 bindO (some ((List.take (List.length v200) v200) ++ (((2 : Int), (x203.2.2.2.1, x203.1)) :: ([] : List Ac)))) fun x207 =>
 bif ((decide ((List.length v193) ≤ (List.length v206))) && ((decide ((List.length v194) ≤ (List.length v194))) && (decide ((List.length x207) ≤ (List.length x207))))) then 
 some (Sum.inl ((List.take (List.length v193) v206), ((List.take (List.length v194) v194), (v195, (v196, (v197, (v198, (v199, (List.take (List.length x207) x207)))))))))
 else none
 else none
 else none
 else none) fun (v208, (v209, (v210, (v211, (v212, (v213, (v214, v215))))))) =>
 bif ((decide ((List.length v208) ≤ (List.length v208))) && ((decide ((List.length v209) ≤ (List.length v209))) && (decide ((List.length v215) ≤ (List.length v215))))) then 
 some (Sum.inl ((List.take (List.length v208) v208), ((List.take (List.length v209) v209), (v210, (v211, (v212, (v213, (v214, (List.take (List.length v215) v215)))))))))
 else none
 else
 bif ((decide ((List.length v193) ≤ (List.length v193))) && ((decide ((List.length v194) ≤ (List.length v194))) && (decide ((List.length v200) ≤ (List.length v200))))) then 
 some (Sum.inl ((List.take (List.length v193) v193), ((List.take (List.length v194) v194), (v195, (v196, (v197, (v198, (v199, (List.take (List.length v200) v200)))))))))
 else none
 else none) fun (v216, (v217, (v218, (v219, (v220, (v221, (v222, v223))))))) =>
 bif (decide (((0 : Int) ≤ x201) ∧ (x201 ≤ (((List.length v217) : Nat) : Int)))) then 
 bindO (some (Go.IntKind.wrap .i64 (x201 + (1 : Int)))) fun x224 =>
 bif (decide (((0 : Int) ≤ x224) ∧ (x224 ≤ (((List.length v217) : Nat) : Int)))) then 
 bif ((decide (((Int.toNat x224) + ((List.length v217) - (Int.toNat x224))) ≤ (List.length v217))) && (decide ((Int.toNat x201) ≤ (List.length v217)))) then 
 bif (decide (((List.length ((List.take (Int.toNat x201) v217) ++ (List.take ((List.length v217) - (Int.toNat x224)) (List.drop (Int.toNat x224) v217)))) * 40) ≤ 140737488355328)) then 
 bindO (some ((List.take (Int.toNat x201) v217) ++ (List.take ((List.length v217) - (Int.toNat x224)) (List.drop (Int.toNat x224) v217)))) fun x225 =>
 joinO (bif ((decide ((List.length v216) ≤ (List.length v216))) && ((decide ((List.length x225) ≤ (List.length x225))) && (decide ((List.length v223) ≤ (List.length v223))))) then 
 loopO matchB ((List.take (List.length v216) v216), ((List.take (List.length x225) x225), (v218, (v219, (v220, (v221, (v222, (List.take (List.length v223) v223))))))))
 else none) endL
 else none
 else none
 else none
 else none
 else none
noncomputable def acceptR (a8 a9 : Int) : Wk → Option Rt := fun (v193, (v194, (v195, (v196, (v197, (v198, (v199, v200))))))) =>
 bif ((decide ((List.length v193) ≤ (List.length v193))) && (decide ((List.length v194) ≤ (List.length v194)))) then 
 bindO (queues_seatOf (((List.take (List.length v193) v193), ((List.take (List.length v194) v194), (v195, (v196, (v197, (v198, v199)))))), a8)) fun x201 =>
 bif (decide (x201 < (0 : Int))) then
 some ((([] : List Ca), (([] : List Se), ((0 : Int), ((0 : Int), ((0 : Int), ((0 : Int), (0 : Int))))))), (([] : List Ac), (8 : Int)))
 else
 bif (decide (((0 : Int) ≤ x201) ∧ (x201 < (((List.length v194) : Nat) : Int)))) then 
 bindO v194[(Int.toNat x201)]? fun x202 =>
 bif (decide (x202.2.1 ≠ (2 : Int))) then
 some ((([] : List Ca), (([] : List Se), ((0 : Int), ((0 : Int), ((0 : Int), ((0 : Int), (0 : Int))))))), (([] : List Ac), (9 : Int)))
 else
 bindO v194[(Int.toNat x201)]? fun x203 =>
 bif ((decide ((List.length v193) ≤ (List.length v193))) && (decide ((List.length v194) ≤ (List.length v194)))) then 
 bindO (queues_callerOf (((List.take (List.length v193) v193), ((List.take (List.length v194) v194), (v195, (v196, (v197, (v198, v199)))))), x203.2.2.2.1)) fun x204 =>
 bif (decide (((0 : Int) ≤ x204) ∧ (x204 ≤ (((List.length v193) : Nat) : Int)))) then 
 bindO (some (Go.IntKind.wrap .i64 (x204 + (1 : Int)))) fun x205 =>
 bif (decide (((0 : Int) ≤ x205) ∧ (x205 ≤ (((List.length v193) : Nat) : Int)))) then 
 bif ((decide (((Int.toNat x205) + ((List.length v193) - (Int.toNat x205))) ≤ (List.length v193))) && (decide ((Int.toNat x204) ≤ (List.length v193)))) then 
 bif (decide (((List.length ((List.take (Int.toNat x204) v193) ++ (List.take ((List.length v193) - (Int.toNat x205)) (List.drop (Int.toNat x205) v193)))) * 32) ≤ 140737488355328)) then 
 bindO (some ((List.take (Int.toNat x204) v193) ++ (List.take ((List.length v193) - (Int.toNat x205)) (List.drop (Int.toNat x205) v193)))) fun x206 =>
 bindO v194[(Int.toNat x201)]? fun x207 =>
 bindO (List.set v194 (Int.toNat x201) (x207.1, ((3 : Int), (x207.2.2.1, (x207.2.2.2.1, x207.2.2.2.2)))))[(Int.toNat x201)]? fun x208 =>
 bindO (List.set (List.set v194 (Int.toNat x201) (x207.1, ((3 : Int), (x207.2.2.1, (x207.2.2.2.1, x207.2.2.2.2))))) (Int.toNat x201) (x208.1, (x208.2.1, (a9, (x208.2.2.2.1, x208.2.2.2.2)))))[(Int.toNat x201)]? fun x209 =>
 bindO (some (Go.IntKind.wrap .i64 (x209.2.2.2.2 + (1 : Int)))) fun x210 =>
 bindO (List.set (List.set v194 (Int.toNat x201) (x207.1, ((3 : Int), (x207.2.2.1, (x207.2.2.2.1, x207.2.2.2.2))))) (Int.toNat x201) (x208.1, (x208.2.1, (a9, (x208.2.2.2.1, x208.2.2.2.2)))))[(Int.toNat x201)]? fun x211 =>
 bindO (List.set (List.set (List.set v194 (Int.toNat x201) (x207.1, ((3 : Int), (x207.2.2.1, (x207.2.2.2.1, x207.2.2.2.2))))) (Int.toNat x201) (x208.1, (x208.2.1, (a9, (x208.2.2.2.1, x208.2.2.2.2))))) (Int.toNat x201) (x211.1, (x211.2.1, (x211.2.2.1, (x211.2.2.2.1, (minA x210 (2147483647 : Int)))))))[(Int.toNat x201)]? fun x212 =>
 bif (decide ((List.length v200) ≤ (List.length v200))) then 
 bif (decide (((List.length ((List.take (List.length v200) v200) ++ (((3 : Int), (x212.2.2.2.1, a8)) :: ([] : List Ac)))) * 24) ≤ 140737488355328)) then 
 bindO (some ((List.take (List.length v200) v200) ++ (((3 : Int), (x212.2.2.2.1, a8)) :: ([] : List Ac)))) fun x213 =>
 joinO (bif ((decide ((List.length x206) ≤ (List.length x206))) && ((decide ((List.length v194) ≤ (List.length (List.set (List.set (List.set v194 (Int.toNat x201) (x207.1, ((3 : Int), (x207.2.2.1, (x207.2.2.2.1, x207.2.2.2.2))))) (Int.toNat x201) (x208.1, (x208.2.1, (a9, (x208.2.2.2.1, x208.2.2.2.2))))) (Int.toNat x201) (x211.1, (x211.2.1, (x211.2.2.1, (x211.2.2.2.1, (minA x210 (2147483647 : Int)))))))))) && (decide ((List.length x213) ≤ (List.length x213))))) then 
 loopO matchB ((List.take (List.length x206) x206), ((List.take (List.length v194) (List.set (List.set (List.set v194 (Int.toNat x201) (x207.1, ((3 : Int), (x207.2.2.1, (x207.2.2.2.1, x207.2.2.2.2))))) (Int.toNat x201) (x208.1, (x208.2.1, (a9, (x208.2.2.2.1, x208.2.2.2.2))))) (Int.toNat x201) (x211.1, (x211.2.1, (x211.2.2.1, (x211.2.2.2.1, (minA x210 (2147483647 : Int)))))))), (v195, (v196, (v197, (v198, (v199, (List.take (List.length x213) x213))))))))
 else none) endL
 else none
 else none
 else none
 else none
 else none
 else none
 else none
 else none
 else none
noncomputable def refuseR (a8 a9 : Int) : Wk → Option Rt := fun (v193, (v194, (v195, (v196, (v197, (v198, (v199, v200))))))) =>
 bif ((decide ((List.length v193) ≤ (List.length v193))) && (decide ((List.length v194) ≤ (List.length v194)))) then 
 bindO (queues_seatOf (((List.take (List.length v193) v193), ((List.take (List.length v194) v194), (v195, (v196, (v197, (v198, v199)))))), a8)) fun x201 =>
 bif (decide (x201 < (0 : Int))) then
 some ((([] : List Ca), (([] : List Se), ((0 : Int), ((0 : Int), ((0 : Int), ((0 : Int), (0 : Int))))))), (([] : List Ac), (8 : Int)))
 else
 bif (decide (((0 : Int) ≤ x201) ∧ (x201 < (((List.length v194) : Nat) : Int)))) then 
 bindO v194[(Int.toNat x201)]? fun x202 =>
 bif (decide (x202.2.1 ≠ (2 : Int))) then
 some ((([] : List Ca), (([] : List Se), ((0 : Int), ((0 : Int), ((0 : Int), ((0 : Int), (0 : Int))))))), (([] : List Ac), (9 : Int)))
 else
 joinO (bif (decide (((0 : Int) ≤ x201) ∧ (x201 < (((List.length v194) : Nat) : Int)))) then 
 bindO v194[(Int.toNat x201)]? fun x203 =>
 joinO (bif ((decide ((List.length v193) ≤ (List.length v193))) && (decide ((List.length v194) ≤ (List.length v194)))) then 
 bindO (queues_callerOf (((List.take (List.length v193) v193), ((List.take (List.length v194) v194), (v195, (v196, (v197, (v198, v199)))))), x203.2.2.2.1)) fun x204 =>
 bif (decide (x204 ≥ (0 : Int))) then
 bif (decide (((0 : Int) ≤ x204) ∧ (x204 < (((List.length v193) : Nat) : Int)))) then 
 bindO v193[(Int.toNat x204)]? fun x205 =>
 some (Sum.inl (List.set v193 (Int.toNat x204) (x205.1, (x205.2.1, (x205.2.2.1, (0 : Int))))))
 else none
 else
 some (Sum.inl v193)
 else none) fun v206 =>
 bif (decide ((List.length v200) ≤ (List.length v200))) then 
 bif (decide (((List.length ((List.take (List.length v200) v200) ++ (((2 : Int), (x203.2.2.2.1, x203.1)) :: ([] : List Ac)))) * 24) ≤ 140737488355328)) then 
 bindO (some ((List.take (List.length v200) v200) ++ (((2 : Int), (x203.2.2.2.1, x203.1)) :: ([] : List Ac)))) fun x207 =>
 bif ((decide ((List.length v193) ≤ (List.length v206))) && ((decide ((List.length v194) ≤ (List.length v194))) && (decide ((List.length x207) ≤ (List.length x207))))) then 
 some (Sum.inl ((List.take (List.length v193) v206), ((List.take (List.length v194) v194), (v195, (v196, (v197, (v198, (v199, (List.take (List.length x207) x207)))))))))
 else none
 else none
 else none
 else none) fun (v208, (v209, (v210, (v211, (v212, (v213, (v214, v215))))))) =>
 bif (decide (((0 : Int) ≤ x201) ∧ (x201 < (((List.length v209) : Nat) : Int)))) then 
 bindO v209[(Int.toNat x201)]? fun x216 =>
 bindO (List.set v209 (Int.toNat x201) (x216.1, ((4 : Int), (x216.2.2.1, (x216.2.2.2.1, x216.2.2.2.2)))))[(Int.toNat x201)]? fun x217 =>
 bindO (List.set (List.set v209 (Int.toNat x201) (x216.1, ((4 : Int), (x216.2.2.1, (x216.2.2.2.1, x216.2.2.2.2))))) (Int.toNat x201) (x217.1, (x217.2.1, (v214, (x217.2.2.2.1, x217.2.2.2.2)))))[(Int.toNat x201)]? fun x218 =>
 joinO (bif ((decide ((List.length v208) ≤ (List.length v208))) && ((decide ((List.length v209) ≤ (List.length (List.set (List.set (List.set v209 (Int.toNat x201) (x216.1, ((4 : Int), (x216.2.2.1, (x216.2.2.2.1, x216.2.2.2.2))))) (Int.toNat x201) (x217.1, (x217.2.1, (v214, (x217.2.2.2.1, x217.2.2.2.2))))) (Int.toNat x201) (x218.1, (x218.2.1, (x218.2.2.1, ((0 : Int), x218.2.2.2.2)))))))) && (decide ((List.length v215) ≤ (List.length v215))))) then 
 loopO matchB ((List.take (List.length v208) v208), ((List.take (List.length v209) (List.set (List.set (List.set v209 (Int.toNat x201) (x216.1, ((4 : Int), (x216.2.2.1, (x216.2.2.2.1, x216.2.2.2.2))))) (Int.toNat x201) (x217.1, (x217.2.1, (v214, (x217.2.2.2.1, x217.2.2.2.2))))) (Int.toNat x201) (x218.1, (x218.2.1, (x218.2.2.1, ((0 : Int), x218.2.2.2.2)))))), (v210, (v211, (v212, (v213, (v214, (List.take (List.length v215) v215))))))))
 else none) endL
 else none
 else none
 else none
noncomputable def doneR (a8 a9 : Int) : Wk → Option Rt := fun (v193, (v194, (v195, (v196, (v197, (v198, (v199, v200))))))) =>
 bif ((decide ((List.length v193) ≤ (List.length v193))) && (decide ((List.length v194) ≤ (List.length v194)))) then 
 bindO (queues_seatOf (((List.take (List.length v193) v193), ((List.take (List.length v194) v194), (v195, (v196, (v197, (v198, v199)))))), a8)) fun x201 =>
 bif (decide (x201 < (0 : Int))) then
 some ((([] : List Ca), (([] : List Se), ((0 : Int), ((0 : Int), ((0 : Int), ((0 : Int), (0 : Int))))))), (([] : List Ac), (8 : Int)))
 else
 bif (decide (((0 : Int) ≤ x201) ∧ (x201 < (((List.length v194) : Nat) : Int)))) then 
 bindO v194[(Int.toNat x201)]? fun x202 =>
 bif (decide (x202.2.1 ≠ (3 : Int))) then
 some ((([] : List Ca), (([] : List Se), ((0 : Int), ((0 : Int), ((0 : Int), ((0 : Int), (0 : Int))))))), (([] : List Ac), (9 : Int)))
 else
 bif (decide (((0 : Int) ≤ x201) ∧ (x201 < (((List.length v194) : Nat) : Int)))) then 
 bindO v194[(Int.toNat x201)]? fun x203 =>
 bindO (List.set v194 (Int.toNat x201) (x203.1, ((4 : Int), (x203.2.2.1, (x203.2.2.2.1, x203.2.2.2.2)))))[(Int.toNat x201)]? fun x204 =>
 bindO (List.set (List.set v194 (Int.toNat x201) (x203.1, ((4 : Int), (x203.2.2.1, (x203.2.2.2.1, x203.2.2.2.2))))) (Int.toNat x201) (x204.1, (x204.2.1, (v199, (x204.2.2.2.1, x204.2.2.2.2)))))[(Int.toNat x201)]? fun x205 =>
 joinO (bif ((decide ((List.length v193) ≤ (List.length v193))) && ((decide ((List.length v194) ≤ (List.length (List.set (List.set (List.set v194 (Int.toNat x201) (x203.1, ((4 : Int), (x203.2.2.1, (x203.2.2.2.1, x203.2.2.2.2))))) (Int.toNat x201) (x204.1, (x204.2.1, (v199, (x204.2.2.2.1, x204.2.2.2.2))))) (Int.toNat x201) (x205.1, (x205.2.1, (x205.2.2.1, ((0 : Int), x205.2.2.2.2)))))))) && (decide ((List.length v200) ≤ (List.length v200))))) then 
 loopO matchB ((List.take (List.length v193) v193), ((List.take (List.length v194) (List.set (List.set (List.set v194 (Int.toNat x201) (x203.1, ((4 : Int), (x203.2.2.1, (x203.2.2.2.1, x203.2.2.2.2))))) (Int.toNat x201) (x204.1, (x204.2.1, (v199, (x204.2.2.2.1, x204.2.2.2.2))))) (Int.toNat x201) (x205.1, (x205.2.1, (x205.2.2.1, ((0 : Int), x205.2.2.2.2)))))), (v195, (v196, (v197, (v198, (v199, (List.take (List.length v200) v200))))))))
 else none) endL
 else none
 else none
 else none
end Go.Proofs.Ytkmfgldoljegoaa
