import Derived.Test.YtpbanfkjeiihbaaDoorFp
import Derived.Test.YtpbanfkjeiihbaaDoorXBp
set_option linter.unusedVariables false
set_option maxRecDepth 1000000
set_option maxHeartbeats 0
namespace Go.Proofs.YtpbanfkjeiihbaaDoor
open Go.RowKit
def plan9 : List (Nat × PL) := []
noncomputable def server_Start : PUnit → Option ((Int × (Int × Int)) × (List (Int × (Int × (Int × Int))))) := fun _ =>
 some (((2 : Int), ((0 : Int), (0 : Int))), (((3 : Int), ((0 : Int), ((0 : Int), (0 : Int)))) :: ([] : List (Int × (Int × (Int × Int))))))
noncomputable def cons9 : List (Nat × CE) := []
theorem cons9_ok : ConL Tryd.prog cons9 := trivial
theorem con9 : ConOk Tryd.prog 9 ⟨[], [(.tmp 0 true [(.dat (.int .u8)), (.dat (.int .i64)), (.dat (.int .i64))]), (.tmp 1 false [(.dat (.list (.pair (.int .u8) (.pair (.int .i64) (.pair (.int .u8) (.int .i64))))))])], server_Start⟩ :=
  tree_ok (plan := planOf plan9) (eg := egNo) KK tabL_ok (conOf_ok cons9_ok) Tryd.func9 (by kernel_rfl) (by kernel_rfl) 10000 (fun a r h => Eq.trans (show _ = server_Start a from by kernel_rfl) h)
def plan18 : List (Nat × PL) := []
noncomputable def server_May : (Int × (Int × Int)) → Option Bool := fun (a1, (a2, a3)) =>
 bif (decide (a2 ≠ (0 : Int))) then
 some Bool.false
 else
 bif (decide (a1 = (2 : Int))) then
 some (decide (a3 = (0 : Int)))
 else
 bif (decide (a1 = (3 : Int))) then
 bif (decide (a3 ≥ (100 : Int))) then
 some (decide (a3 ≤ (199 : Int)))
 else
 some Bool.false
 else
 bif (decide (a1 = (5 : Int))) then
 bif (decide (a3 ≥ (200 : Int))) then
 some (decide (a3 ≤ (699 : Int)))
 else
 some Bool.false
 else
 bif (decide (a1 = (7 : Int))) then
 bif (decide (a3 ≥ (100 : Int))) then
 some (decide (a3 ≤ (699 : Int)))
 else
 some Bool.false
 else
 some Bool.false
noncomputable def cons18 : List (Nat × CE) := [(9, ⟨[], [(.tmp 0 true [(.dat (.int .u8)), (.dat (.int .i64)), (.dat (.int .i64))]), (.tmp 1 false [(.dat (.list (.pair (.int .u8) (.pair (.int .i64) (.pair (.int .u8) (.int .i64))))))])], server_Start⟩)]
theorem cons18_ok : ConL Tryd.prog cons18 := ⟨con9, trivial⟩
theorem con18 : ConOk Tryd.prog 18 ⟨[(.tmp 0 true [(.dat (.int .u8)), (.dat (.int .i64)), (.dat (.int .i64))])], [(.tmp 0 false [(.dat .bool)])], server_May⟩ :=
  tree_ok (plan := planOf plan18) (eg := egNo) KK tabL_ok (conOf_ok cons18_ok) Tryd.func18 (by kernel_rfl) (by kernel_rfl) 10000 (fun a r h => Eq.trans (show _ = server_May a from by kernel_rfl) h)
def plan22 : List (Nat × PL) := [(134480385, (.carry [])), (18049651601311750, (.carry [.tmp 12 false [(.dat (.int .i64))]])), (85237069749509028565965992133042372628, (.carry [.tmp 0 false [(.dat .bool)]])), (22344386412415294784396589041724259859693587, (.carry [.tmp 0 true [(.dat (.int .u8)), (.dat (.int .i64)), (.dat (.int .i64))], .tmp 1 false [(.own 10000002 53 (.pair (.int .u8) (.pair (.int .i64) (.pair (.int .u8) (.int .i64)))))]])), (5857446831696195035960859437753764376659515671041, (.carry [.mix 30 [(.dat (.int .u8)), (.dat (.int .i64)), (.dat (.int .i64))]])), (2999012777828451858411960032129927360849672023572993, (.carry [.mix 30 [(.dat (.int .u8)), (.dat (.int .i64)), (.dat (.int .i64))]])), (786173205631061683971544850662667678082576422947518677505, (.carry [.tmp 8 false [(.own 10000001 53 (.pair (.int .u8) (.pair (.int .i64) (.pair (.int .u8) (.int .i64)))))]])), (105518381474277905450514766506042550171278803874383020132151855110, .once), (54025411314830287590663560451093785687694747583684106307661749816838, .once), (27661010593193107246419742950960018272099710762846262429522815906221574, .once)]
noncomputable def server_Step : ((Int × (Int × Int)) × (Int × (Int × Int))) → Option ((Int × (Int × Int)) × (List (Int × (Int × (Int × Int))))) := fun ((a1, (a2, a3)), (a4, (a5, a6))) =>
 bindO (server_May (a1, (a2, a3))) fun x7 =>
 bif (!x7) then
 some (((0 : Int), ((0 : Int), (0 : Int))), ([] : List (Int × (Int × (Int × Int)))))
 else
 joinO (loopO (fun v8 =>
 bif (decide (v8 < (9 : Int))) then
 bif (decide (((0 : Int) ≤ v8) ∧ (v8 < (9 : Int)))) then 
 bindO rowsL[(0 + (Int.toNat v8))]? fun x9 =>
 joinO (bif (decide (x9.1 ≠ a1)) then
 some (Sum.inl Bool.false)
 else
 bif (decide (x9.2.1 ≠ a4)) then
 some (Sum.inl Bool.false)
 else
 bif (decide (a4 = (4 : Int))) then
 bif (decide (a5 ≥ x9.2.2.1)) then
 some (Sum.inl (decide (a5 ≤ x9.2.2.2.1)))
 else
 some (Sum.inl Bool.false)
 else
 bif (decide (a4 = (5 : Int))) then
 some (Sum.inl (decide (a6 = x9.2.2.2.2.1)))
 else
 some (Sum.inl Bool.true)) fun v10 =>
 bif v10 then
 joinO (joinO (bif (decide (x9.2.2.2.2.2.1 ≠ (0 : Int))) then
 some (Sum.inl (x9.2.2.2.2.2.1, (a2, a3)))
 else
 some (Sum.inl (a1, (a2, a3)))) fun (v11, (v12, v13)) =>
 joinO (bif (decide (x9.2.1 = (4 : Int))) then
 some (Sum.inl (v11, (v12, a5)))
 else
 some (Sum.inl (v11, (v12, v13)))) fun (v14, (v15, v16)) =>
 joinO (bif (decide (x9.2.2.2.2.2.2.1 = (0 : Int))) then
 bif (decide (x9.2.2.2.2.2.2.2 = (0 : Int))) then
 some (Sum.inl ([] : List (Int × (Int × (Int × Int)))))
 else
 bif (decide (x9.2.2.2.2.2.2.2 = (1 : Int))) then
 bindO (some ((x9.2.2.2.2.2.2.2, (v16, ((0 : Int), (0 : Int)))) :: ([] : List (Int × (Int × (Int × Int)))))) fun x17 =>
 bif (decide ((List.length x17) ≤ (List.length x17))) then 
 some (Sum.inl (List.take (List.length x17) x17))
 else none
 else
 bif (decide (x9.2.2.2.2.2.2.2 = (4 : Int))) then
 bindO (some ((x9.2.2.2.2.2.2.2, ((0 : Int), ((10 : Int), (32000 : Int)))) :: ([] : List (Int × (Int × (Int × Int)))))) fun x18 =>
 bif (decide ((List.length x18) ≤ (List.length x18))) then 
 some (Sum.inl (List.take (List.length x18) x18))
 else none
 else
 bindO (some ((x9.2.2.2.2.2.2.2, ((0 : Int), ((0 : Int), (0 : Int)))) :: ([] : List (Int × (Int × (Int × Int)))))) fun x19 =>
 bif (decide ((List.length x19) ≤ (List.length x19))) then 
 some (Sum.inl (List.take (List.length x19) x19))
 else none
 else
 bif (decide (x9.2.2.2.2.2.2.1 = (1 : Int))) then
 bindO (some ((x9.2.2.2.2.2.2.1, (v16, ((0 : Int), (0 : Int)))) :: ([] : List (Int × (Int × (Int × Int)))))) fun x20 =>
 bif (decide (x9.2.2.2.2.2.2.2 = (0 : Int))) then
 bif (decide ((List.length x20) ≤ (List.length x20))) then 
 some (Sum.inl (List.take (List.length x20) x20))
 else none
 else
 bif (decide (x9.2.2.2.2.2.2.2 = (1 : Int))) then
 bif (decide ((List.length x20) ≤ (List.length x20))) then 
 bif (decide (((List.length ((List.take (List.length x20) x20) ++ ((x9.2.2.2.2.2.2.2, (v16, ((0 : Int), (0 : Int)))) :: ([] : List (Int × (Int × (Int × Int))))))) * 32) ≤ 140737488355328)) then 
 bindO (some ((List.take (List.length x20) x20) ++ ((x9.2.2.2.2.2.2.2, (v16, ((0 : Int), (0 : Int)))) :: ([] : List (Int × (Int × (Int × Int))))))) fun x21 =>
 bif (decide ((List.length x21) ≤ (List.length x21))) then 
 some (Sum.inl (List.take (List.length x21) x21))
 else none
 else none
 else none
 else
 bif (decide (x9.2.2.2.2.2.2.2 = (4 : Int))) then
 bif (decide ((List.length x20) ≤ (List.length x20))) then 
 bif (decide (((List.length ((List.take (List.length x20) x20) ++ ((x9.2.2.2.2.2.2.2, ((0 : Int), ((10 : Int), (32000 : Int)))) :: ([] : List (Int × (Int × (Int × Int))))))) * 32) ≤ 140737488355328)) then 
 bindO (some ((List.take (List.length x20) x20) ++ ((x9.2.2.2.2.2.2.2, ((0 : Int), ((10 : Int), (32000 : Int)))) :: ([] : List (Int × (Int × (Int × Int))))))) fun x22 =>
 bif (decide ((List.length x22) ≤ (List.length x22))) then 
 some (Sum.inl (List.take (List.length x22) x22))
 else none
 else none
 else none
 else
 bif (decide ((List.length x20) ≤ (List.length x20))) then 
 bif (decide (((List.length ((List.take (List.length x20) x20) ++ ((x9.2.2.2.2.2.2.2, ((0 : Int), ((0 : Int), (0 : Int)))) :: ([] : List (Int × (Int × (Int × Int))))))) * 32) ≤ 140737488355328)) then 
 bindO (some ((List.take (List.length x20) x20) ++ ((x9.2.2.2.2.2.2.2, ((0 : Int), ((0 : Int), (0 : Int)))) :: ([] : List (Int × (Int × (Int × Int))))))) fun x23 =>
 bif (decide ((List.length x23) ≤ (List.length x23))) then 
 some (Sum.inl (List.take (List.length x23) x23))
 else none
 else none
 else none
 else
 bif (decide (x9.2.2.2.2.2.2.1 = (4 : Int))) then
 bindO (some ((x9.2.2.2.2.2.2.1, ((0 : Int), ((10 : Int), (32000 : Int)))) :: ([] : List (Int × (Int × (Int × Int)))))) fun x24 =>
 bif (decide (x9.2.2.2.2.2.2.2 = (0 : Int))) then
 bif (decide ((List.length x24) ≤ (List.length x24))) then 
 some (Sum.inl (List.take (List.length x24) x24))
 else none
 else
 bif (decide (x9.2.2.2.2.2.2.2 = (1 : Int))) then
 bif (decide ((List.length x24) ≤ (List.length x24))) then 
 bif (decide (((List.length ((List.take (List.length x24) x24) ++ ((x9.2.2.2.2.2.2.2, (v16, ((0 : Int), (0 : Int)))) :: ([] : List (Int × (Int × (Int × Int))))))) * 32) ≤ 140737488355328)) then 
 bindO (some ((List.take (List.length x24) x24) ++ ((x9.2.2.2.2.2.2.2, (v16, ((0 : Int), (0 : Int)))) :: ([] : List (Int × (Int × (Int × Int))))))) fun x25 =>
 bif (decide ((List.length x25) ≤ (List.length x25))) then 
 some (Sum.inl (List.take (List.length x25) x25))
 else none
 else none
 else none
 else
 bif (decide (x9.2.2.2.2.2.2.2 = (4 : Int))) then
 bif (decide ((List.length x24) ≤ (List.length x24))) then 
 bif (decide (((List.length ((List.take (List.length x24) x24) ++ ((x9.2.2.2.2.2.2.2, ((0 : Int), ((10 : Int), (32000 : Int)))) :: ([] : List (Int × (Int × (Int × Int))))))) * 32) ≤ 140737488355328)) then 
 bindO (some ((List.take (List.length x24) x24) ++ ((x9.2.2.2.2.2.2.2, ((0 : Int), ((10 : Int), (32000 : Int)))) :: ([] : List (Int × (Int × (Int × Int))))))) fun x26 =>
 bif (decide ((List.length x26) ≤ (List.length x26))) then 
 some (Sum.inl (List.take (List.length x26) x26))
 else none
 else none
 else none
 else
 bif (decide ((List.length x24) ≤ (List.length x24))) then 
 bif (decide (((List.length ((List.take (List.length x24) x24) ++ ((x9.2.2.2.2.2.2.2, ((0 : Int), ((0 : Int), (0 : Int)))) :: ([] : List (Int × (Int × (Int × Int))))))) * 32) ≤ 140737488355328)) then 
 bindO (some ((List.take (List.length x24) x24) ++ ((x9.2.2.2.2.2.2.2, ((0 : Int), ((0 : Int), (0 : Int)))) :: ([] : List (Int × (Int × (Int × Int))))))) fun x27 =>
 bif (decide ((List.length x27) ≤ (List.length x27))) then 
 some (Sum.inl (List.take (List.length x27) x27))
 else none
 else none
 else none
 else
 bindO (some ((x9.2.2.2.2.2.2.1, ((0 : Int), ((0 : Int), (0 : Int)))) :: ([] : List (Int × (Int × (Int × Int)))))) fun x28 =>
 bif (decide (x9.2.2.2.2.2.2.2 = (0 : Int))) then
 bif (decide ((List.length x28) ≤ (List.length x28))) then 
 some (Sum.inl (List.take (List.length x28) x28))
 else none
 else
 bif (decide (x9.2.2.2.2.2.2.2 = (1 : Int))) then
 bif (decide ((List.length x28) ≤ (List.length x28))) then 
 bif (decide (((List.length ((List.take (List.length x28) x28) ++ ((x9.2.2.2.2.2.2.2, (v16, ((0 : Int), (0 : Int)))) :: ([] : List (Int × (Int × (Int × Int))))))) * 32) ≤ 140737488355328)) then 
 bindO (some ((List.take (List.length x28) x28) ++ ((x9.2.2.2.2.2.2.2, (v16, ((0 : Int), (0 : Int)))) :: ([] : List (Int × (Int × (Int × Int))))))) fun x29 =>
 bif (decide ((List.length x29) ≤ (List.length x29))) then 
 some (Sum.inl (List.take (List.length x29) x29))
 else none
 else none
 else none
 else
 bif (decide (x9.2.2.2.2.2.2.2 = (4 : Int))) then
 bif (decide ((List.length x28) ≤ (List.length x28))) then 
 bif (decide (((List.length ((List.take (List.length x28) x28) ++ ((x9.2.2.2.2.2.2.2, ((0 : Int), ((10 : Int), (32000 : Int)))) :: ([] : List (Int × (Int × (Int × Int))))))) * 32) ≤ 140737488355328)) then 
 bindO (some ((List.take (List.length x28) x28) ++ ((x9.2.2.2.2.2.2.2, ((0 : Int), ((10 : Int), (32000 : Int)))) :: ([] : List (Int × (Int × (Int × Int))))))) fun x30 =>
 bif (decide ((List.length x30) ≤ (List.length x30))) then 
 some (Sum.inl (List.take (List.length x30) x30))
 else none
 else none
 else none
 else
 bif (decide ((List.length x28) ≤ (List.length x28))) then 
 bif (decide (((List.length ((List.take (List.length x28) x28) ++ ((x9.2.2.2.2.2.2.2, ((0 : Int), ((0 : Int), (0 : Int)))) :: ([] : List (Int × (Int × (Int × Int))))))) * 32) ≤ 140737488355328)) then 
 bindO (some ((List.take (List.length x28) x28) ++ ((x9.2.2.2.2.2.2.2, ((0 : Int), ((0 : Int), (0 : Int)))) :: ([] : List (Int × (Int × (Int × Int))))))) fun x31 =>
 bif (decide ((List.length x31) ≤ (List.length x31))) then 
 some (Sum.inl (List.take (List.length x31) x31))
 else none
 else none
 else none) fun v32 =>
 bif (decide ((List.length v32) ≤ (List.length v32))) then 
 some (Sum.inl ((v14, (v15, v16)), (List.take (List.length v32) v32)))
 else none) fun ((v33, (v34, v35)), v36) =>
 outO (outO (bif (decide ((List.length v36) ≤ (List.length v36))) then 
 some ((v33, (v34, v35)), (List.take (List.length v36) v36))
 else none))
 else
 some (Sum.inl (Go.IntKind.wrap .i64 (v8 + (1 : Int))))
 else none
 else
 outO (some (Sum.inl ()))) (0 : Int)) fun _ =>
 some ((a1, (a2, a3)), ([] : List (Int × (Int × (Int × Int)))))
noncomputable def cons22 : List (Nat × CE) := [(9, ⟨[], [(.tmp 0 true [(.dat (.int .u8)), (.dat (.int .i64)), (.dat (.int .i64))]), (.tmp 1 false [(.dat (.list (.pair (.int .u8) (.pair (.int .i64) (.pair (.int .u8) (.int .i64))))))])], server_Start⟩), (18, ⟨[(.tmp 0 true [(.dat (.int .u8)), (.dat (.int .i64)), (.dat (.int .i64))])], [(.tmp 0 false [(.dat .bool)])], server_May⟩)]
theorem cons22_ok : ConL Tryd.prog cons22 := ⟨con9, con18, trivial⟩
theorem con22 : ConOk Tryd.prog 22 ⟨[(.tmp 0 true [(.dat (.int .u8)), (.dat (.int .i64)), (.dat (.int .i64))]), (.tmp 1 true [(.dat (.int .u8)), (.dat (.int .i64)), (.dat (.int .u8))])], [(.tmp 0 true [(.dat (.int .u8)), (.dat (.int .i64)), (.dat (.int .i64))]), (.tmp 1 false [(.dat (.list (.pair (.int .u8) (.pair (.int .i64) (.pair (.int .u8) (.int .i64))))))])], server_Step⟩ :=
  tree_ok (plan := planOf plan22) (eg := egNo) KK tabL_ok (conOf_ok cons22_ok) Tryd.func22 (by kernel_rfl) (by kernel_rfl) 10000 (fun a r h => Eq.trans (show _ = server_Step a from by kernel_rfl) h)
end Go.Proofs.YtpbanfkjeiihbaaDoor
