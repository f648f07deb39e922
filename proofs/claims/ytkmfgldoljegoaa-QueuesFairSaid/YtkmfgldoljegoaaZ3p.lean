import Derived.Test.YtkmfgldoljegoaaFp
import Derived.Test.YtkmfgldoljegoaaXBp
import Derived.Test.YtkmfgldoljegoaaM1p
import Derived.Test.YtkmfgldoljegoaaZ0p
set_option linter.unusedVariables false
set_option maxRecDepth 1000000
set_option maxHeartbeats 0
namespace Go.Proofs.Ytkmfgldoljegoaa
open Go.RowKit
def plan55 : List (Nat × PL) := []
noncomputable def queues_bounded : ((List Ca) × ((List Se) × Se)) → Option Bool := fun (a1, (a2, (a3, (a4, (a5, (a6, a7)))))) =>
 bindO (queues_within (a3, ((1 : Int), (100 : Int)))) fun x8 =>
 bif x8 then
 bindO (queues_within (a4, ((0 : Int), (86400000 : Int)))) fun x9 =>
 bif x9 then
 bindO (queues_within (a5, ((1 : Int), (86400000 : Int)))) fun x10 =>
 bif x10 then
 bindO (queues_within (a6, ((0 : Int), (86400000 : Int)))) fun x11 =>
 some x11
 else
 some Bool.false
 else
 some Bool.false
 else
 some Bool.false
noncomputable def cons55 : List (Nat × CE) := (74, ⟨[(.tmp 0 false [qd]), (.tmp 1 false [qd]), (.tmp 2 false [qd])], [(.tmp 0 false [(.dat .bool)])], dialtoneref36_from⟩) :: cons74
theorem cons55_ok : ConL Try.prog cons55 := ⟨con74, cons74_ok⟩
theorem con55 : ConOk Try.prog 55 ⟨[(.tmp 0 true [qdC, qdS, qd, qd, qd, qd, qd])], [(.tmp 0 false [(.dat .bool)])], queues_bounded⟩ :=
  tree_ok (plan := planOf plan55) (eg := egNo) KK tabL_ok (conOf_ok cons55_ok) Try.func55 (by kernel_rfl) (by kernel_rfl) 10000 (fun a r h => Eq.trans (show _ = queues_bounded a from by kernel_rfl) h)
def plan58 : List (Nat × PL) := [(262657, (.carry [])), (35253091829766, (.carry [.tmp 10 false [qd]]))]
noncomputable def queues_callerOf : (((List Ca) × ((List Se) × Se)) × Int) → Option Int := fun ((a1, (a2, (a3, (a4, (a5, (a6, a7)))))), a8) =>
 joinO (loopO (fun v9 =>
 bif (decide (v9 < (((List.length a1) : Nat) : Int))) then
 bif (decide (((0 : Int) ≤ v9) ∧ (v9 < (((List.length a1) : Nat) : Int)))) then 
 bindO a1[(Int.toNat v9)]? fun x10 =>
 bif (decide (x10.1 = a8)) then
 outO (outO (some v9))
 else
 some (Sum.inl (Go.IntKind.wrap .i64 (v9 + (1 : Int))))
 else none
 else
 outO (some (Sum.inl ()))) (0 : Int)) fun _ =>
 some (-1 : Int)
noncomputable def cons58 : List (Nat × CE) := (55, ⟨[(.tmp 0 true [qdC, qdS, qd, qd, qd, qd, qd])], [(.tmp 0 false [(.dat .bool)])], queues_bounded⟩) :: cons55
theorem cons58_ok : ConL Try.prog cons58 := ⟨con55, cons55_ok⟩
theorem con58 : ConOk Try.prog 58 ⟨[(.tmp 0 true [qdC, qdS, qd, qd, qd, qd, qd]), (.tmp 1 false [qd])], [(.tmp 0 false [qd])], queues_callerOf⟩ :=
  tree_ok (plan := planOf plan58) (eg := egNo) KK tabL_ok (conOf_ok cons58_ok) Try.func58 (by kernel_rfl) (by kernel_rfl) 10000 (fun a r h => Eq.trans (show _ = queues_callerOf a from by kernel_rfl) h)
def plan61 : List (Nat × PL) := [(262657, (.carry [])), (35253091829766, (.carry [.tmp 10 false [qd]]))]
noncomputable def queues_seatOf : (((List Ca) × ((List Se) × Se)) × Int) → Option Int := fun ((a1, (a2, (a3, (a4, (a5, (a6, a7)))))), a8) =>
 joinO (loopO (fun v9 =>
 bif (decide (v9 < (((List.length a2) : Nat) : Int))) then
 bif (decide (((0 : Int) ≤ v9) ∧ (v9 < (((List.length a2) : Nat) : Int)))) then 
 bindO a2[(Int.toNat v9)]? fun x10 =>
 bif (decide (x10.1 = a8)) then
 outO (outO (some v9))
 else
 some (Sum.inl (Go.IntKind.wrap .i64 (v9 + (1 : Int))))
 else none
 else
 outO (some (Sum.inl ()))) (0 : Int)) fun _ =>
 some (-1 : Int)
noncomputable def cons61 : List (Nat × CE) := (58, ⟨[(.tmp 0 true [qdC, qdS, qd, qd, qd, qd, qd]), (.tmp 1 false [qd])], [(.tmp 0 false [qd])], queues_callerOf⟩) :: cons58
theorem cons61_ok : ConL Try.prog cons61 := ⟨con58, cons58_ok⟩
theorem con61 : ConOk Try.prog 61 ⟨[(.tmp 0 true [qdC, qdS, qd, qd, qd, qd, qd]), (.tmp 1 false [qd])], [(.tmp 0 false [qd])], queues_seatOf⟩ :=
  tree_ok (plan := planOf plan61) (eg := egNo) KK tabL_ok (conOf_ok cons61_ok) Try.func61 (by kernel_rfl) (by kernel_rfl) 10000 (fun a r h => Eq.trans (show _ = queues_seatOf a from by kernel_rfl) h)
def plan59 : List (Nat × PL) := [(262657, (.carry [])), (35253091829766, (.carry [.tmp 9 false [qd]]))]
noncomputable def queues_busy : ((List Se) × Int) → Option Bool := fun (a1, a2) =>
 joinO (loopO (fun v3 =>
 bif (decide (v3 < (((List.length a1) : Nat) : Int))) then
 bif (decide (((0 : Int) ≤ v3) ∧ (v3 < (((List.length a1) : Nat) : Int)))) then 
 bindO a1[(Int.toNat v3)]? fun x4 =>
 bif (decide (x4.2.1 = (3 : Int))) then
 bif (decide (x4.2.2.2.1 = a2)) then
 outO (outO (some Bool.true))
 else
 some (Sum.inl (Go.IntKind.wrap .i64 (v3 + (1 : Int))))
 else
 some (Sum.inl (Go.IntKind.wrap .i64 (v3 + (1 : Int))))
 else none
 else
 outO (some (Sum.inl ()))) (0 : Int)) fun _ =>
 some Bool.false
noncomputable def cons59 : List (Nat × CE) := (61, ⟨[(.tmp 0 true [qdC, qdS, qd, qd, qd, qd, qd]), (.tmp 1 false [qd])], [(.tmp 0 false [qd])], queues_seatOf⟩) :: cons61
theorem cons59_ok : ConL Try.prog cons59 := ⟨con61, cons61_ok⟩
theorem con59 : ConOk Try.prog 59 ⟨[(.tmp 0 false [qdS]), (.tmp 1 false [qd])], [(.tmp 0 false [(.dat .bool)])], queues_busy⟩ :=
  tree_ok (plan := planOf plan59) (eg := egNo) KK tabL_ok (conOf_ok cons59_ok) Try.func59 (by kernel_rfl) (by kernel_rfl) 10000 (fun a r h => Eq.trans (show _ = queues_busy a from by kernel_rfl) h)
def plan67 : List (Nat × PL) := [(134480385, (.carry [.tmp 3 false [(.own 10000002 115 qtT)]])), (4731607869373997647878, (.carry [.tmp 14 false [qd], .tmp 3 false [(.own 10000001 115 qtT)]])), (68853957121, (.carry [.tmp 3 false [(.own 10000004 115 qtT)], .dead 10000002])), (9241421688456087558, (.carry [.tmp 33 false [qd], .tmp 3 false [(.own 10000003 115 qtT)], .dead 10000002]))]
noncomputable def queues_things : ((List Ca) × ((List Se) × Se)) → Option (List Th) := fun (a1, (a2, (a3, (a4, (a5, (a6, a7)))))) =>
 joinO (bif (decide (a4 ≠ (0 : Int))) then
 loopO (fun (v8, v9) =>
 bif (decide (v8 < (((List.length a1) : Nat) : Int))) then
 bif (decide (((0 : Int) ≤ v8) ∧ (v8 < (((List.length a1) : Nat) : Int)))) then 
 bindO a1[(Int.toNat v8)]? fun x10 =>
 bindO (some (Go.IntKind.wrap .i64 (x10.2.2.1 + a4))) fun x11 =>
 bif (decide ((List.length v9) ≤ (List.length v9))) then 
 bif (decide (((List.length ((List.take (List.length v9) v9) ++ ((x11, (Bool.true, v8)) :: ([] : List Th)))) * 24) ≤ 140737488355328)) then 
 bindO (some ((List.take (List.length v9) v9) ++ ((x11, (Bool.true, v8)) :: ([] : List Th)))) fun x12 =>
 bif (decide ((List.length x12) ≤ (List.length x12))) then 
 some (Sum.inl ((Go.IntKind.wrap .i64 (v8 + (1 : Int))), (List.take (List.length x12) x12)))
 else none
 else none
 else none
 else none
 else
 outO (bif (decide ((List.length v9) ≤ (List.length v9))) then 
 some (Sum.inl (List.take (List.length v9) v9))
 else none)) ((0 : Int), ([] : List Th))
 else
 some (Sum.inl ([] : List Th))) fun v14 =>
 joinO (bif (decide ((List.length v14) ≤ (List.length v14))) then 
 loopO (fun (v15, v16) =>
 bif (decide (v15 < (((List.length a2) : Nat) : Int))) then
 bif (decide (((0 : Int) ≤ v15) ∧ (v15 < (((List.length a2) : Nat) : Int)))) then 
 bindO a2[(Int.toNat v15)]? fun x17 =>
 bif (decide (x17.2.1 = (2 : Int))) then
 bindO (some (Go.IntKind.wrap .i64 (x17.2.2.1 + a5))) fun x18 =>
 bif (decide ((List.length v16) ≤ (List.length v16))) then 
 bif (decide (((List.length ((List.take (List.length v16) v16) ++ ((x18, (Bool.false, v15)) :: ([] : List Th)))) * 24) ≤ 140737488355328)) then 
 bindO (some ((List.take (List.length v16) v16) ++ ((x18, (Bool.false, v15)) :: ([] : List Th)))) fun x19 =>
 bif (decide ((List.length x19) ≤ (List.length x19))) then 
 some (Sum.inl ((Go.IntKind.wrap .i64 (v15 + (1 : Int))), (List.take (List.length x19) x19)))
 else none
 else none
 else none
 else
 bif (decide (x17.2.1 = (4 : Int))) then
 bindO (some (Go.IntKind.wrap .i64 (x17.2.2.1 + a6))) fun x21 =>
 bif (decide ((List.length v16) ≤ (List.length v16))) then 
 bif (decide (((List.length ((List.take (List.length v16) v16) ++ ((x21, (Bool.false, v15)) :: ([] : List Th)))) * 24) ≤ 140737488355328)) then 
 bindO (some ((List.take (List.length v16) v16) ++ ((x21, (Bool.false, v15)) :: ([] : List Th)))) fun x22 =>
 bif (decide ((List.length x22) ≤ (List.length x22))) then 
 some (Sum.inl ((Go.IntKind.wrap .i64 (v15 + (1 : Int))), (List.take (List.length x22) x22)))
 else none
 else none
 else none
 else
 bif (decide ((List.length v16) ≤ (List.length v16))) then 
 some (Sum.inl ((Go.IntKind.wrap .i64 (v15 + (1 : Int))), (List.take (List.length v16) v16)))
 else none
 else none
 else
 outO (bif (decide ((List.length v16) ≤ (List.length v16))) then 
 some (Sum.inl (List.take (List.length v16) v16))
 else none)) ((0 : Int), (List.take (List.length v14) v14))
 else none) fun v25 =>
 bif (decide ((List.length v25) ≤ (List.length v25))) then 
 some (List.take (List.length v25) v25)
 else none
noncomputable def cons67 : List (Nat × CE) := (59, ⟨[(.tmp 0 false [qdS]), (.tmp 1 false [qd])], [(.tmp 0 false [(.dat .bool)])], queues_busy⟩) :: cons59
theorem cons67_ok : ConL Try.prog cons67 := ⟨con59, cons59_ok⟩
theorem con67 : ConOk Try.prog 67 ⟨[(.tmp 0 true [qdC, qdS, qd, qd, qd, qd, qd])], [(.tmp 0 false [(.dat (.list qtT))])], queues_things⟩ :=
  tree_ok (plan := planOf plan67) (eg := egNo) KK tabL_ok (conOf_ok cons67_ok) Try.func67 (by kernel_rfl) (by kernel_rfl) 10000 (fun a r h => Eq.trans (show _ = queues_things a from by kernel_rfl) h)
def plan72 : List (Nat × PL) := [(134480385, (.carry [.drop 3])), (18049651601311750, (.carry [.tmp 12 false [qd], .tmp 3 false [qd]])), (2422583229119624904966657, (.carry [.tmp 3 false [qd], .tmp 4 false [qd], .drop 5, .drop 8])), (325153616903339494956840485126657, (.carry [])), (85237069749509028565965992133042373121, (.carry [])), (11440325843156630929611053589362821047894935558, (.carry [.tmp 43 false [qd]]))]
noncomputable def queues_mayCallers : ((List Ca) × ((List Se) × Se)) → Option Bool := fun (a1, (a2, (a3, (a4, (a5, (a6, a7)))))) =>
 joinO (loopO (fun (v8, v9) =>
 bif (decide (v8 < (((List.length a1) : Nat) : Int))) then
 joinO (bif (decide (((0 : Int) ≤ v8) ∧ (v8 < (((List.length a1) : Nat) : Int)))) then 
 bindO a1[(Int.toNat v8)]? fun x10 =>
 joinO (bindO (queues_within (x10.1, ((1 : Int), (2147483647 : Int)))) fun x11 =>
 bif (!x11) then
 outO (outO (outO (outO (some Bool.false))))
 else
 bindO (queues_within (x10.2.1, ((0 : Int), (10 : Int)))) fun x12 =>
 bif (!x12) then
 outO (outO (outO (outO (some Bool.false))))
 else
 bindO (queues_within (x10.2.2.1, (v9, a7))) fun x13 =>
 bif (!x13) then
 outO (outO (outO (outO (some Bool.false))))
 else
 some (Sum.inl ())) fun _ =>
 joinO (bif (decide (((0 : Int) ≤ v8) ∧ (v8 ≤ (((List.length a1) : Nat) : Int)))) then 
 bindO (some (List.take (Int.toNat v8) a1)) fun x14 =>
 loopO (fun v15 =>
 bif (decide (v15 < (((List.length x14) : Nat) : Int))) then
 bif (decide (((0 : Int) ≤ v15) ∧ (v15 < (((List.length x14) : Nat) : Int)))) then 
 bindO x14[(Int.toNat v15)]? fun x16 =>
 bif (decide (x16.1 = x10.1)) then
 outO (outO (outO (outO (outO (some Bool.false)))))
 else
 some (Sum.inl (Go.IntKind.wrap .i64 (v15 + (1 : Int))))
 else none
 else
 outO (some (Sum.inl ()))) (0 : Int)
 else none) fun _ =>
 bif (decide (x10.2.2.2 = (0 : Int))) then
 some (Sum.inl (x10.2.2.1, v8))
 else
 bindO (queues_seatOf ((a1, (a2, (a3, (a4, (a5, (a6, a7)))))), x10.2.2.2)) fun x18 =>
 bif (decide (x18 < (0 : Int))) then
 outO (outO (outO (some Bool.false)))
 else
 bif (decide (((0 : Int) ≤ x18) ∧ (x18 < (((List.length a2) : Nat) : Int)))) then 
 bindO a2[(Int.toNat x18)]? fun x19 =>
 bif (decide (x19.2.1 ≠ (2 : Int))) then
 outO (outO (outO (some Bool.false)))
 else
 bif (decide (((0 : Int) ≤ x18) ∧ (x18 < (((List.length a2) : Nat) : Int)))) then 
 bindO a2[(Int.toNat x18)]? fun x20 =>
 bif (decide (x20.2.2.2.1 ≠ x10.1)) then
 outO (outO (outO (some Bool.false)))
 else
 some (Sum.inl (x10.2.2.1, v8))
 else none
 else none
 else none) fun (v21, v22) =>
 some (Sum.inl ((Go.IntKind.wrap .i64 (v8 + (1 : Int))), v21))
 else
 outO (some (Sum.inl ()))) ((0 : Int), (0 : Int))) fun _ =>
 some Bool.true
noncomputable def cons72 : List (Nat × CE) := (67, ⟨[(.tmp 0 true [qdC, qdS, qd, qd, qd, qd, qd])], [(.tmp 0 false [(.dat (.list qtT))])], queues_things⟩) :: cons67
theorem cons72_ok : ConL Try.prog cons72 := ⟨con67, cons67_ok⟩
theorem con72 : ConOk Try.prog 72 ⟨[(.tmp 0 true [qdC, qdS, qd, qd, qd, qd, qd])], [(.tmp 0 false [(.dat .bool)])], queues_mayCallers⟩ :=
  tree_ok (plan := planOf plan72) (eg := egNo) KK tabL_ok (conOf_ok cons72_ok) Try.func72 (by kernel_rfl) (by kernel_rfl) 10000 (fun a r h => Eq.trans (show _ = queues_mayCallers a from by kernel_rfl) h)
def plan73 : List (Nat × PL) := [(134480385, (.carry [.drop 3])), (18049651601311750, (.carry [.tmp 10 false [qd], .tmp 3 false [qd]])), (325153616903339494956840485126657, (.carry [])), (22344386412415294784396589041724259859433473, (.carry [.tmp 39 false [(.dat .bool)]]))]
noncomputable def queues_maySeats : ((List Ca) × ((List Se) × Se)) → Option Bool := fun (a1, (a2, (a3, (a4, (a5, (a6, a7)))))) =>
 joinO (loopO (fun (v8, v9) =>
 bif (decide (v8 < (((List.length a2) : Nat) : Int))) then
 bif (decide (((0 : Int) ≤ v8) ∧ (v8 < (((List.length a2) : Nat) : Int)))) then 
 bindO a2[(Int.toNat v8)]? fun x10 =>
 joinO (bindO (queues_within (x10.1, ((Go.IntKind.wrap .i64 (v9 + (1 : Int))), (2147483647 : Int)))) fun x12 =>
 bif (!x12) then
 outO (outO (outO (some Bool.false)))
 else
 bindO (queues_within (x10.2.2.1, ((0 : Int), a7))) fun x13 =>
 bif (!x13) then
 outO (outO (outO (some Bool.false)))
 else
 bindO (queues_within (x10.2.2.2.2, ((0 : Int), (2147483647 : Int)))) fun x14 =>
 bif (!x14) then
 outO (outO (outO (some Bool.false)))
 else
 some (Sum.inl ())) fun _ =>
 joinO (bif (decide (x10.2.1 = (1 : Int))) then
 some (Sum.inl Bool.true)
 else
 some (Sum.inl (decide (x10.2.1 = (4 : Int))))) fun v15 =>
 bif v15 then
 bif (decide (x10.2.2.2.1 ≠ (0 : Int))) then
 outO (outO (some Bool.false))
 else
 some (Sum.inl ((Go.IntKind.wrap .i64 (v8 + (1 : Int))), x10.1))
 else
 bif (decide (x10.2.1 = (2 : Int))) then
 bindO (queues_callerOf ((a1, (a2, (a3, (a4, (a5, (a6, a7)))))), x10.2.2.2.1)) fun x17 =>
 bif (decide (x10.2.2.2.1 < (1 : Int))) then
 outO (outO (some Bool.false))
 else
 bif (decide (x17 < (0 : Int))) then
 outO (outO (some Bool.false))
 else
 bif (decide (((0 : Int) ≤ x17) ∧ (x17 < (((List.length a1) : Nat) : Int)))) then 
 bindO a1[(Int.toNat x17)]? fun x18 =>
 bif (decide (x18.2.2.2 ≠ x10.1)) then
 outO (outO (some Bool.false))
 else
 some (Sum.inl ((Go.IntKind.wrap .i64 (v8 + (1 : Int))), x10.1))
 else none
 else
 bif (decide (x10.2.1 = (3 : Int))) then
 bindO (queues_within (x10.2.2.2.1, ((1 : Int), (2147483647 : Int)))) fun x20 =>
 bif (!x20) then
 outO (outO (some Bool.false))
 else
 bindO (queues_callerOf ((a1, (a2, (a3, (a4, (a5, (a6, a7)))))), x10.2.2.2.1)) fun x21 =>
 bif (decide (x21 ≥ (0 : Int))) then
 outO (outO (some Bool.false))
 else
 bif (decide (((0 : Int) ≤ v8) ∧ (v8 ≤ (((List.length a2) : Nat) : Int)))) then 
 bindO (queues_busy ((List.take (Int.toNat v8) a2), x10.2.2.2.1)) fun x23 =>
 bif x23 then
 outO (outO (some Bool.false))
 else
 some (Sum.inl ((Go.IntKind.wrap .i64 (v8 + (1 : Int))), x10.1))
 else none
 else
 outO (outO (some Bool.false))
 else none
 else
 outO (some (Sum.inl ()))) ((0 : Int), (0 : Int))) fun _ =>
 some Bool.true
noncomputable def cons73 : List (Nat × CE) := (72, ⟨[(.tmp 0 true [qdC, qdS, qd, qd, qd, qd, qd])], [(.tmp 0 false [(.dat .bool)])], queues_mayCallers⟩) :: cons72
theorem cons73_ok : ConL Try.prog cons73 := ⟨con72, cons72_ok⟩
theorem con73 : ConOk Try.prog 73 ⟨[(.tmp 0 true [qdC, qdS, qd, qd, qd, qd, qd])], [(.tmp 0 false [(.dat .bool)])], queues_maySeats⟩ :=
  tree_ok (plan := planOf plan73) (eg := egNo) KK tabL_ok (conOf_ok cons73_ok) Try.func73 (by kernel_rfl) (by kernel_rfl) 10000 (fun a r h => Eq.trans (show _ = queues_maySeats a from by kernel_rfl) h)
def plan20 : List (Nat × PL) := [(262657, (.carry [])), (68853957121, (.carry [])), (9241421688456087558, (.carry [.tmp 39 false [qd]]))]
noncomputable def queues_MayQueue : ((List Ca) × ((List Se) × Se)) → Option Bool := fun (a1, (a2, (a3, (a4, (a5, (a6, a7)))))) =>
 joinO (bindO (queues_bounded (a1, (a2, (a3, (a4, (a5, (a6, a7))))))) fun x8 =>
 bif (!x8) then
 outO (some Bool.false)
 else
 bindO (queues_within (a7, ((0 : Int), (1099511627776 : Int)))) fun x9 =>
 bif (!x9) then
 outO (some Bool.false)
 else
 bif (decide ((((List.length a1) : Nat) : Int) > a3)) then
 outO (some Bool.false)
 else
 bif (decide ((((List.length a2) : Nat) : Int) > (100 : Int))) then
 outO (some Bool.false)
 else
 some (Sum.inl ())) fun _ =>
 bindO (queues_mayCallers (a1, (a2, (a3, (a4, (a5, (a6, a7))))))) fun x10 =>
 bif (!x10) then
 some Bool.false
 else
 bindO (queues_maySeats (a1, (a2, (a3, (a4, (a5, (a6, a7))))))) fun x11 =>
 bif (!x11) then
 some Bool.false
 else
 joinO (bindO (queues_things (a1, (a2, (a3, (a4, (a5, (a6, a7))))))) fun x12 =>
 loopO (fun v13 =>
 bif (decide (v13 < (((List.length x12) : Nat) : Int))) then
 bif (decide (((0 : Int) ≤ v13) ∧ (v13 < (((List.length x12) : Nat) : Int)))) then 
 bindO x12[(Int.toNat v13)]? fun x14 =>
 bif (decide (x14.1 < a7)) then
 outO (outO (some Bool.false))
 else
 some (Sum.inl (Go.IntKind.wrap .i64 (v13 + (1 : Int))))
 else none
 else
 outO (some (Sum.inl ()))) (0 : Int)) fun _ =>
 some Bool.true
noncomputable def cons20 : List (Nat × CE) := (73, ⟨[(.tmp 0 true [qdC, qdS, qd, qd, qd, qd, qd])], [(.tmp 0 false [(.dat .bool)])], queues_maySeats⟩) :: cons73
theorem cons20_ok : ConL Try.prog cons20 := ⟨con73, cons73_ok⟩
theorem con20 : ConOk Try.prog 20 ⟨[(.tmp 0 true [qdC, qdS, qd, qd, qd, qd, qd])], [(.tmp 0 false [(.dat .bool)])], queues_MayQueue⟩ :=
  tree_ok (plan := planOf plan20) (eg := egNo) KK tabL_ok (conOf_ok cons20_ok) Try.func20 (by kernel_rfl) (by kernel_rfl) 10000 (fun a r h => Eq.trans (show _ = queues_MayQueue a from by kernel_rfl) h)
def plan10 : List (Nat × PL) := []
noncomputable def queues_NewQueue : (Int × (Int × (Int × Int))) → Option (((List Ca) × ((List Se) × Se)) × Int) := fun (a1, (a2, (a3, a4))) =>
 bindO (queues_bounded (([] : List Ca), (([] : List Se), (a1, (a2, (a3, (a4, (0 : Int)))))))) fun x5 =>
 bif (!x5) then
 some ((([] : List Ca), (([] : List Se), ((0 : Int), ((0 : Int), ((0 : Int), ((0 : Int), (0 : Int))))))), (2 : Int))
 else
 some ((([] : List Ca), (([] : List Se), (a1, (a2, (a3, (a4, (0 : Int))))))), (0 : Int))
noncomputable def cons10 : List (Nat × CE) := (20, ⟨[(.tmp 0 true [qdC, qdS, qd, qd, qd, qd, qd])], [(.tmp 0 false [(.dat .bool)])], queues_MayQueue⟩) :: cons20
theorem cons10_ok : ConL Try.prog cons10 := ⟨con20, cons20_ok⟩
theorem con10 : ConOk Try.prog 10 ⟨[(.tmp 0 false [qd]), (.tmp 1 false [qd]), (.tmp 2 false [qd]), (.tmp 3 false [qd])], [(.tmp 0 true [qdC, qdS, qd, qd, qd, qd, qd]), (.tmp 1 false [(.dat (.int .u8))])], queues_NewQueue⟩ :=
  tree_ok (plan := planOf plan10) (eg := egNo) KK tabL_ok (conOf_ok cons10_ok) Try.func10 (by kernel_rfl) (by kernel_rfl) 10000 (fun a r h => Eq.trans (show _ = queues_NewQueue a from by kernel_rfl) h)
def plan17 : List (Nat × PL) := [(35253226045457, (.carry [.tmp 0 false [qd]])), (4731607904491663524353, (.carry [.tmp 5 false [qd]])), (635065662727712073178998376454, (.carry [.tmp 9 false [qd], .tmp 5 false [qd]]))]
noncomputable def queues_Next : ((List Ca) × ((List Se) × Se)) → Option (Int × Bool) := fun (a1, (a2, (a3, (a4, (a5, (a6, a7)))))) =>
 bindO (queues_MayQueue (a1, (a2, (a3, (a4, (a5, (a6, a7))))))) fun x8 =>
 bif (!x8) then
 some ((0 : Int), Bool.false)
 else
 bindO (queues_things (a1, (a2, (a3, (a4, (a5, (a6, a7))))))) fun x9 =>
 joinO (joinO (loopO (fun (v10, v11) =>
 bif (decide (v10 < (((List.length x9) : Nat) : Int))) then
 bif (decide (v11 < (0 : Int))) then
 some (Sum.inl ((Go.IntKind.wrap .i64 (v10 + (1 : Int))), v10))
 else
 bif (decide (((0 : Int) ≤ v10) ∧ (v10 < (((List.length x9) : Nat) : Int)))) then 
 bindO x9[(Int.toNat v10)]? fun x13 =>
 bif (decide (((0 : Int) ≤ v11) ∧ (v11 < (((List.length x9) : Nat) : Int)))) then 
 bindO x9[(Int.toNat v11)]? fun x14 =>
 bif (decide (x13.1 < x14.1)) then
 some (Sum.inl ((Go.IntKind.wrap .i64 (v10 + (1 : Int))), v10))
 else
 some (Sum.inl ((Go.IntKind.wrap .i64 (v10 + (1 : Int))), v11))
 else none
 else none
 else
 outO (some (Sum.inl v11))) ((0 : Int), (-1 : Int))) fun v17 =>
 some (Sum.inl v17)) fun v18 =>
 bif (decide (v18 < (0 : Int))) then
 some ((0 : Int), Bool.false)
 else
 bif (decide (((0 : Int) ≤ v18) ∧ (v18 < (((List.length x9) : Nat) : Int)))) then 
 bindO x9[(Int.toNat v18)]? fun x19 =>
 some (x19.1, Bool.true)
 else none
noncomputable def cons17 : List (Nat × CE) := (10, ⟨[(.tmp 0 false [qd]), (.tmp 1 false [qd]), (.tmp 2 false [qd]), (.tmp 3 false [qd])], [(.tmp 0 true [qdC, qdS, qd, qd, qd, qd, qd]), (.tmp 1 false [(.dat (.int .u8))])], queues_NewQueue⟩) :: cons10
theorem cons17_ok : ConL Try.prog cons17 := ⟨con10, cons10_ok⟩
theorem con17 : ConOk Try.prog 17 ⟨[(.tmp 0 true [qdC, qdS, qd, qd, qd, qd, qd])], [(.tmp 0 false [qd]), (.tmp 1 false [(.dat .bool)])], queues_Next⟩ :=
  tree_ok (plan := planOf plan17) (eg := egNo) KK tabL_ok (conOf_ok cons17_ok) Try.func17 (by kernel_rfl) (by kernel_rfl) 10000 (fun a r h => Eq.trans (show _ = queues_Next a from by kernel_rfl) h)
def plan71 : List (Nat × PL) := []
noncomputable def dialtoneref36_sizes : ((List Ca) × ((List Se) × Se)) → Option Bool := fun (a1, (a2, (a3, (a4, (a5, (a6, a7)))))) =>
 bindO (dialtoneref36_from (a3, ((1 : Int), (100 : Int)))) fun x8 =>
 bif x8 then
 bindO (dialtoneref36_from (a4, ((0 : Int), (86400000 : Int)))) fun x9 =>
 bif x9 then
 bindO (dialtoneref36_from (a5, ((1 : Int), (86400000 : Int)))) fun x10 =>
 bif x10 then
 bindO (dialtoneref36_from (a6, ((0 : Int), (86400000 : Int)))) fun x11 =>
 some x11
 else
 some Bool.false
 else
 some Bool.false
 else
 some Bool.false
noncomputable def cons71 : List (Nat × CE) := (17, ⟨[(.tmp 0 true [qdC, qdS, qd, qd, qd, qd, qd])], [(.tmp 0 false [qd]), (.tmp 1 false [(.dat .bool)])], queues_Next⟩) :: cons17
theorem cons71_ok : ConL Try.prog cons71 := ⟨con17, cons17_ok⟩
theorem con71 : ConOk Try.prog 71 ⟨[(.tmp 0 true [qdC, qdS, qd, qd, qd, qd, qd])], [(.tmp 0 false [(.dat .bool)])], dialtoneref36_sizes⟩ :=
  tree_ok (plan := planOf plan71) (eg := egNo) KK tabL_ok (conOf_ok cons71_ok) Try.func71 (by kernel_rfl) (by kernel_rfl) 10000 (fun a r h => Eq.trans (show _ = dialtoneref36_sizes a from by kernel_rfl) h)
def plan101 : List (Nat × PL) := [(262657, (.carry [])), (35253091829766, (.carry [.tmp 5 false [qd]]))]
noncomputable def dialtoneref36_waits : (((List Ca) × ((List Se) × Se)) × Int) → Option Int := fun ((a1, (a2, (a3, (a4, (a5, (a6, a7)))))), a8) =>
 joinO (loopO (fun v9 =>
 bif (decide (v9 < (((List.length a1) : Nat) : Int))) then
 bif (decide (((0 : Int) ≤ v9) ∧ (v9 < (((List.length a1) : Nat) : Int)))) then 
 bindO a1[(Int.toNat v9)]? fun x10 =>
 bif (decide (x10.1 = a8)) then
 outO (outO (some v9))
 else
 some (Sum.inl (Go.IntKind.wrap .i64 (v9 + (1 : Int))))
 else none
 else
 outO (some (Sum.inl ()))) (0 : Int)) fun _ =>
 some (-1 : Int)
noncomputable def cons101 : List (Nat × CE) := (71, ⟨[(.tmp 0 true [qdC, qdS, qd, qd, qd, qd, qd])], [(.tmp 0 false [(.dat .bool)])], dialtoneref36_sizes⟩) :: cons71
theorem cons101_ok : ConL Try.prog cons101 := ⟨con71, cons71_ok⟩
theorem con101 : ConOk Try.prog 101 ⟨[(.tmp 0 true [qdC, qdS, qd, qd, qd, qd, qd]), (.tmp 1 false [qd])], [(.tmp 0 false [qd])], dialtoneref36_waits⟩ :=
  tree_ok (plan := planOf plan101) (eg := egNo) KK tabL_ok (conOf_ok cons101_ok) Try.func101 (by kernel_rfl) (by kernel_rfl) 10000 (fun a r h => Eq.trans (show _ = dialtoneref36_waits a from by kernel_rfl) h)
def plan103 : List (Nat × PL) := [(262657, (.carry [])), (35253091829766, (.carry [.tmp 5 false [qd]]))]
noncomputable def dialtoneref36_seat : (((List Ca) × ((List Se) × Se)) × Int) → Option Int := fun ((a1, (a2, (a3, (a4, (a5, (a6, a7)))))), a8) =>
 joinO (loopO (fun v9 =>
 bif (decide (v9 < (((List.length a2) : Nat) : Int))) then
 bif (decide (((0 : Int) ≤ v9) ∧ (v9 < (((List.length a2) : Nat) : Int)))) then 
 bindO a2[(Int.toNat v9)]? fun x10 =>
 bif (decide (x10.1 = a8)) then
 outO (outO (some v9))
 else
 some (Sum.inl (Go.IntKind.wrap .i64 (v9 + (1 : Int))))
 else none
 else
 outO (some (Sum.inl ()))) (0 : Int)) fun _ =>
 some (-1 : Int)
noncomputable def cons103 : List (Nat × CE) := (101, ⟨[(.tmp 0 true [qdC, qdS, qd, qd, qd, qd, qd]), (.tmp 1 false [qd])], [(.tmp 0 false [qd])], dialtoneref36_waits⟩) :: cons101
theorem cons103_ok : ConL Try.prog cons103 := ⟨con101, cons101_ok⟩
theorem con103 : ConOk Try.prog 103 ⟨[(.tmp 0 true [qdC, qdS, qd, qd, qd, qd, qd]), (.tmp 1 false [qd])], [(.tmp 0 false [qd])], dialtoneref36_seat⟩ :=
  tree_ok (plan := planOf plan103) (eg := egNo) KK tabL_ok (conOf_ok cons103_ok) Try.func103 (by kernel_rfl) (by kernel_rfl) 10000 (fun a r h => Eq.trans (show _ = dialtoneref36_seat a from by kernel_rfl) h)
def plan102 : List (Nat × PL) := [(262657, (.carry [])), (35253091829766, (.carry [.tmp 5 false [qd]]))]
noncomputable def dialtoneref36_busy : (((List Ca) × ((List Se) × Se)) × Int) → Option Bool := fun ((a1, (a2, (a3, (a4, (a5, (a6, a7)))))), a8) =>
 joinO (loopO (fun v9 =>
 bif (decide (v9 < (((List.length a2) : Nat) : Int))) then
 bif (decide (((0 : Int) ≤ v9) ∧ (v9 < (((List.length a2) : Nat) : Int)))) then 
 bindO a2[(Int.toNat v9)]? fun x10 =>
 bif (decide (x10.2.1 = (3 : Int))) then
 bif (decide (((0 : Int) ≤ v9) ∧ (v9 < (((List.length a2) : Nat) : Int)))) then 
 bindO a2[(Int.toNat v9)]? fun x11 =>
 bif (decide (x11.2.2.2.1 = a8)) then
 outO (outO (some Bool.true))
 else
 some (Sum.inl (Go.IntKind.wrap .i64 (v9 + (1 : Int))))
 else none
 else
 some (Sum.inl (Go.IntKind.wrap .i64 (v9 + (1 : Int))))
 else none
 else
 outO (some (Sum.inl ()))) (0 : Int)) fun _ =>
 some Bool.false
noncomputable def cons102 : List (Nat × CE) := (103, ⟨[(.tmp 0 true [qdC, qdS, qd, qd, qd, qd, qd]), (.tmp 1 false [qd])], [(.tmp 0 false [qd])], dialtoneref36_seat⟩) :: cons103
theorem cons102_ok : ConL Try.prog cons102 := ⟨con103, cons103_ok⟩
theorem con102 : ConOk Try.prog 102 ⟨[(.tmp 0 true [qdC, qdS, qd, qd, qd, qd, qd]), (.tmp 1 false [qd])], [(.tmp 0 false [(.dat .bool)])], dialtoneref36_busy⟩ :=
  tree_ok (plan := planOf plan102) (eg := egNo) KK tabL_ok (conOf_ok cons102_ok) Try.func102 (by kernel_rfl) (by kernel_rfl) 10000 (fun a r h => Eq.trans (show _ = dialtoneref36_busy a from by kernel_rfl) h)
def plan75 : List (Nat × PL) := [(262657, (.carry [])), (35253091829766, (.carry [.tmp 3 false [qd]])), (1240357900220250339094299137, (.carry []))]
noncomputable def dialtoneref36_callers : ((List Ca) × ((List Se) × Se)) → Option Bool := fun (a1, (a2, (a3, (a4, (a5, (a6, a7)))))) =>
 joinO (loopO (fun v8 =>
 bif (decide (v8 < (((List.length a1) : Nat) : Int))) then
 bif (decide (((0 : Int) ≤ v8) ∧ (v8 < (((List.length a1) : Nat) : Int)))) then 
 bindO a1[(Int.toNat v8)]? fun x9 =>
 joinO (bindO (dialtoneref36_id x9.1) fun x10 =>
 bif (!x10) then
 outO (outO (outO (some Bool.false)))
 else
 bindO (dialtoneref36_waits ((a1, (a2, (a3, (a4, (a5, (a6, a7)))))), x9.1)) fun x11 =>
 bif (decide (x11 ≠ v8)) then
 outO (outO (outO (some Bool.false)))
 else
 bindO (dialtoneref36_from (x9.2.1, ((0 : Int), (10 : Int)))) fun x12 =>
 bif (!x12) then
 outO (outO (outO (some Bool.false)))
 else
 bindO (dialtoneref36_from (x9.2.2.1, ((0 : Int), a7))) fun x13 =>
 bif (!x13) then
 outO (outO (outO (some Bool.false)))
 else
 bif (decide (v8 > (0 : Int))) then
 bindO (some (Go.IntKind.wrap .i64 (v8 - (1 : Int)))) fun x14 =>
 bif (decide (((0 : Int) ≤ x14) ∧ (x14 < (((List.length a1) : Nat) : Int)))) then 
 bindO a1[(Int.toNat x14)]? fun x15 =>
 bif (decide (x9.2.2.1 < x15.2.2.1)) then
 outO (outO (outO (some Bool.false)))
 else
 bindO (dialtoneref36_busy ((a1, (a2, (a3, (a4, (a5, (a6, a7)))))), x9.1)) fun x16 =>
 bif x16 then
 outO (outO (outO (some Bool.false)))
 else
 some (Sum.inl ())
 else none
 else
 bindO (dialtoneref36_busy ((a1, (a2, (a3, (a4, (a5, (a6, a7)))))), x9.1)) fun x17 =>
 bif x17 then
 outO (outO (outO (some Bool.false)))
 else
 some (Sum.inl ())) fun _ =>
 bindO (dialtoneref36_seat ((a1, (a2, (a3, (a4, (a5, (a6, a7)))))), x9.2.2.2)) fun x18 =>
 bif (decide (x9.2.2.2 ≠ (0 : Int))) then
 bif (decide (x18 < (0 : Int))) then
 outO (outO (some Bool.false))
 else
 bif (decide (((0 : Int) ≤ x18) ∧ (x18 < (((List.length a2) : Nat) : Int)))) then 
 bindO a2[(Int.toNat x18)]? fun x19 =>
 bif (decide (x19.2.1 ≠ (2 : Int))) then
 outO (outO (some Bool.false))
 else
 bif (decide (((0 : Int) ≤ x18) ∧ (x18 < (((List.length a2) : Nat) : Int)))) then 
 bindO a2[(Int.toNat x18)]? fun x20 =>
 bif (decide (x20.2.2.2.1 ≠ x9.1)) then
 outO (outO (some Bool.false))
 else
 some (Sum.inl (Go.IntKind.wrap .i64 (v8 + (1 : Int))))
 else none
 else none
 else
 some (Sum.inl (Go.IntKind.wrap .i64 (v8 + (1 : Int))))
 else none
 else
 outO (some (Sum.inl ()))) (0 : Int)) fun _ =>
 some Bool.true
noncomputable def cons75 : List (Nat × CE) := (102, ⟨[(.tmp 0 true [qdC, qdS, qd, qd, qd, qd, qd]), (.tmp 1 false [qd])], [(.tmp 0 false [(.dat .bool)])], dialtoneref36_busy⟩) :: cons102
theorem cons75_ok : ConL Try.prog cons75 := ⟨con102, cons102_ok⟩
theorem con75 : ConOk Try.prog 75 ⟨[(.tmp 0 true [qdC, qdS, qd, qd, qd, qd, qd])], [(.tmp 0 false [(.dat .bool)])], dialtoneref36_callers⟩ :=
  tree_ok (plan := planOf plan75) (eg := egNo) KK tabL_ok (conOf_ok cons75_ok) Try.func75 (by kernel_rfl) (by kernel_rfl) 10000 (fun a r h => Eq.trans (show _ = dialtoneref36_callers a from by kernel_rfl) h)
def plan76 : List (Nat × PL) := [(262657, (.carry [])), (35253091829766, (.carry [.tmp 3 false [qd]])), (9241386504622178817, (.carry [.tmp 7 false [qd], .tmp 6 false [qd], .tmp 5 false [(.dat .bool)], .drop 4])), (1240357900220250339094299137, (.carry [])), (325152381395337304891535952970241, (.carry [])), (85236745868499302453486800855430857217, (.carry [])), (11440282372583363144891824088804386116758407174, (.carry [.tmp 7 false [qd]]))]
noncomputable def dialtoneref36_seats : ((List Ca) × ((List Se) × Se)) → Option Bool := fun (a1, (a2, (a3, (a4, (a5, (a6, a7)))))) =>
 joinO (loopO (fun v8 =>
 bif (decide (v8 < (((List.length a2) : Nat) : Int))) then
 joinO (bif (decide (((0 : Int) ≤ v8) ∧ (v8 < (((List.length a2) : Nat) : Int)))) then 
 bindO a2[(Int.toNat v8)]? fun x9 =>
 joinO (bindO (dialtoneref36_id x9.1) fun x10 =>
 bif (!x10) then
 outO (outO (outO (outO (some Bool.false))))
 else
 bif (decide (v8 > (0 : Int))) then
 bindO (some (Go.IntKind.wrap .i64 (v8 - (1 : Int)))) fun x11 =>
 bif (decide (((0 : Int) ≤ x11) ∧ (x11 < (((List.length a2) : Nat) : Int)))) then 
 bindO a2[(Int.toNat x11)]? fun x12 =>
 bif (decide (x9.1 ≤ x12.1)) then
 outO (outO (outO (outO (some Bool.false))))
 else
 bindO (dialtoneref36_from (x9.2.2.1, ((0 : Int), a7))) fun x13 =>
 bif (!x13) then
 outO (outO (outO (outO (some Bool.false))))
 else
 bindO (dialtoneref36_from (x9.2.2.2.2, ((0 : Int), (2147483647 : Int)))) fun x14 =>
 bif (!x14) then
 outO (outO (outO (outO (some Bool.false))))
 else
 bif (decide (x9.2.1 < (1 : Int))) then
 outO (outO (outO (outO (some Bool.false))))
 else
 bif (decide (x9.2.1 > (4 : Int))) then
 outO (outO (outO (outO (some Bool.false))))
 else
 some (Sum.inl ())
 else none
 else
 bindO (dialtoneref36_from (x9.2.2.1, ((0 : Int), a7))) fun x15 =>
 bif (!x15) then
 outO (outO (outO (outO (some Bool.false))))
 else
 bindO (dialtoneref36_from (x9.2.2.2.2, ((0 : Int), (2147483647 : Int)))) fun x16 =>
 bif (!x16) then
 outO (outO (outO (outO (some Bool.false))))
 else
 bif (decide (x9.2.1 < (1 : Int))) then
 outO (outO (outO (outO (some Bool.false))))
 else
 bif (decide (x9.2.1 > (4 : Int))) then
 outO (outO (outO (outO (some Bool.false))))
 else
 some (Sum.inl ())) fun _ =>
 bif (decide (x9.2.1 = (2 : Int))) then
 joinO (bindO (dialtoneref36_id x9.2.2.2.1) fun x17 =>
 bif (!x17) then
 outO (outO (outO (outO (some Bool.false))))
 else
 some (Sum.inl ())) fun _ =>
 bindO (dialtoneref36_waits ((a1, (a2, (a3, (a4, (a5, (a6, a7)))))), x9.2.2.2.1)) fun x18 =>
 joinO (bif (decide (x9.2.1 = (2 : Int))) then
 bif (decide (x18 < (0 : Int))) then
 outO (outO (outO (outO (some Bool.false))))
 else
 bif (decide (((0 : Int) ≤ x18) ∧ (x18 < (((List.length a1) : Nat) : Int)))) then 
 bindO a1[(Int.toNat x18)]? fun x19 =>
 bif (decide (x19.2.2.2 ≠ x9.1)) then
 outO (outO (outO (outO (some Bool.false))))
 else
 some (Sum.inl ())
 else none
 else
 some (Sum.inl ())) fun _ =>
 loopO (fun v20 =>
 bif (decide (v20 < v8)) then
 bif (decide (x9.2.1 = (3 : Int))) then
 bif (decide (((0 : Int) ≤ v20) ∧ (v20 < (((List.length a2) : Nat) : Int)))) then 
 bindO a2[(Int.toNat v20)]? fun x21 =>
 bif (decide (x21.2.1 = (3 : Int))) then
 bif (decide (((0 : Int) ≤ v20) ∧ (v20 < (((List.length a2) : Nat) : Int)))) then 
 bindO a2[(Int.toNat v20)]? fun x22 =>
 bif (decide (x22.2.2.2.1 = x9.2.2.2.1)) then
 outO (outO (outO (outO (some Bool.false))))
 else
 some (Sum.inl (Go.IntKind.wrap .i64 (v20 + (1 : Int))))
 else none
 else
 some (Sum.inl (Go.IntKind.wrap .i64 (v20 + (1 : Int))))
 else none
 else
 some (Sum.inl (Go.IntKind.wrap .i64 (v20 + (1 : Int))))
 else
 outO (some (Sum.inl (v20, (x18, Bool.true))))) (0 : Int)
 else
 joinO (bif (decide (x9.2.1 = (3 : Int))) then
 bindO (dialtoneref36_id x9.2.2.2.1) fun x26 =>
 bif (!x26) then
 outO (outO (outO (outO (some Bool.false))))
 else
 bif (!(decide (x9.2.1 = (3 : Int)))) then
 bif (decide (x9.2.2.2.1 ≠ (0 : Int))) then
 outO (outO (outO (outO (some Bool.false))))
 else
 some (Sum.inl ())
 else
 some (Sum.inl ())
 else
 bif (!(decide (x9.2.1 = (3 : Int)))) then
 bif (decide (x9.2.2.2.1 ≠ (0 : Int))) then
 outO (outO (outO (outO (some Bool.false))))
 else
 some (Sum.inl ())
 else
 some (Sum.inl ())) fun _ =>
 bindO (dialtoneref36_waits ((a1, (a2, (a3, (a4, (a5, (a6, a7)))))), x9.2.2.2.1)) fun x27 =>
 joinO (bif (decide (x9.2.1 = (2 : Int))) then
 bif (decide (x27 < (0 : Int))) then
 outO (outO (outO (outO (some Bool.false))))
 else
 bif (decide (((0 : Int) ≤ x27) ∧ (x27 < (((List.length a1) : Nat) : Int)))) then 
 bindO a1[(Int.toNat x27)]? fun x28 =>
 bif (decide (x28.2.2.2 ≠ x9.1)) then
 outO (outO (outO (outO (some Bool.false))))
 else
 some (Sum.inl ())
 else none
 else
 some (Sum.inl ())) fun _ =>
 loopO (fun v29 =>
 bif (decide (v29 < v8)) then
 bif (decide (x9.2.1 = (3 : Int))) then
 bif (decide (((0 : Int) ≤ v29) ∧ (v29 < (((List.length a2) : Nat) : Int)))) then 
 bindO a2[(Int.toNat v29)]? fun x30 =>
 bif (decide (x30.2.1 = (3 : Int))) then
 bif (decide (((0 : Int) ≤ v29) ∧ (v29 < (((List.length a2) : Nat) : Int)))) then 
 bindO a2[(Int.toNat v29)]? fun x31 =>
 bif (decide (x31.2.2.2.1 = x9.2.2.2.1)) then
 outO (outO (outO (outO (some Bool.false))))
 else
 some (Sum.inl (Go.IntKind.wrap .i64 (v29 + (1 : Int))))
 else none
 else
 some (Sum.inl (Go.IntKind.wrap .i64 (v29 + (1 : Int))))
 else none
 else
 some (Sum.inl (Go.IntKind.wrap .i64 (v29 + (1 : Int))))
 else
 outO (some (Sum.inl (v29, (x27, (decide (x9.2.1 = (3 : Int)))))))) (0 : Int)
 else none) fun (v35, (v36, v37)) =>
 some (Sum.inl (Go.IntKind.wrap .i64 (v8 + (1 : Int))))
 else
 outO (some (Sum.inl ()))) (0 : Int)) fun _ =>
 some Bool.true
noncomputable def cons76 : List (Nat × CE) := (75, ⟨[(.tmp 0 true [qdC, qdS, qd, qd, qd, qd, qd])], [(.tmp 0 false [(.dat .bool)])], dialtoneref36_callers⟩) :: cons75
theorem cons76_ok : ConL Try.prog cons76 := ⟨con75, cons75_ok⟩
theorem con76 : ConOk Try.prog 76 ⟨[(.tmp 0 true [qdC, qdS, qd, qd, qd, qd, qd])], [(.tmp 0 false [(.dat .bool)])], dialtoneref36_seats⟩ :=
  tree_ok (plan := planOf plan76) (eg := egNo) KK tabL_ok (conOf_ok cons76_ok) Try.func76 (by kernel_rfl) (by kernel_rfl) 10000 (fun a r h => Eq.trans (show _ = dialtoneref36_seats a from by kernel_rfl) h)
def plan70 : List (Nat × PL) := [(134480385, (.carry [.tmp 7 false [qd], .tmp 6 false [qd]])), (18049651601311750, (.carry [.tmp 9 false [qd], .tmp 7 false [qd], .tmp 6 false [qd]])), (68853957121, (.carry [.tmp 8 false [qd], .tmp 7 false [qd], .tmp 6 false [qd]])), (9241421688456087558, (.carry [.tmp 11 false [qd], .tmp 8 false [qd], .tmp 7 false [qd], .tmp 6 false [qd]])), (166478653090017823607932654836777473, (.carry [.tmp 13 false [qd]])), (85237070382089125687261519276430066177, (.carry [.tmp 13 false [qd]]))]
noncomputable def dialtoneref36_due : ((List Ca) × ((List Se) × Se)) → Option (Int × (Int × (Int × Bool))) := fun (a1, (a2, (a3, (a4, (a5, (a6, a7)))))) =>
 joinO (loopO (fun (v8, (v9, v10)) =>
 bif (decide (v8 < (((List.length a1) : Nat) : Int))) then
 bif (decide (a4 > (0 : Int))) then
 bif (decide (((0 : Int) ≤ v8) ∧ (v8 < (((List.length a1) : Nat) : Int)))) then 
 bindO a1[(Int.toNat v8)]? fun x11 =>
 bindO (some (Go.IntKind.wrap .i64 (x11.2.2.1 + a4))) fun x12 =>
 bif (decide (v10 < (0 : Int))) then
 some (Sum.inl ((Go.IntKind.wrap .i64 (v8 + (1 : Int))), (v8, x12)))
 else
 bif (decide (x12 < v10)) then
 some (Sum.inl ((Go.IntKind.wrap .i64 (v8 + (1 : Int))), (v8, x12)))
 else
 some (Sum.inl ((Go.IntKind.wrap .i64 (v8 + (1 : Int))), (v9, v10)))
 else none
 else
 outO (some (Sum.inl (v9, v10)))
 else
 outO (some (Sum.inl (v9, v10)))) ((0 : Int), ((-1 : Int), (-1 : Int)))) fun (v16, v17) =>
 joinO (loopO (fun (v18, (v19, (v20, v21))) =>
 bif (decide (v18 < (((List.length a2) : Nat) : Int))) then
 bif (decide (((0 : Int) ≤ v18) ∧ (v18 < (((List.length a2) : Nat) : Int)))) then 
 bindO a2[(Int.toNat v18)]? fun x22 =>
 joinO (bif (decide (x22.2.1 = (2 : Int))) then
 some (Sum.inl (Go.IntKind.wrap .i64 (x22.2.2.1 + a5)))
 else
 some (Sum.inl (-1 : Int))) fun v24 =>
 joinO (bif (decide (x22.2.1 = (4 : Int))) then
 some (Sum.inl (Go.IntKind.wrap .i64 (x22.2.2.1 + a6)))
 else
 some (Sum.inl v24)) fun v26 =>
 bif (decide (v26 ≥ (0 : Int))) then
 bif (decide (v21 < (0 : Int))) then
 some (Sum.inl ((Go.IntKind.wrap .i64 (v18 + (1 : Int))), (v18, ((-1 : Int), v26))))
 else
 bif (decide (v26 < v21)) then
 some (Sum.inl ((Go.IntKind.wrap .i64 (v18 + (1 : Int))), (v18, ((-1 : Int), v26))))
 else
 some (Sum.inl ((Go.IntKind.wrap .i64 (v18 + (1 : Int))), (v19, (v20, v21))))
 else
 some (Sum.inl ((Go.IntKind.wrap .i64 (v18 + (1 : Int))), (v19, (v20, v21))))
 else none
 else
 outO (some (Sum.inl (v19, (v20, v21))))) ((0 : Int), ((-1 : Int), (v16, v17)))) fun (v31, (v32, v33)) =>
 some (v33, (v32, (v31, (decide (v33 ≥ (0 : Int))))))
noncomputable def cons70 : List (Nat × CE) := (76, ⟨[(.tmp 0 true [qdC, qdS, qd, qd, qd, qd, qd])], [(.tmp 0 false [(.dat .bool)])], dialtoneref36_seats⟩) :: cons76
theorem cons70_ok : ConL Try.prog cons70 := ⟨con76, cons76_ok⟩
theorem con70 : ConOk Try.prog 70 ⟨[(.tmp 0 true [qdC, qdS, qd, qd, qd, qd, qd])], [(.tmp 0 false [qd]), (.tmp 1 false [qd]), (.tmp 2 false [qd]), (.tmp 3 false [(.dat .bool)])], dialtoneref36_due⟩ :=
  tree_ok (plan := planOf plan70) (eg := egNo) KK tabL_ok (conOf_ok cons70_ok) Try.func70 (by kernel_rfl) (by kernel_rfl) 10000 (fun a r h => Eq.trans (show _ = dialtoneref36_due a from by kernel_rfl) h)
def plan21 : List (Nat × PL) := [(262657, (.carry []))]
noncomputable def dialtoneref36_MayQueue : ((List Ca) × ((List Se) × Se)) → Option Bool := fun (a1, (a2, (a3, (a4, (a5, (a6, a7)))))) =>
 joinO (bindO (dialtoneref36_sizes (a1, (a2, (a3, (a4, (a5, (a6, a7))))))) fun x8 =>
 bif (!x8) then
 outO (some Bool.false)
 else
 bindO (dialtoneref36_from (a7, ((0 : Int), (1099511627776 : Int)))) fun x9 =>
 bif (!x9) then
 outO (some Bool.false)
 else
 bif (decide ((((List.length a1) : Nat) : Int) > a3)) then
 outO (some Bool.false)
 else
 bif (decide ((((List.length a2) : Nat) : Int) > (100 : Int))) then
 outO (some Bool.false)
 else
 bindO (dialtoneref36_callers (a1, (a2, (a3, (a4, (a5, (a6, a7))))))) fun x10 =>
 bif (!x10) then
 outO (some Bool.false)
 else
 bindO (dialtoneref36_seats (a1, (a2, (a3, (a4, (a5, (a6, a7))))))) fun x11 =>
 bif (!x11) then
 outO (some Bool.false)
 else
 some (Sum.inl ())) fun _ =>
 bindO (dialtoneref36_due (a1, (a2, (a3, (a4, (a5, (a6, a7))))))) fun (x13, (x14, (x15, x16))) =>
 bif (!x16) then
 some Bool.true
 else
 some (decide (x13 ≥ a7))
noncomputable def cons21 : List (Nat × CE) := (70, ⟨[(.tmp 0 true [qdC, qdS, qd, qd, qd, qd, qd])], [(.tmp 0 false [qd]), (.tmp 1 false [qd]), (.tmp 2 false [qd]), (.tmp 3 false [(.dat .bool)])], dialtoneref36_due⟩) :: cons70
theorem cons21_ok : ConL Try.prog cons21 := ⟨con70, cons70_ok⟩
theorem con21 : ConOk Try.prog 21 ⟨[(.tmp 0 true [qdC, qdS, qd, qd, qd, qd, qd])], [(.tmp 0 false [(.dat .bool)])], dialtoneref36_MayQueue⟩ :=
  tree_ok (plan := planOf plan21) (eg := egNo) KK tabL_ok (conOf_ok cons21_ok) Try.func21 (by kernel_rfl) (by kernel_rfl) 10000 (fun a r h => Eq.trans (show _ = dialtoneref36_MayQueue a from by kernel_rfl) h)
def plan19 : List (Nat × PL) := []
noncomputable def dialtoneref36_NewQueue : (Int × (Int × (Int × Int))) → Option (((List Ca) × ((List Se) × Se)) × Int) := fun (a1, (a2, (a3, a4))) =>
 bindO (dialtoneref36_sizes (([] : List Ca), (([] : List Se), (a1, (a2, (a3, (a4, (0 : Int)))))))) fun x5 =>
 bif (!x5) then
 some ((([] : List Ca), (([] : List Se), ((0 : Int), ((0 : Int), ((0 : Int), ((0 : Int), (0 : Int))))))), (2 : Int))
 else
 some ((([] : List Ca), (([] : List Se), (a1, (a2, (a3, (a4, (0 : Int))))))), (0 : Int))
noncomputable def cons19 : List (Nat × CE) := (21, ⟨[(.tmp 0 true [qdC, qdS, qd, qd, qd, qd, qd])], [(.tmp 0 false [(.dat .bool)])], dialtoneref36_MayQueue⟩) :: cons21
theorem cons19_ok : ConL Try.prog cons19 := ⟨con21, cons21_ok⟩
theorem con19 : ConOk Try.prog 19 ⟨[(.tmp 0 false [qd]), (.tmp 1 false [qd]), (.tmp 2 false [qd]), (.tmp 3 false [qd])], [(.tmp 0 true [qdC, qdS, qd, qd, qd, qd, qd]), (.tmp 1 false [(.dat (.int .u8))])], dialtoneref36_NewQueue⟩ :=
  tree_ok (plan := planOf plan19) (eg := egNo) KK tabL_ok (conOf_ok cons19_ok) Try.func19 (by kernel_rfl) (by kernel_rfl) 10000 (fun a r h => Eq.trans (show _ = dialtoneref36_NewQueue a from by kernel_rfl) h)
def plan18 : List (Nat × PL) := []
noncomputable def dialtoneref36_Next : ((List Ca) × ((List Se) × Se)) → Option (Int × Bool) := fun (a1, (a2, (a3, (a4, (a5, (a6, a7)))))) =>
 bindO (dialtoneref36_MayQueue (a1, (a2, (a3, (a4, (a5, (a6, a7))))))) fun x8 =>
 bif (!x8) then
 some ((0 : Int), Bool.false)
 else
 bindO (dialtoneref36_due (a1, (a2, (a3, (a4, (a5, (a6, a7))))))) fun (x10, (x11, (x12, x13))) =>
 bif (!x13) then
 some ((0 : Int), Bool.false)
 else
 some (x10, Bool.true)
noncomputable def cons18 : List (Nat × CE) := (19, ⟨[(.tmp 0 false [qd]), (.tmp 1 false [qd]), (.tmp 2 false [qd]), (.tmp 3 false [qd])], [(.tmp 0 true [qdC, qdS, qd, qd, qd, qd, qd]), (.tmp 1 false [(.dat (.int .u8))])], dialtoneref36_NewQueue⟩) :: cons19
theorem cons18_ok : ConL Try.prog cons18 := ⟨con19, cons19_ok⟩
theorem con18 : ConOk Try.prog 18 ⟨[(.tmp 0 true [qdC, qdS, qd, qd, qd, qd, qd])], [(.tmp 0 false [qd]), (.tmp 1 false [(.dat .bool)])], dialtoneref36_Next⟩ :=
  tree_ok (plan := planOf plan18) (eg := egNo) KK tabL_ok (conOf_ok cons18_ok) Try.func18 (by kernel_rfl) (by kernel_rfl) 10000 (fun a r h => Eq.trans (show _ = dialtoneref36_Next a from by kernel_rfl) h)
def plan22 : List (Nat × PL) := [(262657, (.carry [])), (134480385, (.carry [])), (18049651601311750, (.carry [.tmp 5 false [qd]])), (68853957121, (.carry [])), (9241421688456087558, (.carry [.tmp 6 false [qd]]))]
noncomputable def dialtoneref36_SameQueue : (((List Ca) × ((List Se) × Se)) × ((List Ca) × ((List Se) × Se))) → Option Bool := fun ((a1, (a2, (a3, (a4, (a5, (a6, a7)))))), (a8, (a9, (a10, (a11, (a12, (a13, a14))))))) =>
 joinO (bif (decide (a3 ≠ a10)) then
 outO (some Bool.false)
 else
 bif (decide (a4 ≠ a11)) then
 outO (some Bool.false)
 else
 bif (decide (a5 ≠ a12)) then
 outO (some Bool.false)
 else
 bif (decide (a6 ≠ a13)) then
 outO (some Bool.false)
 else
 bif (decide (a7 ≠ a14)) then
 outO (some Bool.false)
 else
 bif (decide ((((List.length a1) : Nat) : Int) ≠ (((List.length a8) : Nat) : Int))) then
 outO (some Bool.false)
 else
 bif (decide ((((List.length a2) : Nat) : Int) ≠ (((List.length a9) : Nat) : Int))) then
 outO (some Bool.false)
 else
 some (Sum.inl ())) fun _ =>
 joinO (loopO (fun v15 =>
 bif (decide (v15 < (((List.length a1) : Nat) : Int))) then
 bif (decide (((0 : Int) ≤ v15) ∧ (v15 < (((List.length a1) : Nat) : Int)))) then 
 bindO a1[(Int.toNat v15)]? fun x16 =>
 bif (decide (((0 : Int) ≤ v15) ∧ (v15 < (((List.length a8) : Nat) : Int)))) then 
 bindO a8[(Int.toNat v15)]? fun x17 =>
 bif (!((decide (x16.1 = x17.1)) && ((decide (x16.2.1 = x17.2.1)) && ((decide (x16.2.2.1 = x17.2.2.1)) && (decide (x16.2.2.2 = x17.2.2.2)))))) then
 outO (outO (some Bool.false))
 else
 some (Sum.inl (Go.IntKind.wrap .i64 (v15 + (1 : Int))))
 else none
 else none
 else
 outO (some (Sum.inl ()))) (0 : Int)) fun _ =>
 joinO (loopO (fun v19 =>
 bif (decide (v19 < (((List.length a2) : Nat) : Int))) then
 bif (decide (((0 : Int) ≤ v19) ∧ (v19 < (((List.length a2) : Nat) : Int)))) then 
 bindO a2[(Int.toNat v19)]? fun x20 =>
 bif (decide (((0 : Int) ≤ v19) ∧ (v19 < (((List.length a9) : Nat) : Int)))) then 
 bindO a9[(Int.toNat v19)]? fun x21 =>
 bif (!((decide (x20.1 = x21.1)) && ((decide (x20.2.1 = x21.2.1)) && ((decide (x20.2.2.1 = x21.2.2.1)) && ((decide (x20.2.2.2.1 = x21.2.2.2.1)) && (decide (x20.2.2.2.2 = x21.2.2.2.2))))))) then
 outO (outO (some Bool.false))
 else
 some (Sum.inl (Go.IntKind.wrap .i64 (v19 + (1 : Int))))
 else none
 else none
 else
 outO (some (Sum.inl ()))) (0 : Int)) fun _ =>
 some Bool.true
noncomputable def cons22 : List (Nat × CE) := (18, ⟨[(.tmp 0 true [qdC, qdS, qd, qd, qd, qd, qd])], [(.tmp 0 false [qd]), (.tmp 1 false [(.dat .bool)])], dialtoneref36_Next⟩) :: cons18
theorem cons22_ok : ConL Try.prog cons22 := ⟨con18, cons18_ok⟩
theorem con22 : ConOk Try.prog 22 ⟨[(.tmp 0 true [qdC, qdS, qd, qd, qd, qd, qd]), (.tmp 1 true [qdC, qdS, qd, qd, qd, qd, qd])], [(.tmp 0 false [(.dat .bool)])], dialtoneref36_SameQueue⟩ :=
  tree_ok (plan := planOf plan22) (eg := egNo) KK tabL_ok (conOf_ok cons22_ok) Try.func22 (by kernel_rfl) (by kernel_rfl) 10000 (fun a r h => Eq.trans (show _ = dialtoneref36_SameQueue a from by kernel_rfl) h)
def plan86 : List (Nat × PL) := [(134480385, (.carry [])), (18049651601311750, (.carry [.tmp 5 false [qd]]))]
noncomputable def dialtoneref36_Acts : ((List Ac) × (List Ac)) → Option Bool := fun (a1, a2) =>
 bif (decide ((((List.length a1) : Nat) : Int) ≠ (((List.length a2) : Nat) : Int))) then
 some Bool.false
 else
 joinO (loopO (fun v3 =>
 bif (decide (v3 < (((List.length a1) : Nat) : Int))) then
 bif (decide (((0 : Int) ≤ v3) ∧ (v3 < (((List.length a1) : Nat) : Int)))) then 
 bindO a1[(Int.toNat v3)]? fun x4 =>
 bif (decide (((0 : Int) ≤ v3) ∧ (v3 < (((List.length a2) : Nat) : Int)))) then 
 bindO a2[(Int.toNat v3)]? fun x5 =>
 bif (!((decide (x4.1 = x5.1)) && ((decide (x4.2.1 = x5.2.1)) && (decide (x4.2.2 = x5.2.2))))) then
 outO (outO (some Bool.false))
 else
 some (Sum.inl (Go.IntKind.wrap .i64 (v3 + (1 : Int))))
 else none
 else none
 else
 outO (some (Sum.inl ()))) (0 : Int)) fun _ =>
 some Bool.true
noncomputable def cons86 : List (Nat × CE) := (22, ⟨[(.tmp 0 true [qdC, qdS, qd, qd, qd, qd, qd]), (.tmp 1 true [qdC, qdS, qd, qd, qd, qd, qd])], [(.tmp 0 false [(.dat .bool)])], dialtoneref36_SameQueue⟩) :: cons22
theorem cons86_ok : ConL Try.prog cons86 := ⟨con22, cons22_ok⟩
theorem con86 : ConOk Try.prog 86 ⟨[(.tmp 0 false [(.dat (.list qtA))]), (.tmp 1 false [(.dat (.list qtA))])], [(.tmp 0 false [(.dat .bool)])], dialtoneref36_Acts⟩ :=
  tree_ok (plan := planOf plan86) (eg := egNo) KK tabL_ok (conOf_ok cons86_ok) Try.func86 (by kernel_rfl) (by kernel_rfl) 10000 (fun a r h => Eq.trans (show _ = dialtoneref36_Acts a from by kernel_rfl) h)
def plan15 : List (Nat × PL) := []
noncomputable def dialtonelaw36_full : ((List Ca) × ((List Se) × Se)) → Option ((List Ca) × ((List Se) × Se)) := fun (a1, (a2, (a3, (a4, (a5, (a6, a7)))))) =>
 bif (decide (((0 : Int) ≤ (minA (((List.length a1) : Nat) : Int) (120 : Int))) ∧ ((minA (((List.length a1) : Nat) : Int) (120 : Int)) ≤ (((List.length a1) : Nat) : Int)))) then 
 bindO (some (List.take (Int.toNat (minA (((List.length a1) : Nat) : Int) (120 : Int))) a1)) fun x8 =>
 bif (decide (((List.length x8) * 32) ≤ 140737488355328)) then 
 bif (decide (((0 : Int) ≤ (minA (((List.length a2) : Nat) : Int) (120 : Int))) ∧ ((minA (((List.length a2) : Nat) : Int) (120 : Int)) ≤ (((List.length a2) : Nat) : Int)))) then 
 bindO (some (List.take (Int.toNat (minA (((List.length a2) : Nat) : Int) (120 : Int))) a2)) fun x10 =>
 bif (decide (((List.length x10) * 40) ≤ 140737488355328)) then 
 bif ((decide ((List.length x8) ≤ (List.length x8))) && (decide ((List.length x10) ≤ (List.length x10)))) then 
 some ((List.take (List.length x8) x8), ((List.take (List.length x10) x10), (a3, (a4, (a5, (a6, a7))))))
 else none
 else none
 else none
 else none
 else none
noncomputable def cons15 : List (Nat × CE) := (86, ⟨[(.tmp 0 false [(.dat (.list qtA))]), (.tmp 1 false [(.dat (.list qtA))])], [(.tmp 0 false [(.dat .bool)])], dialtoneref36_Acts⟩) :: cons86
theorem cons15_ok : ConL Try.prog cons15 := ⟨con86, cons86_ok⟩
theorem con15 : ConOk Try.prog 15 ⟨[(.tmp 0 true [qdC, qdS, qd, qd, qd, qd, qd])], [(.tmp 0 true [qdC, qdS, qd, qd, qd, qd, qd])], dialtonelaw36_full⟩ :=
  tree_ok (plan := planOf plan15) (eg := egNo) KK tabL_ok (conOf_ok cons15_ok) Try.func15 (by kernel_rfl) (by kernel_rfl) 10000 (fun a r h => Eq.trans (show _ = dialtonelaw36_full a from by kernel_rfl) h)
def plan16 : List (Nat × PL) := [(262657, (.carry []))]
noncomputable def dialtonelaw36_soon : (((List Ca) × ((List Se) × Se)) × Int) → Option Int := fun ((a1, (a2, (a3, (a4, (a5, (a6, a7)))))), a8) =>
 joinO (bif (decide (a5 < (1 : Int))) then
 outO (some a8)
 else
 bif (decide (a5 > (86400000 : Int))) then
 outO (some a8)
 else
 bif (decide (a6 < (0 : Int))) then
 outO (some a8)
 else
 bif (decide (a6 > (86400000 : Int))) then
 outO (some a8)
 else
 bif (decide (a7 < (0 : Int))) then
 outO (some a8)
 else
 bif (decide (a8 ≤ a7)) then
 outO (some a8)
 else
 bif (decide (a8 > (1099511627776 : Int))) then
 outO (some a8)
 else
 some (Sum.inl ())) fun _ =>
 bindO (some (Go.IntKind.wrap .i64 ((20 : Int) * (Go.IntKind.wrap .i64 (a5 + a6))))) fun x11 =>
 bif (decide (x11 ≠ (0 : Int))) then 
 some (Go.IntKind.wrap .i64 (a7 + (Int.tmod (Go.IntKind.wrap .i64 (a8 - a7)) x11)))
 else none
noncomputable def cons16 : List (Nat × CE) := (15, ⟨[(.tmp 0 true [qdC, qdS, qd, qd, qd, qd, qd])], [(.tmp 0 true [qdC, qdS, qd, qd, qd, qd, qd])], dialtonelaw36_full⟩) :: cons15
theorem cons16_ok : ConL Try.prog cons16 := ⟨con15, cons15_ok⟩
theorem con16 : ConOk Try.prog 16 ⟨[(.tmp 0 true [qdC, qdS, qd, qd, qd, qd, qd]), (.tmp 1 false [qd])], [(.tmp 0 false [qd])], dialtonelaw36_soon⟩ :=
  tree_ok (plan := planOf plan16) (eg := egNo) KK tabL_ok (conOf_ok cons16_ok) Try.func16 (by kernel_rfl) (by kernel_rfl) 10000 (fun a r h => Eq.trans (show _ = dialtonelaw36_soon a from by kernel_rfl) h)
def plan13 : List (Nat × PL) := [(134480385, (.carry [.tmp 4 false [qd]])), (18049651601311750, (.carry [.tmp 5 false [qd], .tmp 4 false [qd]])), (68853957121, (.carry [.tmp 3 false [qd]])), (4731607869374267392513, (.carry [.tmp 4 false [qd], .tmp 6 false [qd]])), (9241421688456087558, (.carry [.tmp 8 false [qd], .tmp 3 false [qd]])), (635065658014334951087445901825, (.carry [.tmp 7 false [qd], .tmp 6 false [qd]])), (85237069749509028565948118265728600070, (.carry [.tmp 7 false [qd], .tmp 6 false [qd]]))]
noncomputable def dialtonelaw36_rings : ((List Ca) × ((List Se) × Se)) → Option Bool := fun (a1, (a2, (a3, (a4, (a5, (a6, a7)))))) =>
 joinO (loopO (fun (v8, v9) =>
 bif (decide (v8 < (((List.length a1) : Nat) : Int))) then
 joinO (joinO (loopO (fun (v10, v11) =>
 bif (decide (v10 < (((List.length a2) : Nat) : Int))) then
 bif (decide (((0 : Int) ≤ v10) ∧ (v10 < (((List.length a2) : Nat) : Int)))) then 
 bindO a2[(Int.toNat v10)]? fun x12 =>
 bif (decide (x12.2.1 = (2 : Int))) then
 bif (decide (((0 : Int) ≤ v10) ∧ (v10 < (((List.length a2) : Nat) : Int)))) then 
 bindO a2[(Int.toNat v10)]? fun x13 =>
 bif (decide (((0 : Int) ≤ v8) ∧ (v8 < (((List.length a1) : Nat) : Int)))) then 
 bindO a1[(Int.toNat v8)]? fun x14 =>
 bif (decide (x13.2.2.2.1 = x14.1)) then
 some (Sum.inl ((Go.IntKind.wrap .i64 (v10 + (1 : Int))), (Go.IntKind.wrap .i64 (v11 + (1 : Int)))))
 else
 some (Sum.inl ((Go.IntKind.wrap .i64 (v10 + (1 : Int))), v11))
 else none
 else none
 else
 some (Sum.inl ((Go.IntKind.wrap .i64 (v10 + (1 : Int))), v11))
 else none
 else
 outO (some (Sum.inl (v10, v11)))) ((0 : Int), (0 : Int))) fun (v19, v20) =>
 bif (decide (v20 > (1 : Int))) then
 outO (outO (outO (some Bool.false)))
 else
 bif (decide (((0 : Int) ≤ v8) ∧ (v8 < (((List.length a1) : Nat) : Int)))) then 
 bindO a1[(Int.toNat v8)]? fun x21 =>
 bif ((decide (v20 = (1 : Int))) != (decide (x21.2.2.2 ≠ (0 : Int)))) then
 outO (outO (outO (some Bool.false)))
 else
 bif (decide (v20 = (0 : Int))) then
 some (Sum.inl ((Go.IntKind.wrap .i64 (v9 + (1 : Int))), v20))
 else
 some (Sum.inl (v9, v20))
 else none) fun (v23, v24) =>
 some (Sum.inl ((Go.IntKind.wrap .i64 (v8 + (1 : Int))), v23))
 else
 outO (some (Sum.inl v9))) ((0 : Int), (0 : Int))) fun v26 =>
 joinO (loopO (fun (v27, v28) =>
 bif (decide (v27 < (((List.length a2) : Nat) : Int))) then
 bif (decide (((0 : Int) ≤ v27) ∧ (v27 < (((List.length a2) : Nat) : Int)))) then 
 bindO a2[(Int.toNat v27)]? fun x29 =>
 bif (decide (x29.2.1 = (1 : Int))) then
 some (Sum.inl ((Go.IntKind.wrap .i64 (v27 + (1 : Int))), (Go.IntKind.wrap .i64 (v28 + (1 : Int)))))
 else
 some (Sum.inl ((Go.IntKind.wrap .i64 (v27 + (1 : Int))), v28))
 else none
 else
 outO (some (Sum.inl v28))) ((0 : Int), (0 : Int))) fun v33 =>
 bif (decide (v33 = (0 : Int))) then
 some Bool.true
 else
 some (decide (v26 = (0 : Int)))
noncomputable def cons13 : List (Nat × CE) := (16, ⟨[(.tmp 0 true [qdC, qdS, qd, qd, qd, qd, qd]), (.tmp 1 false [qd])], [(.tmp 0 false [qd])], dialtonelaw36_soon⟩) :: cons16
theorem cons13_ok : ConL Try.prog cons13 := ⟨con16, cons16_ok⟩
theorem con13 : ConOk Try.prog 13 ⟨[(.tmp 0 true [qdC, qdS, qd, qd, qd, qd, qd])], [(.tmp 0 false [(.dat .bool)])], dialtonelaw36_rings⟩ :=
  tree_ok (plan := planOf plan13) (eg := egNo) KK tabL_ok (conOf_ok cons13_ok) Try.func13 (by kernel_rfl) (by kernel_rfl) 10000 (fun a r h => Eq.trans (show _ = dialtonelaw36_rings a from by kernel_rfl) h)
end Go.Proofs.Ytkmfgldoljegoaa
