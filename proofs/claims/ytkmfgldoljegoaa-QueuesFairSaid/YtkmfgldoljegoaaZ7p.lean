import Derived.Test.YtkmfgldoljegoaaFp
import Derived.Test.YtkmfgldoljegoaaXBp
import Derived.Test.YtkmfgldoljegoaaM1p
import Derived.Test.YtkmfgldoljegoaaZ4p
set_option linter.unusedVariables false
set_option maxRecDepth 1000000
set_option maxHeartbeats 0
namespace Go.Proofs.Ytkmfgldoljegoaa
open Go.RowKit
def plan24 : List (Nat × PL) := [(9241421688590303745, (.carry [.tmp 11 false [(.dat (.int .u8))], .tmp 10 false [(.dat (.list qtA))], .mix 21 [qdC, qdS, qd, qd, qd, qd, qd]]))]
noncomputable def dialtonelaw36_play : (((List Ca) × ((List Se) × Se)) × (Int × (Int × (Int × Int)))) → Option (((List Ca) × ((List Se) × Se)) × ((List Ac) × Bool)) := fun ((a1, (a2, (a3, (a4, (a5, (a6, a7)))))), (a8, (a9, (a10, a11)))) =>
 bindO (some (Go.IntKind.wrap .i64 ((1 : Int) + (Go.IntKind.wrap .i64 (Int.tmod (Go.IntKind.wrap .u64 a9) (6 : Int)))))) fun x15 =>
 bindO (some (Go.IntKind.wrap .i64 (a7 + (Go.IntKind.wrap .i64 (Int.tmod (Go.IntKind.wrap .u64 a11) (5000 : Int)))))) fun x19 =>
 joinO (bindO (some (Int.tmod a8 (8 : Int))) fun x20 =>
 bif (decide (x20 = (0 : Int))) then
 bindO (queues_Join ((a1, (a2, (a3, (a4, (a5, (a6, a7)))))), ((Go.IntKind.wrap .i64 ((100 : Int) + x15)), ((Go.IntKind.wrap .i64 (Int.tmod (Go.IntKind.wrap .u64 a10) (3 : Int))), x19)))) fun ((x26, (x27, (x28, (x29, (x30, (x31, x32)))))), (x33, x34)) =>
 some (Sum.inl (x34, (x33, (x26, (x27, (x28, (x29, (x30, (x31, x32)))))))))
 else
 bif (decide (x20 = (1 : Int))) then
 bindO (queues_Leave ((a1, (a2, (a3, (a4, (a5, (a6, a7)))))), ((Go.IntKind.wrap .i64 ((100 : Int) + x15)), x19))) fun ((x37, (x38, (x39, (x40, (x41, (x42, x43)))))), (x44, x45)) =>
 some (Sum.inl (x45, (x44, (x37, (x38, (x39, (x40, (x41, (x42, x43)))))))))
 else
 bif (decide (x20 = (2 : Int))) then
 bindO (queues_Login ((a1, (a2, (a3, (a4, (a5, (a6, a7)))))), (x15, x19))) fun ((x47, (x48, (x49, (x50, (x51, (x52, x53)))))), (x54, x55)) =>
 some (Sum.inl (x55, (x54, (x47, (x48, (x49, (x50, (x51, (x52, x53)))))))))
 else
 bif (decide (x20 = (3 : Int))) then
 bindO (queues_Logout ((a1, (a2, (a3, (a4, (a5, (a6, a7)))))), (x15, x19))) fun ((x57, (x58, (x59, (x60, (x61, (x62, x63)))))), (x64, x65)) =>
 some (Sum.inl (x65, (x64, (x57, (x58, (x59, (x60, (x61, (x62, x63)))))))))
 else
 bif (decide (x20 = (4 : Int))) then
 bindO (queues_Accept ((a1, (a2, (a3, (a4, (a5, (a6, a7)))))), (x15, x19))) fun ((x67, (x68, (x69, (x70, (x71, (x72, x73)))))), (x74, x75)) =>
 some (Sum.inl (x75, (x74, (x67, (x68, (x69, (x70, (x71, (x72, x73)))))))))
 else
 bif (decide (x20 = (5 : Int))) then
 bindO (queues_Refuse ((a1, (a2, (a3, (a4, (a5, (a6, a7)))))), (x15, x19))) fun ((x77, (x78, (x79, (x80, (x81, (x82, x83)))))), (x84, x85)) =>
 some (Sum.inl (x85, (x84, (x77, (x78, (x79, (x80, (x81, (x82, x83)))))))))
 else
 bif (decide (x20 = (6 : Int))) then
 bindO (queues_Done ((a1, (a2, (a3, (a4, (a5, (a6, a7)))))), (x15, x19))) fun ((x87, (x88, (x89, (x90, (x91, (x92, x93)))))), (x94, x95)) =>
 some (Sum.inl (x95, (x94, (x87, (x88, (x89, (x90, (x91, (x92, x93)))))))))
 else
 bindO (queues_Advance ((a1, (a2, (a3, (a4, (a5, (a6, a7)))))), x19)) fun ((x97, (x98, (x99, (x100, (x101, (x102, x103)))))), (x104, x105)) =>
 some (Sum.inl (x105, (x104, (x97, (x98, (x99, (x100, (x101, (x102, x103)))))))))) fun (v106, (v107, (v108, (v109, (v110, (v111, (v112, (v113, v114)))))))) =>
 bif (decide (v106 ≠ (0 : Int))) then
 some ((a1, (a2, (a3, (a4, (a5, (a6, a7)))))), (([] : List Ac), Bool.false))
 else
 some ((v108, (v109, (v110, (v111, (v112, (v113, v114)))))), (v107, Bool.true))
noncomputable def cons24 : List (Nat × CE) := (54, ⟨[(.tmp 0 true [qdC, qdS, qd, qd, qd, qd, qd]), (.tmp 1 false [qd]), (.tmp 2 false [qd])], [(.tmp 0 true [qdC, qdS, qd, qd, qd, qd, qd]), (.tmp 1 false [(.dat (.list qtA))]), (.tmp 2 false [(.dat (.int .u8))])], queues_Done⟩) :: (62, ⟨[(.tmp 0 true [qdC, qdS, qd, qd, qd, qd, qd]), (.tmp 1 false [qd]), (.tmp 2 false [qd])], [(.tmp 0 true [qdC, qdS, qd, qd, qd, qd, qd]), (.tmp 1 false [(.dat (.list qtA))]), (.tmp 2 false [(.dat (.int .u8))])], queues_Refuse⟩) :: (63, ⟨[(.tmp 0 true [qdC, qdS, qd, qd, qd, qd, qd]), (.tmp 1 false [qd]), (.tmp 2 false [qd])], [(.tmp 0 true [qdC, qdS, qd, qd, qd, qd, qd]), (.tmp 1 false [(.dat (.list qtA))]), (.tmp 2 false [(.dat (.int .u8))])], queues_Accept⟩) :: (53, ⟨[(.tmp 0 true [qdC, qdS, qd, qd, qd, qd, qd]), (.tmp 1 false [qd]), (.tmp 2 false [qd])], [(.tmp 0 true [qdC, qdS, qd, qd, qd, qd, qd]), (.tmp 1 false [(.dat (.list qtA))]), (.tmp 2 false [(.dat (.int .u8))])], queues_Logout⟩) :: (12, ⟨[(.tmp 0 true [qdC, qdS, qd, qd, qd, qd, qd]), (.tmp 1 false [qd]), (.tmp 2 false [qd])], [(.tmp 0 true [qdC, qdS, qd, qd, qd, qd, qd]), (.tmp 1 false [(.dat (.list qtA))]), (.tmp 2 false [(.dat (.int .u8))])], queues_Login⟩) :: (78, ⟨[(.tmp 0 true [qdC, qdS, qd, qd, qd, qd, qd]), (.tmp 1 false [qd]), (.tmp 2 false [qd])], [(.tmp 0 true [qdC, qdS, qd, qd, qd, qd, qd]), (.tmp 1 false [(.dat (.list qtA))]), (.tmp 2 false [(.dat (.int .u8))])], queues_Leave⟩) :: (11, ⟨[(.tmp 0 true [qdC, qdS, qd, qd, qd, qd, qd]), (.tmp 1 false [qd]), (.tmp 2 false [qd]), (.tmp 3 false [qd])], [(.tmp 0 true [qdC, qdS, qd, qd, qd, qd, qd]), (.tmp 1 false [(.dat (.list qtA))]), (.tmp 2 false [(.dat (.int .u8))])], queues_Join⟩) :: (25, ⟨[(.tmp 0 true [qdC, qdS, qd, qd, qd, qd, qd]), (.tmp 1 false [qd])], [(.tmp 0 true [qdC, qdS, qd, qd, qd, qd, qd]), (.tmp 1 false [(.dat (.list qtA))]), (.tmp 2 false [(.dat (.int .u8))])], queues_Advance⟩) :: (13, ⟨[(.tmp 0 true [qdC, qdS, qd, qd, qd, qd, qd])], [(.tmp 0 false [(.dat .bool)])], dialtonelaw36_rings⟩) :: cons13
theorem cons24_ok : ConL Try.prog cons24 := ⟨con54, ⟨con62, ⟨con63, ⟨con53, ⟨con12, ⟨con78, ⟨con11, ⟨con25, ⟨con13, cons13_ok⟩⟩⟩⟩⟩⟩⟩⟩⟩
theorem con24 : ConOk Try.prog 24 ⟨[(.tmp 0 true [qdC, qdS, qd, qd, qd, qd, qd]), (.tmp 1 true [(.dat (.int .u8)), qd, qd, qd])], [(.tmp 0 true [qdC, qdS, qd, qd, qd, qd, qd]), (.tmp 1 false [(.dat (.list qtA))]), (.tmp 2 false [(.dat .bool)])], dialtonelaw36_play⟩ :=
  tree_ok (plan := planOf plan24) (eg := egNo) KK tabL_ok (conOf_ok cons24_ok) Try.func24 (by kernel_rfl) (by kernel_rfl) 10000 (fun a r h => Eq.trans (show _ = dialtonelaw36_play a from by kernel_rfl) h)
def plan6 : List (Nat × PL) := [(35253226045953, (.carry [.drop 6, .drop 5, .mix 5 [qdC, qdS, qd, qd, qd, qd, qd]])), (4731607904558101301254, (.carry [.tmp 7 false [qd], .tmp 6 false [qd], .tmp 5 false [qd], .mix 5 [qdC, qdS, qd, qd, qd, qd, qd]])), (1240362622532478907515929089, (.carry [.tmp 6 false [qd], .tmp 5 false [qd], .drop 12, .tmp 11 false [(.dat .bool)], .tmp 10 false [(.dat (.list qtA))], .drop 9, .tmp 8 false [qd], .mix 5 [qdC, qdS, qd, qd, qd, qd, qd]])), (22344386578566252773887596170517893699863041, (.carry [.tmp 12 false [qd], .tmp 6 false [qd]])), (2999012800128855944784890885388412275741131140237318, (.carry [.tmp 12 false [qd], .tmp 6 false [qd]])), (11440325928225921420230449239305161574329876993, (.carry [.tmp 5 false [qd]])), (5857446875251671767157990010524242726056897020417, (.carry [.tmp 6 false [qd]]))]
noncomputable def dialtonelaw36_QueuesOne : (List Ca) → Option Bool := fun a1 =>
 bindO (queues_NewQueue ((5 : Int), ((20000 : Int), ((3000 : Int), (1000 : Int))))) fun ((x3, (x4, (x5, (x6, (x7, (x8, x9)))))), x10) =>
 bif (decide (x10 ≠ (0 : Int))) then
 some Bool.false
 else
 joinO (loopO (fun (v11, (v12, (v13, (v14, (v15, (v16, (v17, (v18, (v19, v20))))))))) =>
 bif (decide (v11 < (((List.length a1) : Nat) : Int))) then
 bif (decide (v11 < (100 : Int))) then
 joinO (bif (decide (((0 : Int) ≤ v11) ∧ (v11 < (((List.length a1) : Nat) : Int)))) then 
 bindO a1[(Int.toNat v11)]? fun x21 =>
 bindO (dialtonelaw36_play ((v14, (v15, (v16, (v17, (v18, (v19, v20)))))), (x21.1, (x21.2.1, (x21.2.2.1, x21.2.2.2))))) fun ((x23, (x24, (x25, (x26, (x27, (x28, x29)))))), (x30, x31)) =>
 bif (!x31) then
 some (Sum.inl (v12, (v13, (x31, (x30, (v20, (v14, (v15, (v16, (v17, (v18, (v19, v20))))))))))))
 else
 joinO (loopO (fun (v32, v33) =>
 bif (decide (v32 < (((List.length x30) : Nat) : Int))) then
 bif (decide (((0 : Int) ≤ v32) ∧ (v32 < (((List.length x30) : Nat) : Int)))) then 
 bindO x30[(Int.toNat v32)]? fun x34 =>
 bif (decide (x34.1 = (3 : Int))) then
 some (Sum.inl ((Go.IntKind.wrap .i64 (v32 + (1 : Int))), (Go.IntKind.wrap .i64 (v33 + (1 : Int)))))
 else
 bif (decide (((0 : Int) ≤ v32) ∧ (v32 < (((List.length x30) : Nat) : Int)))) then 
 bindO x30[(Int.toNat v32)]? fun x37 =>
 bif (decide (x37.1 = (4 : Int))) then
 some (Sum.inl ((Go.IntKind.wrap .i64 (v32 + (1 : Int))), (Go.IntKind.wrap .i64 (v33 + (1 : Int)))))
 else
 some (Sum.inl ((Go.IntKind.wrap .i64 (v32 + (1 : Int))), v33))
 else none
 else none
 else
 outO (some (Sum.inl (v32, v33)))) ((0 : Int), v12)) fun (v41, v42) =>
 joinO (bif (decide (((0 : Int) ≤ v11) ∧ (v11 < (((List.length a1) : Nat) : Int)))) then 
 bindO a1[(Int.toNat v11)]? fun x43 =>
 bif (decide ((Int.tmod x43.1 (8 : Int)) = (0 : Int))) then
 some (Sum.inl (Go.IntKind.wrap .i64 (v13 + (1 : Int))))
 else
 some (Sum.inl v13)
 else none) fun v46 =>
 joinO (bif (decide (((0 : Int) ≤ v11) ∧ (v11 < (((List.length a1) : Nat) : Int)))) then 
 bindO a1[(Int.toNat v11)]? fun x47 =>
 bif (decide ((Int.tmod x47.1 (8 : Int)) = (1 : Int))) then
 some (Sum.inl (Go.IntKind.wrap .i64 (v42 + (1 : Int))))
 else
 some (Sum.inl v42)
 else none) fun v50 =>
 bif (decide (x29 < v20)) then
 outO (outO (outO (some Bool.false)))
 else
 bindO (dialtonelaw36_rings (x23, (x24, (x25, (x26, (x27, (x28, x29))))))) fun x51 =>
 bif (!x51) then
 outO (outO (outO (some Bool.false)))
 else
 bindO (queues_MayQueue (x23, (x24, (x25, (x26, (x27, (x28, x29))))))) fun x52 =>
 bif (!x52) then
 outO (outO (outO (some Bool.false)))
 else
 bif (decide ((Go.IntKind.wrap .i64 (v46 - v50)) ≠ (((List.length x23) : Nat) : Int))) then
 outO (outO (outO (some Bool.false)))
 else
 some (Sum.inl (v50, (v46, (x31, (x30, (v20, (x23, (x24, (x25, (x26, (x27, (x28, x29))))))))))))
 else none) fun (v54, (v55, (v56, (v57, (v58, (v59, (v60, (v61, (v62, (v63, (v64, v65))))))))))) =>
 some (Sum.inl ((Go.IntKind.wrap .i64 (v11 + (1 : Int))), (v54, (v55, (v59, (v60, (v61, (v62, (v63, (v64, v65))))))))))
 else
 outO (some (Sum.inl (v14, (v15, (v16, (v17, (v18, (v19, v20))))))))
 else
 outO (some (Sum.inl (v14, (v15, (v16, (v17, (v18, (v19, v20))))))))) ((0 : Int), ((0 : Int), ((0 : Int), (x3, (x4, (x5, (x6, (x7, (x8, x9)))))))))) fun (v67, (v68, (v69, (v70, (v71, (v72, v73)))))) =>
 bindO (queues_Advance ((v67, (v68, (v69, (v70, (v71, (v72, v73)))))), (Go.IntKind.wrap .i64 (v73 + (20000 : Int))))) fun ((x76, (x77, (x78, (x79, (x80, (x81, x82)))))), (x83, x84)) =>
 bif (decide (x84 = (0 : Int))) then
 bif (decide ((((List.length x76) : Nat) : Int) = (0 : Int))) then
 some Bool.true
 else
 some Bool.false
 else
 some Bool.false
noncomputable def cons6 : List (Nat × CE) := (24, ⟨[(.tmp 0 true [qdC, qdS, qd, qd, qd, qd, qd]), (.tmp 1 true [(.dat (.int .u8)), qd, qd, qd])], [(.tmp 0 true [qdC, qdS, qd, qd, qd, qd, qd]), (.tmp 1 false [(.dat (.list qtA))]), (.tmp 2 false [(.dat .bool)])], dialtonelaw36_play⟩) :: cons24
theorem cons6_ok : ConL Try.prog cons6 := ⟨con24, cons24_ok⟩
theorem con6 : ConOk Try.prog 6 ⟨[(.tmp 0 false [(.dat (.list (.pair (.int .u8) (.pair (.int .i64) (.pair (.int .i64) (.int .i64))))))])], [(.tmp 0 false [(.dat .bool)])], dialtonelaw36_QueuesOne⟩ :=
  tree_ok (plan := planOf plan6) (eg := egNo) KK tabL_ok (conOf_ok cons6_ok) Try.func6 (by kernel_rfl) (by kernel_rfl) 10000 (fun a r h => Eq.trans (show _ = dialtonelaw36_QueuesOne a from by kernel_rfl) h)
def plan3 : List (Nat × PL) := [(35253226045953, (.carry [.mix 5 [qdC, qdS, qd, qd, qd, qd, qd]])), (4731607904558101301254, (.carry [.tmp 8 false [qd], .mix 5 [qdC, qdS, qd, qd, qd, qd, qd]])), (9241421688590303745, (.carry [.arr 14 .bool, .mix 5 [qdC, qdS, qd, qd, qd, qd, qd]])), (1240362622532514091349837830, (.carry [.tmp 13 false [qd], .arr 14 .bool, .mix 5 [qdC, qdS, qd, qd, qd, qd, qd]])), (325153619321163373962811888108033, (.carry [.tmp 16 false [(.dat (.int .u8))], .tmp 15 false [(.dat (.list qtA))], .drop 14, .drop 17, .mix 5 [qdC, qdS, qd, qd, qd, qd, qd], .arr 14 .bool])), (1535494553666017799206595331677722655485720528928637441, (.carry [])), (786173211477001113193776809818993999608688910811462369793, (.carry [.tmp 18 false [qd]])), (105518382258906613666339547152993465873111114667909115630978336774, (.carry [.tmp 18 false [qd]]))]
noncomputable def dialtonelaw36_QueuesFair : ((List Int) × Int) → Option Bool := fun (a1, a2) =>
 bindO (queues_NewQueue ((20 : Int), ((0 : Int), ((1000 : Int), (0 : Int))))) fun ((x4, (x5, (x6, (x7, (x8, (x9, x10)))))), x11) =>
 bif (decide (x11 ≠ (0 : Int))) then
 some Bool.false
 else
 joinO (loopO (fun (v12, (v13, (v14, (v15, (v16, (v17, (v18, v19))))))) =>
 bif (decide (v12 < (minA (((List.length a1) : Nat) : Int) (20 : Int)))) then
 bif (decide (((0 : Int) ≤ v12) ∧ (v12 < (((List.length a1) : Nat) : Int)))) then 
 bindO a1[(Int.toNat v12)]? fun x21 =>
 bindO (queues_Join ((v13, (v14, (v15, (v16, (v17, (v18, v19)))))), ((Go.IntKind.wrap .i64 (v12 + (1 : Int))), ((Go.IntKind.wrap .i64 (Int.tmod x21 (4 : Int))), v12)))) fun ((x25, (x26, (x27, (x28, (x29, (x30, x31)))))), (x32, x33)) =>
 bif (decide (x33 ≠ (0 : Int))) then
 outO (outO (some Bool.false))
 else
 bif (decide ((((List.length x32) : Nat) : Int) ≠ (0 : Int))) then
 outO (outO (some Bool.false))
 else
 some (Sum.inl ((Go.IntKind.wrap .i64 (v12 + (1 : Int))), (x25, (x26, (x27, (x28, (x29, (x30, x31))))))))
 else none
 else
 outO (some (Sum.inl (v13, (v14, (v15, (v16, (v17, (v18, v19))))))))) ((0 : Int), (x4, (x5, (x6, (x7, (x8, (x9, x10)))))))) fun (v35, (v36, (v37, (v38, (v39, (v40, v41)))))) =>
 joinO (loopO (fun (v42, (v43, (v44, (v45, (v46, (v47, (v48, (v49, v50)))))))) =>
 bif (decide (v42 < (Go.IntKind.wrap .i64 (Int.tmod a2 (21 : Int))))) then
 joinO (bindO (queues_Login ((v44, (v45, (v46, (v47, (v48, (v49, v50)))))), ((Go.IntKind.wrap .i64 ((50 : Int) + v42)), (30 : Int)))) fun ((x55, (x56, (x57, (x58, (x59, (x60, x61)))))), (x62, x63)) =>
 bif (decide (x63 ≠ (0 : Int))) then
 outO (outO (outO (some Bool.false)))
 else
 bif (decide (v42 ≥ (minA (((List.length a1) : Nat) : Int) (20 : Int)))) then
 bif (decide ((((List.length x62) : Nat) : Int) ≠ (0 : Int))) then
 outO (outO (outO (some Bool.false)))
 else
 some (Sum.inl (x63, (x62, ((x55, (x56, (x57, (x58, (x59, (x60, x61)))))), v43))))
 else
 bif (decide ((((List.length x62) : Nat) : Int) ≠ (1 : Int))) then
 outO (outO (outO (some Bool.false)))
 else
 bif (decide (((0 : Int) ≤ (0 : Int)) ∧ ((0 : Int) < (((List.length x62) : Nat) : Int)))) then 
 bindO x62[0]? fun x64 =>
 joinO (bif (decide (((0 : Int) ≤ (0 : Int)) ∧ ((0 : Int) < (((List.length x62) : Nat) : Int)))) then 
 bindO x62[0]? fun x65 =>
 bif (decide (x65.1 ≠ (1 : Int))) then
 outO (outO (outO (outO (some Bool.false))))
 else
 bif (decide (((0 : Int) ≤ (0 : Int)) ∧ ((0 : Int) < (((List.length x62) : Nat) : Int)))) then 
 bindO x62[0]? fun x66 =>
 bif (decide (x66.2.2 ≠ (Go.IntKind.wrap .i64 ((50 : Int) + v42)))) then
 outO (outO (outO (outO (some Bool.false))))
 else
 bif (decide (x64.2.1 < (1 : Int))) then
 outO (outO (outO (outO (some Bool.false))))
 else
 bif (decide (x64.2.1 > (minA (((List.length a1) : Nat) : Int) (20 : Int)))) then
 outO (outO (outO (outO (some Bool.false))))
 else
 bif (decide (((0 : Int) ≤ x64.2.1) ∧ (x64.2.1 < (21 : Int)))) then 
 bindO v43[(Int.toNat x64.2.1)]? fun x68 =>
 bif x68 then
 outO (outO (outO (outO (some Bool.false))))
 else
 some (Sum.inl ())
 else none
 else none
 else none) fun _ =>
 joinO (loopO (fun v69 =>
 bif (decide (v69 ≤ (minA (((List.length a1) : Nat) : Int) (20 : Int)))) then
 bindO (some (Go.IntKind.wrap .i64 (v69 - (1 : Int)))) fun x70 =>
 bif (decide (((0 : Int) ≤ x70) ∧ (x70 < (((List.length a1) : Nat) : Int)))) then 
 bindO a1[(Int.toNat x70)]? fun x71 =>
 bindO (some (Go.IntKind.wrap .i64 (x64.2.1 - (1 : Int)))) fun x73 =>
 bif (decide (((0 : Int) ≤ x73) ∧ (x73 < (((List.length a1) : Nat) : Int)))) then 
 bindO a1[(Int.toNat x73)]? fun x74 =>
 bif (decide ((Int.tmod x71 (4 : Int)) > (Int.tmod x74 (4 : Int)))) then
 bif (decide (((0 : Int) ≤ v69) ∧ (v69 < (21 : Int)))) then 
 bindO v43[(Int.toNat v69)]? fun x76 =>
 bif (!x76) then
 outO (outO (outO (outO (outO (some Bool.false)))))
 else
 some (Sum.inl (Go.IntKind.wrap .i64 (v69 + (1 : Int))))
 else none
 else
 bindO (some (Go.IntKind.wrap .i64 (v69 - (1 : Int)))) fun x78 =>
 bif (decide (((0 : Int) ≤ x78) ∧ (x78 < (((List.length a1) : Nat) : Int)))) then 
 bindO a1[(Int.toNat x78)]? fun x79 =>
 bindO (some (Go.IntKind.wrap .i64 (x64.2.1 - (1 : Int)))) fun x81 =>
 bif (decide (((0 : Int) ≤ x81) ∧ (x81 < (((List.length a1) : Nat) : Int)))) then 
 bindO a1[(Int.toNat x81)]? fun x82 =>
 bif (decide ((Int.tmod x79 (4 : Int)) = (Int.tmod x82 (4 : Int)))) then
 bif (decide (((0 : Int) ≤ v69) ∧ (v69 < (21 : Int)))) then 
 bindO v43[(Int.toNat v69)]? fun x84 =>
 bif (!x84) then
 bif (decide (v69 < x64.2.1)) then
 outO (outO (outO (outO (outO (some Bool.false)))))
 else
 some (Sum.inl (Go.IntKind.wrap .i64 (v69 + (1 : Int))))
 else
 some (Sum.inl (Go.IntKind.wrap .i64 (v69 + (1 : Int))))
 else none
 else
 bif (decide (((0 : Int) ≤ v69) ∧ (v69 < (21 : Int)))) then 
 bindO v43[(Int.toNat v69)]? fun x87 =>
 bif (!x87) then
 some (Sum.inl (Go.IntKind.wrap .i64 (v69 + (1 : Int))))
 else
 some (Sum.inl (Go.IntKind.wrap .i64 (v69 + (1 : Int))))
 else none
 else none
 else none
 else none
 else none
 else
 outO (some (Sum.inl v69))) (1 : Int)) fun v90 =>
 bif (decide (((0 : Int) ≤ x64.2.1) ∧ (x64.2.1 < (21 : Int)))) then 
 bif (decide ((Int.toNat x64.2.1) < (List.length v43))) then 
 some (Sum.inl (x63, (x62, ((x55, (x56, (x57, (x58, (x59, (x60, x61)))))), (List.set v43 (Int.toNat x64.2.1) Bool.true)))))
 else none
 else none
 else none) fun (v91, (v92, ((v93, (v94, (v95, (v96, (v97, (v98, v99)))))), v100))) =>
 some (Sum.inl ((Go.IntKind.wrap .i64 (v42 + (1 : Int))), (v100, (v93, (v94, (v95, (v96, (v97, (v98, v99)))))))))
 else
 outO (some (Sum.inl (v43, (v44, (v45, (v46, (v47, (v48, (v49, v50)))))))))) ((0 : Int), ((List.replicate 21 Bool.false), (v35, (v36, (v37, (v38, (v39, (v40, v41))))))))) fun (v102, (v103, (v104, (v105, (v106, (v107, (v108, v109))))))) =>
 bindO (dialtonelaw36_rings (v103, (v104, (v105, (v106, (v107, (v108, v109))))))) fun x110 =>
 bif x110 then
 some Bool.true
 else
 some Bool.false
noncomputable def cons3 : List (Nat × CE) := (6, ⟨[(.tmp 0 false [(.dat (.list (.pair (.int .u8) (.pair (.int .i64) (.pair (.int .i64) (.int .i64))))))])], [(.tmp 0 false [(.dat .bool)])], dialtonelaw36_QueuesOne⟩) :: cons6
theorem cons3_ok : ConL Try.prog cons3 := ⟨con6, cons6_ok⟩
theorem con3 : ConOk Try.prog 3 ⟨[(.tmp 0 false [(.dat (.list (.int .u8)))]), (.tmp 1 false [(.dat (.int .u8))])], [(.tmp 0 false [(.dat .bool)])], dialtonelaw36_QueuesFair⟩ :=
  tree_ok (plan := planOf plan3) (eg := egNo) KK tabL_ok (conOf_ok cons3_ok) Try.func3 (by kernel_rfl) (by kernel_rfl) 10000 (fun a r h => Eq.trans (show _ = dialtonelaw36_QueuesFair a from by kernel_rfl) h)
end Go.Proofs.Ytkmfgldoljegoaa
