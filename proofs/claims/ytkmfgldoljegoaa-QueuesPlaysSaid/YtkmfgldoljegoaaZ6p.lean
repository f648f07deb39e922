import Derived.Test.YtkmfgldoljegoaaFp
import Derived.Test.YtkmfgldoljegoaaXBp
import Derived.Test.YtkmfgldoljegoaaM1p
import Derived.Test.YtkmfgldoljegoaaZ4p
import Derived.Test.YtkmfgldoljegoaaZ5p
set_option linter.unusedVariables false
set_option maxRecDepth 1000000
set_option maxHeartbeats 0
namespace Go.Proofs.Ytkmfgldoljegoaa
open Go.RowKit
def plan23 : List (Nat × PL) := [(18049651735527937, (.carry [.tmp 13 false [(.dat (.int .u8))], .tmp 11 false [(.dat (.list qtA))], .tmp 12 false [(.dat (.int .u8))], .tmp 10 false [(.dat (.list qtA))], .mix 10 [qdC, qdS, qd, qd, qd, qd, qd], .mix 9 [qdC, qdS, qd, qd, qd, qd, qd]]))]
noncomputable def dialtonelaw36_step : (((List Ca) × ((List Se) × Se)) × (Int × (Int × (Int × Int)))) → Option (((List Ca) × ((List Se) × Se)) × (Bool × Bool)) := fun ((a1, (a2, (a3, (a4, (a5, (a6, a7)))))), (a8, (a9, (a10, a11)))) =>
 bindO (dialtonelaw36_full (a1, (a2, (a3, (a4, (a5, (a6, a7))))))) fun (x13, (x14, (x15, (x16, (x17, (x18, x19)))))) =>
 joinO (bindO (some (Int.tmod a8 (8 : Int))) fun x20 =>
 bif (decide (x20 = (0 : Int))) then
 bindO (queues_Join ((a1, (a2, (a3, (a4, (a5, (a6, a7)))))), (a9, (a10, a11)))) fun ((x22, (x23, (x24, (x25, (x26, (x27, x28)))))), (x29, x30)) =>
 bindO (dialtoneref36_Join ((x13, (x14, (x15, (x16, (x17, (x18, x19)))))), (a9, (a10, a11)))) fun ((x32, (x33, (x34, (x35, (x36, (x37, x38)))))), (x39, x40)) =>
 some (Sum.inl (x40, (x39, (x30, (x29, ((x32, (x33, (x34, (x35, (x36, (x37, x38)))))), (x22, (x23, (x24, (x25, (x26, (x27, x28))))))))))))
 else
 bif (decide (x20 = (1 : Int))) then
 bindO (queues_Leave ((a1, (a2, (a3, (a4, (a5, (a6, a7)))))), (a9, a11))) fun ((x42, (x43, (x44, (x45, (x46, (x47, x48)))))), (x49, x50)) =>
 bindO (dialtoneref36_Leave ((x13, (x14, (x15, (x16, (x17, (x18, x19)))))), (a9, a11))) fun ((x52, (x53, (x54, (x55, (x56, (x57, x58)))))), (x59, x60)) =>
 some (Sum.inl (x60, (x59, (x50, (x49, ((x52, (x53, (x54, (x55, (x56, (x57, x58)))))), (x42, (x43, (x44, (x45, (x46, (x47, x48))))))))))))
 else
 bif (decide (x20 = (2 : Int))) then
 bindO (queues_Login ((a1, (a2, (a3, (a4, (a5, (a6, a7)))))), (a9, a11))) fun ((x62, (x63, (x64, (x65, (x66, (x67, x68)))))), (x69, x70)) =>
 bindO (dialtoneref36_Login ((x13, (x14, (x15, (x16, (x17, (x18, x19)))))), (a9, a11))) fun ((x72, (x73, (x74, (x75, (x76, (x77, x78)))))), (x79, x80)) =>
 some (Sum.inl (x80, (x79, (x70, (x69, ((x72, (x73, (x74, (x75, (x76, (x77, x78)))))), (x62, (x63, (x64, (x65, (x66, (x67, x68))))))))))))
 else
 bif (decide (x20 = (3 : Int))) then
 bindO (queues_Logout ((a1, (a2, (a3, (a4, (a5, (a6, a7)))))), (a9, a11))) fun ((x82, (x83, (x84, (x85, (x86, (x87, x88)))))), (x89, x90)) =>
 bindO (dialtoneref36_Logout ((x13, (x14, (x15, (x16, (x17, (x18, x19)))))), (a9, a11))) fun ((x92, (x93, (x94, (x95, (x96, (x97, x98)))))), (x99, x100)) =>
 some (Sum.inl (x100, (x99, (x90, (x89, ((x92, (x93, (x94, (x95, (x96, (x97, x98)))))), (x82, (x83, (x84, (x85, (x86, (x87, x88))))))))))))
 else
 bif (decide (x20 = (4 : Int))) then
 bindO (queues_Accept ((a1, (a2, (a3, (a4, (a5, (a6, a7)))))), (a9, a11))) fun ((x102, (x103, (x104, (x105, (x106, (x107, x108)))))), (x109, x110)) =>
 bindO (dialtoneref36_Accept ((x13, (x14, (x15, (x16, (x17, (x18, x19)))))), (a9, a11))) fun ((x112, (x113, (x114, (x115, (x116, (x117, x118)))))), (x119, x120)) =>
 some (Sum.inl (x120, (x119, (x110, (x109, ((x112, (x113, (x114, (x115, (x116, (x117, x118)))))), (x102, (x103, (x104, (x105, (x106, (x107, x108))))))))))))
 else
 bif (decide (x20 = (5 : Int))) then
 bindO (queues_Refuse ((a1, (a2, (a3, (a4, (a5, (a6, a7)))))), (a9, a11))) fun ((x122, (x123, (x124, (x125, (x126, (x127, x128)))))), (x129, x130)) =>
 bindO (dialtoneref36_Refuse ((x13, (x14, (x15, (x16, (x17, (x18, x19)))))), (a9, a11))) fun ((x132, (x133, (x134, (x135, (x136, (x137, x138)))))), (x139, x140)) =>
 some (Sum.inl (x140, (x139, (x130, (x129, ((x132, (x133, (x134, (x135, (x136, (x137, x138)))))), (x122, (x123, (x124, (x125, (x126, (x127, x128))))))))))))
 else
 bif (decide (x20 = (6 : Int))) then
 bindO (queues_Done ((a1, (a2, (a3, (a4, (a5, (a6, a7)))))), (a9, a11))) fun ((x142, (x143, (x144, (x145, (x146, (x147, x148)))))), (x149, x150)) =>
 bindO (dialtoneref36_Done ((x13, (x14, (x15, (x16, (x17, (x18, x19)))))), (a9, a11))) fun ((x152, (x153, (x154, (x155, (x156, (x157, x158)))))), (x159, x160)) =>
 some (Sum.inl (x160, (x159, (x150, (x149, ((x152, (x153, (x154, (x155, (x156, (x157, x158)))))), (x142, (x143, (x144, (x145, (x146, (x147, x148))))))))))))
 else
 bindO (queues_Advance ((a1, (a2, (a3, (a4, (a5, (a6, a7)))))), a11)) fun ((x162, (x163, (x164, (x165, (x166, (x167, x168)))))), (x169, x170)) =>
 bindO (dialtoneref36_Advance ((x13, (x14, (x15, (x16, (x17, (x18, x19)))))), a11)) fun ((x172, (x173, (x174, (x175, (x176, (x177, x178)))))), (x179, x180)) =>
 some (Sum.inl (x180, (x179, (x170, (x169, ((x172, (x173, (x174, (x175, (x176, (x177, x178)))))), (x162, (x163, (x164, (x165, (x166, (x167, x168))))))))))))) fun (v181, (v182, (v183, (v184, ((v185, (v186, (v187, (v188, (v189, (v190, v191)))))), (v192, (v193, (v194, (v195, (v196, (v197, v198))))))))))) =>
 bif (decide (v183 = v181)) then
 bindO (dialtoneref36_SameQueue ((v192, (v193, (v194, (v195, (v196, (v197, v198)))))), (v185, (v186, (v187, (v188, (v189, (v190, v191)))))))) fun x199 =>
 bif x199 then
 bindO (dialtoneref36_Acts (v184, v182)) fun x200 =>
 bif x200 then
 bindO (dialtoneref36_SameQueue ((a1, (a2, (a3, (a4, (a5, (a6, a7)))))), (x13, (x14, (x15, (x16, (x17, (x18, x19)))))))) fun x201 =>
 some ((v185, (v186, (v187, (v188, (v189, (v190, v191)))))), ((decide (v181 = (0 : Int))), x201))
 else
 some ((v185, (v186, (v187, (v188, (v189, (v190, v191)))))), ((decide (v181 = (0 : Int))), Bool.false))
 else
 some ((v185, (v186, (v187, (v188, (v189, (v190, v191)))))), ((decide (v181 = (0 : Int))), Bool.false))
 else
 some ((v185, (v186, (v187, (v188, (v189, (v190, v191)))))), ((decide (v181 = (0 : Int))), Bool.false))
noncomputable def cons23 : List (Nat × CE) := (84, ⟨[(.tmp 0 true [qdC, qdS, qd, qd, qd, qd, qd]), (.tmp 1 false [qd]), (.tmp 2 false [qd])], [(.tmp 0 true [qdC, qdS, qd, qd, qd, qd, qd]), (.tmp 1 false [(.dat (.list qtA))]), (.tmp 2 false [(.dat (.int .u8))])], dialtoneref36_Done⟩) :: (83, ⟨[(.tmp 0 true [qdC, qdS, qd, qd, qd, qd, qd]), (.tmp 1 false [qd]), (.tmp 2 false [qd])], [(.tmp 0 true [qdC, qdS, qd, qd, qd, qd, qd]), (.tmp 1 false [(.dat (.list qtA))]), (.tmp 2 false [(.dat (.int .u8))])], dialtoneref36_Refuse⟩) :: (82, ⟨[(.tmp 0 true [qdC, qdS, qd, qd, qd, qd, qd]), (.tmp 1 false [qd]), (.tmp 2 false [qd])], [(.tmp 0 true [qdC, qdS, qd, qd, qd, qd, qd]), (.tmp 1 false [(.dat (.list qtA))]), (.tmp 2 false [(.dat (.int .u8))])], dialtoneref36_Accept⟩) :: (81, ⟨[(.tmp 0 true [qdC, qdS, qd, qd, qd, qd, qd]), (.tmp 1 false [qd]), (.tmp 2 false [qd])], [(.tmp 0 true [qdC, qdS, qd, qd, qd, qd, qd]), (.tmp 1 false [(.dat (.list qtA))]), (.tmp 2 false [(.dat (.int .u8))])], dialtoneref36_Logout⟩) :: (80, ⟨[(.tmp 0 true [qdC, qdS, qd, qd, qd, qd, qd]), (.tmp 1 false [qd]), (.tmp 2 false [qd])], [(.tmp 0 true [qdC, qdS, qd, qd, qd, qd, qd]), (.tmp 1 false [(.dat (.list qtA))]), (.tmp 2 false [(.dat (.int .u8))])], dialtoneref36_Login⟩) :: (79, ⟨[(.tmp 0 true [qdC, qdS, qd, qd, qd, qd, qd]), (.tmp 1 false [qd]), (.tmp 2 false [qd])], [(.tmp 0 true [qdC, qdS, qd, qd, qd, qd, qd]), (.tmp 1 false [(.dat (.list qtA))]), (.tmp 2 false [(.dat (.int .u8))])], dialtoneref36_Leave⟩) :: (77, ⟨[(.tmp 0 true [qdC, qdS, qd, qd, qd, qd, qd]), (.tmp 1 false [qd]), (.tmp 2 false [qd]), (.tmp 3 false [qd])], [(.tmp 0 true [qdC, qdS, qd, qd, qd, qd, qd]), (.tmp 1 false [(.dat (.list qtA))]), (.tmp 2 false [(.dat (.int .u8))])], dialtoneref36_Join⟩) :: (85, ⟨[(.tmp 0 true [qdC, qdS, qd, qd, qd, qd, qd]), (.tmp 1 false [qd])], [(.tmp 0 true [qdC, qdS, qd, qd, qd, qd, qd]), (.tmp 1 false [(.dat (.list qtA))]), (.tmp 2 false [(.dat (.int .u8))])], dialtoneref36_Advance⟩) :: (54, ⟨[(.tmp 0 true [qdC, qdS, qd, qd, qd, qd, qd]), (.tmp 1 false [qd]), (.tmp 2 false [qd])], [(.tmp 0 true [qdC, qdS, qd, qd, qd, qd, qd]), (.tmp 1 false [(.dat (.list qtA))]), (.tmp 2 false [(.dat (.int .u8))])], queues_Done⟩) :: (62, ⟨[(.tmp 0 true [qdC, qdS, qd, qd, qd, qd, qd]), (.tmp 1 false [qd]), (.tmp 2 false [qd])], [(.tmp 0 true [qdC, qdS, qd, qd, qd, qd, qd]), (.tmp 1 false [(.dat (.list qtA))]), (.tmp 2 false [(.dat (.int .u8))])], queues_Refuse⟩) :: (63, ⟨[(.tmp 0 true [qdC, qdS, qd, qd, qd, qd, qd]), (.tmp 1 false [qd]), (.tmp 2 false [qd])], [(.tmp 0 true [qdC, qdS, qd, qd, qd, qd, qd]), (.tmp 1 false [(.dat (.list qtA))]), (.tmp 2 false [(.dat (.int .u8))])], queues_Accept⟩) :: (53, ⟨[(.tmp 0 true [qdC, qdS, qd, qd, qd, qd, qd]), (.tmp 1 false [qd]), (.tmp 2 false [qd])], [(.tmp 0 true [qdC, qdS, qd, qd, qd, qd, qd]), (.tmp 1 false [(.dat (.list qtA))]), (.tmp 2 false [(.dat (.int .u8))])], queues_Logout⟩) :: (12, ⟨[(.tmp 0 true [qdC, qdS, qd, qd, qd, qd, qd]), (.tmp 1 false [qd]), (.tmp 2 false [qd])], [(.tmp 0 true [qdC, qdS, qd, qd, qd, qd, qd]), (.tmp 1 false [(.dat (.list qtA))]), (.tmp 2 false [(.dat (.int .u8))])], queues_Login⟩) :: (78, ⟨[(.tmp 0 true [qdC, qdS, qd, qd, qd, qd, qd]), (.tmp 1 false [qd]), (.tmp 2 false [qd])], [(.tmp 0 true [qdC, qdS, qd, qd, qd, qd, qd]), (.tmp 1 false [(.dat (.list qtA))]), (.tmp 2 false [(.dat (.int .u8))])], queues_Leave⟩) :: (11, ⟨[(.tmp 0 true [qdC, qdS, qd, qd, qd, qd, qd]), (.tmp 1 false [qd]), (.tmp 2 false [qd]), (.tmp 3 false [qd])], [(.tmp 0 true [qdC, qdS, qd, qd, qd, qd, qd]), (.tmp 1 false [(.dat (.list qtA))]), (.tmp 2 false [(.dat (.int .u8))])], queues_Join⟩) :: (25, ⟨[(.tmp 0 true [qdC, qdS, qd, qd, qd, qd, qd]), (.tmp 1 false [qd])], [(.tmp 0 true [qdC, qdS, qd, qd, qd, qd, qd]), (.tmp 1 false [(.dat (.list qtA))]), (.tmp 2 false [(.dat (.int .u8))])], queues_Advance⟩) :: cons85
theorem cons23_ok : ConL Try.prog cons23 := ⟨con84, ⟨con83, ⟨con82, ⟨con81, ⟨con80, ⟨con79, ⟨con77, ⟨con85, ⟨con54, ⟨con62, ⟨con63, ⟨con53, ⟨con12, ⟨con78, ⟨con11, ⟨con25, cons85_ok⟩⟩⟩⟩⟩⟩⟩⟩⟩⟩⟩⟩⟩⟩⟩⟩
theorem con23 : ConOk Try.prog 23 ⟨[(.tmp 0 true [qdC, qdS, qd, qd, qd, qd, qd]), (.tmp 1 true [(.dat (.int .u8)), qd, qd, qd])], [(.tmp 0 true [qdC, qdS, qd, qd, qd, qd, qd]), (.tmp 1 false [(.dat .bool)]), (.tmp 2 false [(.dat .bool)])], dialtonelaw36_step⟩ :=
  tree_ok (plan := planOf plan23) (eg := egNo) KK tabL_ok (conOf_ok cons23_ok) Try.func23 (by kernel_rfl) (by kernel_rfl) 10000 (fun a r h => Eq.trans (show _ = dialtonelaw36_step a from by kernel_rfl) h)
def plan4 : List (Nat × PL) := [(4731607904558235517441, (.carry [])), (2422583247133816584929793, (.carry [.mix 1 [(.dat (.int .u8)), qd, qd, qd]])), (325153619321163373997995722016774, (.carry [.tmp 13 false [qd], .mix 1 [(.dat (.int .u8)), qd, qd, qd]]))]
noncomputable def dialtonelaw36_QueuesRaw : (((List Ca) × ((List Se) × Se)) × (Int × (Int × (Int × Int)))) → Option Bool := fun ((a1, (a2, (a3, (a4, (a5, (a6, a7)))))), (a8, (a9, (a10, a11)))) =>
 bindO (dialtonelaw36_full (a1, (a2, (a3, (a4, (a5, (a6, a7))))))) fun (x13, (x14, (x15, (x16, (x17, (x18, x19)))))) =>
 bindO (dialtonelaw36_soon ((x13, (x14, (x15, (x16, (x17, (x18, x19)))))), a11)) fun x20 =>
 bindO (queues_Next (x13, (x14, (x15, (x16, (x17, (x18, x19))))))) fun (x22, x23) =>
 bindO (dialtoneref36_Next (x13, (x14, (x15, (x16, (x17, (x18, x19))))))) fun (x25, x26) =>
 bindO (queues_NewQueue (x15, (x16, (x17, x18)))) fun ((x28, (x29, (x30, (x31, (x32, (x33, x34)))))), x35) =>
 bindO (dialtoneref36_NewQueue (x15, (x16, (x17, x18)))) fun ((x37, (x38, (x39, (x40, (x41, (x42, x43)))))), x44) =>
 joinO (bindO (queues_MayQueue (x13, (x14, (x15, (x16, (x17, (x18, x19))))))) fun x45 =>
 bindO (dialtoneref36_MayQueue (x13, (x14, (x15, (x16, (x17, (x18, x19))))))) fun x46 =>
 bif (x45 != x46) then
 outO (some Bool.false)
 else
 bif (decide (x22 ≠ x25)) then
 outO (some Bool.false)
 else
 bif (x23 != x26) then
 outO (some Bool.false)
 else
 bif (decide (x35 ≠ x44)) then
 outO (some Bool.false)
 else
 bindO (dialtoneref36_SameQueue ((x28, (x29, (x30, (x31, (x32, (x33, x34)))))), (x37, (x38, (x39, (x40, (x41, (x42, x43)))))))) fun x47 =>
 bif (!x47) then
 outO (some Bool.false)
 else
 some (Sum.inl ())) fun _ =>
 joinO (loopO (fun (v48, (v49, (v50, (v51, v52)))) =>
 bif (decide (v48 < (8 : Int))) then
 bindO (dialtonelaw36_step ((x13, (x14, (x15, (x16, (x17, (x18, x19)))))), ((Go.IntKind.wrap .u8 v48), (v50, (v51, v52))))) fun ((x55, (x56, (x57, (x58, (x59, (x60, x61)))))), (x62, x63)) =>
 bif (!x63) then
 outO (outO (some Bool.false))
 else
 some (Sum.inl ((Go.IntKind.wrap .i64 (v48 + (1 : Int))), ((Go.IntKind.wrap .u8 v48), (v50, (v51, v52)))))
 else
 outO (some (Sum.inl (v49, (v50, (v51, v52)))))) ((0 : Int), (a8, (a9, (a10, x20))))) fun (v65, (v66, (v67, v68))) =>
 some Bool.true
noncomputable def cons4 : List (Nat × CE) := (23, ⟨[(.tmp 0 true [qdC, qdS, qd, qd, qd, qd, qd]), (.tmp 1 true [(.dat (.int .u8)), qd, qd, qd])], [(.tmp 0 true [qdC, qdS, qd, qd, qd, qd, qd]), (.tmp 1 false [(.dat .bool)]), (.tmp 2 false [(.dat .bool)])], dialtonelaw36_step⟩) :: cons23
theorem cons4_ok : ConL Try.prog cons4 := ⟨con23, cons23_ok⟩
theorem con4 : ConOk Try.prog 4 ⟨[(.tmp 0 true [qdC, qdS, qd, qd, qd, qd, qd]), (.tmp 1 true [(.dat (.int .u8)), qd, qd, qd])], [(.tmp 0 false [(.dat .bool)])], dialtonelaw36_QueuesRaw⟩ :=
  tree_ok (plan := planOf plan4) (eg := egNo) KK tabL_ok (conOf_ok cons4_ok) Try.func4 (by kernel_rfl) (by kernel_rfl) 10000 (fun a r h => Eq.trans (show _ = dialtonelaw36_QueuesRaw a from by kernel_rfl) h)
def plan5 : List (Nat × PL) := [(35253226045953, (.carry [.mix 29 [qdC, qdS, qd, qd, qd, qd, qd]])), (4731607904558101301254, (.carry [.tmp 11 false [qd], .mix 29 [qdC, qdS, qd, qd, qd, qd, qd]])), (22344386578566252773887596170517893699863041, (.carry [.mix 29 [qdC, qdS, qd, qd, qd, qd, qd]]))]
noncomputable def dialtonelaw36_QueuesPlays : ((Int × (Int × (Int × Int))) × (List Ca)) → Option Bool := fun ((a1, (a2, (a3, a4))), a5) =>
 bindO (some (Go.IntKind.wrap .i64 ((1 : Int) + (Go.IntKind.wrap .i64 (Int.tmod a1 (20 : Int)))))) fun x8 =>
 bindO (some (Go.IntKind.wrap .i64 ((1 : Int) + (Go.IntKind.wrap .i64 a3)))) fun x11 =>
 bindO (queues_NewQueue (x8, ((Go.IntKind.wrap .i64 a2), (x11, (Go.IntKind.wrap .i64 a4))))) fun ((x14, (x15, (x16, (x17, (x18, (x19, x20)))))), x21) =>
 bif (decide (x21 ≠ (0 : Int))) then
 some Bool.false
 else
 bindO (dialtoneref36_SameQueue ((x14, (x15, (x16, (x17, (x18, (x19, x20)))))), (([] : List Ca), (([] : List Se), (x8, ((Go.IntKind.wrap .i64 a2), (x11, ((Go.IntKind.wrap .i64 a4), (0 : Int))))))))) fun x22 =>
 bif (!x22) then
 some Bool.false
 else
 joinO (loopO (fun (v23, (v24, (v25, (v26, (v27, (v28, (v29, v30))))))) =>
 bif (decide (v23 < (((List.length a5) : Nat) : Int))) then
 bif (decide (v23 < (60 : Int))) then
 bif (decide (((0 : Int) ≤ v23) ∧ (v23 < (((List.length a5) : Nat) : Int)))) then 
 bindO a5[(Int.toNat v23)]? fun x31 =>
 bindO (some (Go.IntKind.wrap .i64 ((20 : Int) * (Go.IntKind.wrap .i64 (x11 + (Go.IntKind.wrap .i64 a4)))))) fun x34 =>
 bif (decide ((Go.IntKind.wrap .u64 x34) ≠ (0 : Int))) then 
 bindO (dialtonelaw36_step ((v24, (v25, (v26, (v27, (v28, (v29, v30)))))), (x31.1, (x31.2.1, (x31.2.2.1, (Go.IntKind.wrap .i64 (v30 + (Go.IntKind.wrap .i64 (Int.tmod (Go.IntKind.wrap .u64 x31.2.2.2) (Go.IntKind.wrap .u64 x34)))))))))) fun ((x40, (x41, (x42, (x43, (x44, (x45, x46)))))), (x47, x48)) =>
 bif (!x48) then
 outO (outO (some Bool.false))
 else
 joinO (bif x47 then
 some (Sum.inl (x40, (x41, (x42, (x43, (x44, (x45, x46)))))))
 else
 some (Sum.inl (v24, (v25, (v26, (v27, (v28, (v29, v30)))))))) fun (v49, (v50, (v51, (v52, (v53, (v54, v55)))))) =>
 bindO (queues_MayQueue (v49, (v50, (v51, (v52, (v53, (v54, v55))))))) fun x56 =>
 bif (!x56) then
 outO (outO (some Bool.false))
 else
 some (Sum.inl ((Go.IntKind.wrap .i64 (v23 + (1 : Int))), (v49, (v50, (v51, (v52, (v53, (v54, v55))))))))
 else none
 else none
 else
 outO (some (Sum.inl (v24, (v25, (v26, (v27, (v28, (v29, v30))))))))
 else
 outO (some (Sum.inl (v24, (v25, (v26, (v27, (v28, (v29, v30))))))))) ((0 : Int), (x14, (x15, (x16, (x17, (x18, (x19, x20)))))))) fun (v58, (v59, (v60, (v61, (v62, (v63, v64)))))) =>
 some Bool.true
noncomputable def cons5 : List (Nat × CE) := (4, ⟨[(.tmp 0 true [qdC, qdS, qd, qd, qd, qd, qd]), (.tmp 1 true [(.dat (.int .u8)), qd, qd, qd])], [(.tmp 0 false [(.dat .bool)])], dialtonelaw36_QueuesRaw⟩) :: cons4
theorem cons5_ok : ConL Try.prog cons5 := ⟨con4, cons4_ok⟩
theorem con5 : ConOk Try.prog 5 ⟨[(.tmp 0 true [(.dat (.int .u16)), (.dat (.int .u16)), (.dat (.int .u16)), (.dat (.int .u16))]), (.tmp 1 false [(.dat (.list (.pair (.int .u8) (.pair (.int .i64) (.pair (.int .i64) (.int .i64))))))])], [(.tmp 0 false [(.dat .bool)])], dialtonelaw36_QueuesPlays⟩ :=
  tree_ok (plan := planOf plan5) (eg := egNo) KK tabL_ok (conOf_ok cons5_ok) Try.func5 (by kernel_rfl) (by kernel_rfl) 10000 (fun a r h => Eq.trans (show _ = dialtonelaw36_QueuesPlays a from by kernel_rfl) h)
end Go.Proofs.Ytkmfgldoljegoaa
