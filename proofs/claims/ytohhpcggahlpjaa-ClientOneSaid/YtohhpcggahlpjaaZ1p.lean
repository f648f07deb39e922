import Derived.Test.YtohhpcggahlpjaaFp
import Derived.Test.YtohhpcggahlpjaaXBp
import Derived.Test.YtohhpcggahlpjaaLp
set_option linter.unusedVariables false
set_option maxRecDepth 1000000
set_option maxHeartbeats 0
namespace Go.Proofs.Ytohhpcggahlpjaa
open Go.RowKit
def plan16 : List (Nat × PL) := []
noncomputable def client_Start : PUnit → Option ((Int × (Int × Int)) × (List (Int × (Int × (Int × Int))))) := fun _ =>
 some (((2 : Int), ((500 : Int), (0 : Int))), (((1 : Int), ((0 : Int), ((0 : Int), (0 : Int)))) :: (((4 : Int), ((0 : Int), ((5 : Int), (500 : Int)))) :: (((4 : Int), ((0 : Int), ((6 : Int), (32000 : Int)))) :: ([] : List (Int × (Int × (Int × Int))))))))
noncomputable def cons16 : List (Nat × CE) := [(10, ⟨[], riB, (fun _ => some true)⟩)]
theorem cons16_ok : ConL Try.prog cons16 := ⟨con_true (by kernel_rfl) lives_o, trivial⟩
theorem con16 : ConOk Try.prog 16 ⟨[], [(.tmp 0 true [(.dat (.int .u8)), (.dat (.int .i64)), (.dat (.int .i64))]), (.tmp 1 false [(.dat (.list (.pair (.int .u8) (.pair (.int .i64) (.pair (.int .u8) (.int .i64))))))])], client_Start⟩ :=
  tree_ok (plan := planOf plan16) (eg := egNo) KK tabL_ok (conOf_ok cons16_ok) Try.func16 (by kernel_rfl) (by kernel_rfl) 10000 (fun a r h => Eq.trans (show _ = client_Start a from by kernel_rfl) h)
def plan17 : List (Nat × PL) := []
noncomputable def dialtoneref13_Start : PUnit → Option ((Int × (Int × Int)) × (List (Int × (Int × (Int × Int))))) := fun _ =>
 some (((2 : Int), ((500 : Int), (0 : Int))), (((1 : Int), ((0 : Int), ((0 : Int), (0 : Int)))) :: (((4 : Int), ((0 : Int), ((5 : Int), (500 : Int)))) :: (((4 : Int), ((0 : Int), ((6 : Int), (32000 : Int)))) :: ([] : List (Int × (Int × (Int × Int))))))))
noncomputable def cons17 : List (Nat × CE) := [(10, ⟨[], riB, (fun _ => some true)⟩), (16, ⟨[], [(.tmp 0 true [(.dat (.int .u8)), (.dat (.int .i64)), (.dat (.int .i64))]), (.tmp 1 false [(.dat (.list (.pair (.int .u8) (.pair (.int .i64) (.pair (.int .u8) (.int .i64))))))])], client_Start⟩)]
theorem cons17_ok : ConL Try.prog cons17 := ⟨con_true (by kernel_rfl) lives_o, con16, trivial⟩
theorem con17 : ConOk Try.prog 17 ⟨[], [(.tmp 0 true [(.dat (.int .u8)), (.dat (.int .i64)), (.dat (.int .i64))]), (.tmp 1 false [(.dat (.list (.pair (.int .u8) (.pair (.int .i64) (.pair (.int .u8) (.int .i64))))))])], dialtoneref13_Start⟩ :=
  tree_ok (plan := planOf plan17) (eg := egNo) KK tabL_ok (conOf_ok cons17_ok) Try.func17 (by kernel_rfl) (by kernel_rfl) 10000 (fun a r h => Eq.trans (show _ = dialtoneref13_Start a from by kernel_rfl) h)
def plan14 : List (Nat × PL) := [(35253091829761, (.carry [.tmp 5 false [(.dat .bool)]]))]
noncomputable def client_May : (Int × (Int × Int)) → Option Bool := fun (a1, (a2, a3)) =>
 joinO (bif (decide (a1 = (2 : Int))) then
 some (Sum.inl Bool.true)
 else
 some (Sum.inl (decide (a1 = (3 : Int))))) fun v4 =>
 bif v4 then
 bif (decide (a3 = (0 : Int))) then
 bif (decide (a2 = (500 : Int))) then
 some Bool.true
 else
 bif (decide (a2 = (1000 : Int))) then
 some Bool.true
 else
 bif (decide (a2 = (2000 : Int))) then
 some Bool.true
 else
 some (decide (a2 = (4000 : Int)))
 else
 some Bool.false
 else
 bif (decide (a1 = (5 : Int))) then
 bif (decide (a2 = (0 : Int))) then
 bif (decide (a3 ≥ (200 : Int))) then
 some (decide (a3 ≤ (699 : Int)))
 else
 some Bool.false
 else
 some Bool.false
 else
 bif (decide (a1 = (7 : Int))) then
 bif (decide (a2 = (0 : Int))) then
 bif (decide (a3 = (0 : Int))) then
 some Bool.true
 else
 bif (decide (a3 ≥ (200 : Int))) then
 some (decide (a3 ≤ (699 : Int)))
 else
 some Bool.false
 else
 some Bool.false
 else
 some Bool.false
noncomputable def cons14 : List (Nat × CE) := [(10, ⟨[], riB, (fun _ => some true)⟩), (16, ⟨[], [(.tmp 0 true [(.dat (.int .u8)), (.dat (.int .i64)), (.dat (.int .i64))]), (.tmp 1 false [(.dat (.list (.pair (.int .u8) (.pair (.int .i64) (.pair (.int .u8) (.int .i64))))))])], client_Start⟩), (17, ⟨[], [(.tmp 0 true [(.dat (.int .u8)), (.dat (.int .i64)), (.dat (.int .i64))]), (.tmp 1 false [(.dat (.list (.pair (.int .u8) (.pair (.int .i64) (.pair (.int .u8) (.int .i64))))))])], dialtoneref13_Start⟩)]
theorem cons14_ok : ConL Try.prog cons14 := ⟨con_true (by kernel_rfl) lives_o, con16, con17, trivial⟩
theorem con14 : ConOk Try.prog 14 ⟨[(.tmp 0 true [(.dat (.int .u8)), (.dat (.int .i64)), (.dat (.int .i64))])], [(.tmp 0 false [(.dat .bool)])], client_May⟩ :=
  tree_ok (plan := planOf plan14) (eg := egNo) KK tabL_ok (conOf_ok cons14_ok) Try.func14 (by kernel_rfl) (by kernel_rfl) 10000 (fun a r h => Eq.trans (show _ = client_May a from by kernel_rfl) h)
def plan34 : List (Nat × PL) := []
noncomputable def dialtoneref13_Short : (Int × (Int × Int)) → Option Bool := fun (a1, (a2, a3)) =>
 bif (decide (a2 = (500 : Int))) then
 some Bool.true
 else
 bif (decide (a2 = (1000 : Int))) then
 some Bool.true
 else
 bif (decide (a2 = (2000 : Int))) then
 some Bool.true
 else
 some (decide (a2 = (4000 : Int)))
noncomputable def cons34 : List (Nat × CE) := [(10, ⟨[], riB, (fun _ => some true)⟩), (16, ⟨[], [(.tmp 0 true [(.dat (.int .u8)), (.dat (.int .i64)), (.dat (.int .i64))]), (.tmp 1 false [(.dat (.list (.pair (.int .u8) (.pair (.int .i64) (.pair (.int .u8) (.int .i64))))))])], client_Start⟩), (17, ⟨[], [(.tmp 0 true [(.dat (.int .u8)), (.dat (.int .i64)), (.dat (.int .i64))]), (.tmp 1 false [(.dat (.list (.pair (.int .u8) (.pair (.int .i64) (.pair (.int .u8) (.int .i64))))))])], dialtoneref13_Start⟩), (14, ⟨[(.tmp 0 true [(.dat (.int .u8)), (.dat (.int .i64)), (.dat (.int .i64))])], [(.tmp 0 false [(.dat .bool)])], client_May⟩)]
theorem cons34_ok : ConL Try.prog cons34 := ⟨con_true (by kernel_rfl) lives_o, con16, con17, con14, trivial⟩
theorem con34 : ConOk Try.prog 34 ⟨[(.tmp 0 true [(.dat (.int .u8)), (.dat (.int .i64)), (.dat (.int .i64))])], [(.tmp 0 false [(.dat .bool)])], dialtoneref13_Short⟩ :=
  tree_ok (plan := planOf plan34) (eg := egNo) KK tabL_ok (conOf_ok cons34_ok) Try.func34 (by kernel_rfl) (by kernel_rfl) 10000 (fun a r h => Eq.trans (show _ = dialtoneref13_Short a from by kernel_rfl) h)
def plan35 : List (Nat × PL) := []
noncomputable def dialtoneref12_From : (Int × (Int × Int)) → Option Bool := fun (a1, (a2, a3)) =>
 bif (decide (a1 ≥ a2)) then
 some (decide (a1 ≤ a3))
 else
 some Bool.false
noncomputable def cons35 : List (Nat × CE) := [(10, ⟨[], riB, (fun _ => some true)⟩), (16, ⟨[], [(.tmp 0 true [(.dat (.int .u8)), (.dat (.int .i64)), (.dat (.int .i64))]), (.tmp 1 false [(.dat (.list (.pair (.int .u8) (.pair (.int .i64) (.pair (.int .u8) (.int .i64))))))])], client_Start⟩), (17, ⟨[], [(.tmp 0 true [(.dat (.int .u8)), (.dat (.int .i64)), (.dat (.int .i64))]), (.tmp 1 false [(.dat (.list (.pair (.int .u8) (.pair (.int .i64) (.pair (.int .u8) (.int .i64))))))])], dialtoneref13_Start⟩), (14, ⟨[(.tmp 0 true [(.dat (.int .u8)), (.dat (.int .i64)), (.dat (.int .i64))])], [(.tmp 0 false [(.dat .bool)])], client_May⟩), (34, ⟨[(.tmp 0 true [(.dat (.int .u8)), (.dat (.int .i64)), (.dat (.int .i64))])], [(.tmp 0 false [(.dat .bool)])], dialtoneref13_Short⟩)]
theorem cons35_ok : ConL Try.prog cons35 := ⟨con_true (by kernel_rfl) lives_o, con16, con17, con14, con34, trivial⟩
theorem con35 : ConOk Try.prog 35 ⟨[(.tmp 0 false [(.dat (.int .i64))]), (.tmp 1 false [(.dat (.int .i64))]), (.tmp 2 false [(.dat (.int .i64))])], [(.tmp 0 false [(.dat .bool)])], dialtoneref12_From⟩ :=
  tree_ok (plan := planOf plan35) (eg := egNo) KK tabL_ok (conOf_ok cons35_ok) Try.func35 (by kernel_rfl) (by kernel_rfl) 10000 (fun a r h => Eq.trans (show _ = dialtoneref12_From a from by kernel_rfl) h)
def plan28 : List (Nat × PL) := [(35253091829761, (.carry [.tmp 5 false [(.dat .bool)]]))]
noncomputable def dialtoneref13_May : (Int × (Int × Int)) → Option Bool := fun (a1, (a2, a3)) =>
 joinO (bif (decide (a1 = (2 : Int))) then
 some (Sum.inl Bool.true)
 else
 some (Sum.inl (decide (a1 = (3 : Int))))) fun v4 =>
 bif v4 then
 bindO (dialtoneref13_Short (a1, (a2, a3))) fun x5 =>
 bif x5 then
 some (decide (a3 = (0 : Int)))
 else
 some Bool.false
 else
 bif (decide (a1 = (5 : Int))) then
 bif (decide (a2 = (0 : Int))) then
 bindO (dialtoneref12_From (a3, ((200 : Int), (699 : Int)))) fun x6 =>
 some x6
 else
 some Bool.false
 else
 bif (decide (a1 = (7 : Int))) then
 bif (decide (a2 = (0 : Int))) then
 bif (decide (a3 = (0 : Int))) then
 some Bool.true
 else
 bindO (dialtoneref12_From (a3, ((200 : Int), (699 : Int)))) fun x7 =>
 some x7
 else
 some Bool.false
 else
 some Bool.false
noncomputable def cons28 : List (Nat × CE) := [(10, ⟨[], riB, (fun _ => some true)⟩), (16, ⟨[], [(.tmp 0 true [(.dat (.int .u8)), (.dat (.int .i64)), (.dat (.int .i64))]), (.tmp 1 false [(.dat (.list (.pair (.int .u8) (.pair (.int .i64) (.pair (.int .u8) (.int .i64))))))])], client_Start⟩), (17, ⟨[], [(.tmp 0 true [(.dat (.int .u8)), (.dat (.int .i64)), (.dat (.int .i64))]), (.tmp 1 false [(.dat (.list (.pair (.int .u8) (.pair (.int .i64) (.pair (.int .u8) (.int .i64))))))])], dialtoneref13_Start⟩), (14, ⟨[(.tmp 0 true [(.dat (.int .u8)), (.dat (.int .i64)), (.dat (.int .i64))])], [(.tmp 0 false [(.dat .bool)])], client_May⟩), (34, ⟨[(.tmp 0 true [(.dat (.int .u8)), (.dat (.int .i64)), (.dat (.int .i64))])], [(.tmp 0 false [(.dat .bool)])], dialtoneref13_Short⟩), (35, ⟨[(.tmp 0 false [(.dat (.int .i64))]), (.tmp 1 false [(.dat (.int .i64))]), (.tmp 2 false [(.dat (.int .i64))])], [(.tmp 0 false [(.dat .bool)])], dialtoneref12_From⟩)]
theorem cons28_ok : ConL Try.prog cons28 := ⟨con_true (by kernel_rfl) lives_o, con16, con17, con14, con34, con35, trivial⟩
theorem con28 : ConOk Try.prog 28 ⟨[(.tmp 0 true [(.dat (.int .u8)), (.dat (.int .i64)), (.dat (.int .i64))])], [(.tmp 0 false [(.dat .bool)])], dialtoneref13_May⟩ :=
  tree_ok (plan := planOf plan28) (eg := egNo) KK tabL_ok (conOf_ok cons28_ok) Try.func28 (by kernel_rfl) (by kernel_rfl) 10000 (fun a r h => Eq.trans (show _ = dialtoneref13_May a from by kernel_rfl) h)
def plan24 : List (Nat × PL) := [(35253226045462, .unroll), (166478653090116965543849904377954817, (.carry [.tmp 7 false [(.dat (.int .i64))]])), (22344386578255678369549818538661533465183745, (.carry [.tmp 54 false [(.dat .bool)]])), (5857446875170256550507267630998889028697127650817, (.carry [.tmp 74 false [(.dat .bool)]]))]
noncomputable def client_Step : ((Int × (Int × Int)) × (Int × (Int × Int))) → Option ((Int × (Int × Int)) × (List (Int × (Int × (Int × Int))))) := fun ((a1, (a2, a3)), (a4, (a5, a6))) =>
 bindO (client_May (a1, (a2, a3))) fun x7 =>
 bif (!x7) then
 some (((0 : Int), ((0 : Int), (0 : Int))), ([] : List (Int × (Int × (Int × Int)))))
 else
 bif (decide (((0 : Int) ≤ a1) ∧ (a1 < (8 : Int)))) then 
 bif (decide ((Int.toNat a1) = 7)) then
 bif (!((decide (a1 = a1)) && ((decide (a2 = a2)) && (decide (a3 = a3))))) then
 bif (decide (a1 = (7 : Int))) then
 bindO (some (((7 : Int), ((0 : Int), ((0 : Int), (0 : Int)))) :: ([] : List (Int × (Int × (Int × Int)))))) fun x8 =>
 bif (decide ((List.length x8) ≤ (List.length x8))) then 
 some ((a1, (a2, a3)), (List.take (List.length x8) x8))
 else none
 else
 some ((a1, (a2, a3)), ([] : List (Int × (Int × (Int × Int)))))
 else
 some ((a1, (a2, a3)), ([] : List (Int × (Int × (Int × Int)))))
 else
 bif (decide ((Int.toNat a1) = 6)) then
 none 
 else
 bif (decide ((Int.toNat a1) = 5)) then
 bif (decide (a4 = (5 : Int))) then
 bif (decide (a6 = (11 : Int))) then
 bif (!((decide ((7 : Int) = a1)) && ((decide ((0 : Int) = a2)) && (decide (a3 = a3))))) then
 bindO (some (((7 : Int), ((0 : Int), ((0 : Int), (0 : Int)))) :: ([] : List (Int × (Int × (Int × Int)))))) fun x9 =>
 bif (decide ((List.length x9) ≤ (List.length x9))) then 
 some (((7 : Int), ((0 : Int), a3)), (List.take (List.length x9) x9))
 else none
 else
 some (((7 : Int), ((0 : Int), a3)), ([] : List (Int × (Int × (Int × Int)))))
 else
 bif (!((decide (a1 = a1)) && ((decide (a2 = a2)) && (decide (a3 = a3))))) then
 bif (decide (a1 = (7 : Int))) then
 bindO (some (((7 : Int), ((0 : Int), ((0 : Int), (0 : Int)))) :: ([] : List (Int × (Int × (Int × Int)))))) fun x10 =>
 bif (decide ((List.length x10) ≤ (List.length x10))) then 
 some ((a1, (a2, a3)), (List.take (List.length x10) x10))
 else none
 else
 some ((a1, (a2, a3)), ([] : List (Int × (Int × (Int × Int)))))
 else
 some ((a1, (a2, a3)), ([] : List (Int × (Int × (Int × Int)))))
 else
 bif (!((decide (a1 = a1)) && ((decide (a2 = a2)) && (decide (a3 = a3))))) then
 bif (decide (a1 = (7 : Int))) then
 bindO (some (((7 : Int), ((0 : Int), ((0 : Int), (0 : Int)))) :: ([] : List (Int × (Int × (Int × Int)))))) fun x11 =>
 bif (decide ((List.length x11) ≤ (List.length x11))) then 
 some ((a1, (a2, a3)), (List.take (List.length x11) x11))
 else none
 else
 some ((a1, (a2, a3)), ([] : List (Int × (Int × (Int × Int)))))
 else
 some ((a1, (a2, a3)), ([] : List (Int × (Int × (Int × Int)))))
 else
 bif (decide ((Int.toNat a1) = 4)) then
 none 
 else
 bif (decide ((Int.toNat a1) = 3)) then
 bif (decide (a4 = (5 : Int))) then
 bif (decide (a6 = (5 : Int))) then
 joinO (bif (decide (a1 = (2 : Int))) then
 some (Sum.inl (minA (Go.IntKind.wrap .i64 ((2 : Int) * a2)) (4000 : Int)))
 else
 some (Sum.inl (4000 : Int))) fun v13 =>
 bif (!((decide (a1 = a1)) && ((decide (v13 = a2)) && (decide (a3 = a3))))) then
 bif (decide (a1 = (7 : Int))) then
 bindO (some (((1 : Int), ((0 : Int), ((0 : Int), (0 : Int)))) :: (((4 : Int), ((0 : Int), ((5 : Int), v13))) :: (((7 : Int), ((0 : Int), ((0 : Int), (0 : Int)))) :: ([] : List (Int × (Int × (Int × Int)))))))) fun x14 =>
 bif (decide ((List.length x14) ≤ (List.length x14))) then 
 some ((a1, (v13, a3)), (List.take (List.length x14) x14))
 else none
 else
 some ((a1, (v13, a3)), (((1 : Int), ((0 : Int), ((0 : Int), (0 : Int)))) :: (((4 : Int), ((0 : Int), ((5 : Int), v13))) :: ([] : List (Int × (Int × (Int × Int)))))))
 else
 some ((a1, (v13, a3)), (((1 : Int), ((0 : Int), ((0 : Int), (0 : Int)))) :: (((4 : Int), ((0 : Int), ((5 : Int), v13))) :: ([] : List (Int × (Int × (Int × Int)))))))
 else
 bif (decide (a4 = (5 : Int))) then
 bif (decide (a6 = (6 : Int))) then
 bif (!((decide ((7 : Int) = a1)) && ((decide ((0 : Int) = a2)) && (decide (a3 = a3))))) then
 bindO (some (((5 : Int), ((0 : Int), ((0 : Int), (0 : Int)))) :: (((7 : Int), ((0 : Int), ((0 : Int), (0 : Int)))) :: ([] : List (Int × (Int × (Int × Int))))))) fun x15 =>
 bif (decide ((List.length x15) ≤ (List.length x15))) then 
 some (((7 : Int), ((0 : Int), a3)), (List.take (List.length x15) x15))
 else none
 else
 some (((7 : Int), ((0 : Int), a3)), (((5 : Int), ((0 : Int), ((0 : Int), (0 : Int)))) :: ([] : List (Int × (Int × (Int × Int))))))
 else
 bif (decide (a4 = (6 : Int))) then
 bif (!((decide ((7 : Int) = a1)) && ((decide ((0 : Int) = a2)) && (decide (a3 = a3))))) then
 bindO (some (((6 : Int), ((0 : Int), ((0 : Int), (0 : Int)))) :: (((7 : Int), ((0 : Int), ((0 : Int), (0 : Int)))) :: ([] : List (Int × (Int × (Int × Int))))))) fun x16 =>
 bif (decide ((List.length x16) ≤ (List.length x16))) then 
 some (((7 : Int), ((0 : Int), a3)), (List.take (List.length x16) x16))
 else none
 else
 some (((7 : Int), ((0 : Int), a3)), (((6 : Int), ((0 : Int), ((0 : Int), (0 : Int)))) :: ([] : List (Int × (Int × (Int × Int))))))
 else
 joinO (bif (decide (a4 = (2 : Int))) then
 bif (decide (a5 ≥ (100 : Int))) then
 some (Sum.inl (decide (a5 ≤ (199 : Int))))
 else
 some (Sum.inl Bool.false)
 else
 some (Sum.inl Bool.false)) fun v17 =>
 bif v17 then
 bif (!((decide ((3 : Int) = a1)) && ((decide (a2 = a2)) && (decide (a3 = a3))))) then
 some (((3 : Int), (a2, a3)), (((3 : Int), (a5, ((0 : Int), (0 : Int)))) :: ([] : List (Int × (Int × (Int × Int))))))
 else
 some (((3 : Int), (a2, a3)), (((3 : Int), (a5, ((0 : Int), (0 : Int)))) :: ([] : List (Int × (Int × (Int × Int))))))
 else
 joinO (bif (decide (a4 = (2 : Int))) then
 bif (decide (a5 ≥ (200 : Int))) then
 some (Sum.inl (decide (a5 ≤ (699 : Int))))
 else
 some (Sum.inl Bool.false)
 else
 some (Sum.inl Bool.false)) fun v18 =>
 bif v18 then
 bif (!((decide ((5 : Int) = a1)) && ((decide ((0 : Int) = a2)) && (decide (a5 = a3))))) then
 some (((5 : Int), ((0 : Int), a5)), (((3 : Int), (a5, ((0 : Int), (0 : Int)))) :: (((4 : Int), ((0 : Int), ((11 : Int), (5000 : Int)))) :: ([] : List (Int × (Int × (Int × Int)))))))
 else
 some (((5 : Int), ((0 : Int), a5)), (((3 : Int), (a5, ((0 : Int), (0 : Int)))) :: (((4 : Int), ((0 : Int), ((11 : Int), (5000 : Int)))) :: ([] : List (Int × (Int × (Int × Int)))))))
 else
 bif (!((decide (a1 = a1)) && ((decide (a2 = a2)) && (decide (a3 = a3))))) then
 bif (decide (a1 = (7 : Int))) then
 bindO (some (((7 : Int), ((0 : Int), ((0 : Int), (0 : Int)))) :: ([] : List (Int × (Int × (Int × Int)))))) fun x19 =>
 bif (decide ((List.length x19) ≤ (List.length x19))) then 
 some ((a1, (a2, a3)), (List.take (List.length x19) x19))
 else none
 else
 some ((a1, (a2, a3)), ([] : List (Int × (Int × (Int × Int)))))
 else
 some ((a1, (a2, a3)), ([] : List (Int × (Int × (Int × Int)))))
 else
 bif (decide (a4 = (6 : Int))) then
 bif (!((decide ((7 : Int) = a1)) && ((decide ((0 : Int) = a2)) && (decide (a3 = a3))))) then
 bindO (some (((6 : Int), ((0 : Int), ((0 : Int), (0 : Int)))) :: (((7 : Int), ((0 : Int), ((0 : Int), (0 : Int)))) :: ([] : List (Int × (Int × (Int × Int))))))) fun x20 =>
 bif (decide ((List.length x20) ≤ (List.length x20))) then 
 some (((7 : Int), ((0 : Int), a3)), (List.take (List.length x20) x20))
 else none
 else
 some (((7 : Int), ((0 : Int), a3)), (((6 : Int), ((0 : Int), ((0 : Int), (0 : Int)))) :: ([] : List (Int × (Int × (Int × Int))))))
 else
 joinO (bif (decide (a4 = (2 : Int))) then
 bif (decide (a5 ≥ (100 : Int))) then
 some (Sum.inl (decide (a5 ≤ (199 : Int))))
 else
 some (Sum.inl Bool.false)
 else
 some (Sum.inl Bool.false)) fun v21 =>
 bif v21 then
 bif (!((decide ((3 : Int) = a1)) && ((decide (a2 = a2)) && (decide (a3 = a3))))) then
 some (((3 : Int), (a2, a3)), (((3 : Int), (a5, ((0 : Int), (0 : Int)))) :: ([] : List (Int × (Int × (Int × Int))))))
 else
 some (((3 : Int), (a2, a3)), (((3 : Int), (a5, ((0 : Int), (0 : Int)))) :: ([] : List (Int × (Int × (Int × Int))))))
 else
 joinO (bif (decide (a4 = (2 : Int))) then
 bif (decide (a5 ≥ (200 : Int))) then
 some (Sum.inl (decide (a5 ≤ (699 : Int))))
 else
 some (Sum.inl Bool.false)
 else
 some (Sum.inl Bool.false)) fun v22 =>
 bif v22 then
 bif (!((decide ((5 : Int) = a1)) && ((decide ((0 : Int) = a2)) && (decide (a5 = a3))))) then
 some (((5 : Int), ((0 : Int), a5)), (((3 : Int), (a5, ((0 : Int), (0 : Int)))) :: (((4 : Int), ((0 : Int), ((11 : Int), (5000 : Int)))) :: ([] : List (Int × (Int × (Int × Int)))))))
 else
 some (((5 : Int), ((0 : Int), a5)), (((3 : Int), (a5, ((0 : Int), (0 : Int)))) :: (((4 : Int), ((0 : Int), ((11 : Int), (5000 : Int)))) :: ([] : List (Int × (Int × (Int × Int)))))))
 else
 bif (!((decide (a1 = a1)) && ((decide (a2 = a2)) && (decide (a3 = a3))))) then
 bif (decide (a1 = (7 : Int))) then
 bindO (some (((7 : Int), ((0 : Int), ((0 : Int), (0 : Int)))) :: ([] : List (Int × (Int × (Int × Int)))))) fun x23 =>
 bif (decide ((List.length x23) ≤ (List.length x23))) then 
 some ((a1, (a2, a3)), (List.take (List.length x23) x23))
 else none
 else
 some ((a1, (a2, a3)), ([] : List (Int × (Int × (Int × Int)))))
 else
 some ((a1, (a2, a3)), ([] : List (Int × (Int × (Int × Int)))))
 else
 bif (decide (a4 = (5 : Int))) then
 bif (decide (a6 = (6 : Int))) then
 bif (!((decide ((7 : Int) = a1)) && ((decide ((0 : Int) = a2)) && (decide (a3 = a3))))) then
 bindO (some (((5 : Int), ((0 : Int), ((0 : Int), (0 : Int)))) :: (((7 : Int), ((0 : Int), ((0 : Int), (0 : Int)))) :: ([] : List (Int × (Int × (Int × Int))))))) fun x24 =>
 bif (decide ((List.length x24) ≤ (List.length x24))) then 
 some (((7 : Int), ((0 : Int), a3)), (List.take (List.length x24) x24))
 else none
 else
 some (((7 : Int), ((0 : Int), a3)), (((5 : Int), ((0 : Int), ((0 : Int), (0 : Int)))) :: ([] : List (Int × (Int × (Int × Int))))))
 else
 bif (decide (a4 = (6 : Int))) then
 bif (!((decide ((7 : Int) = a1)) && ((decide ((0 : Int) = a2)) && (decide (a3 = a3))))) then
 bindO (some (((6 : Int), ((0 : Int), ((0 : Int), (0 : Int)))) :: (((7 : Int), ((0 : Int), ((0 : Int), (0 : Int)))) :: ([] : List (Int × (Int × (Int × Int))))))) fun x25 =>
 bif (decide ((List.length x25) ≤ (List.length x25))) then 
 some (((7 : Int), ((0 : Int), a3)), (List.take (List.length x25) x25))
 else none
 else
 some (((7 : Int), ((0 : Int), a3)), (((6 : Int), ((0 : Int), ((0 : Int), (0 : Int)))) :: ([] : List (Int × (Int × (Int × Int))))))
 else
 joinO (bif (decide (a4 = (2 : Int))) then
 bif (decide (a5 ≥ (100 : Int))) then
 some (Sum.inl (decide (a5 ≤ (199 : Int))))
 else
 some (Sum.inl Bool.false)
 else
 some (Sum.inl Bool.false)) fun v26 =>
 bif v26 then
 bif (!((decide ((3 : Int) = a1)) && ((decide (a2 = a2)) && (decide (a3 = a3))))) then
 some (((3 : Int), (a2, a3)), (((3 : Int), (a5, ((0 : Int), (0 : Int)))) :: ([] : List (Int × (Int × (Int × Int))))))
 else
 some (((3 : Int), (a2, a3)), (((3 : Int), (a5, ((0 : Int), (0 : Int)))) :: ([] : List (Int × (Int × (Int × Int))))))
 else
 joinO (bif (decide (a4 = (2 : Int))) then
 bif (decide (a5 ≥ (200 : Int))) then
 some (Sum.inl (decide (a5 ≤ (699 : Int))))
 else
 some (Sum.inl Bool.false)
 else
 some (Sum.inl Bool.false)) fun v27 =>
 bif v27 then
 bif (!((decide ((5 : Int) = a1)) && ((decide ((0 : Int) = a2)) && (decide (a5 = a3))))) then
 some (((5 : Int), ((0 : Int), a5)), (((3 : Int), (a5, ((0 : Int), (0 : Int)))) :: (((4 : Int), ((0 : Int), ((11 : Int), (5000 : Int)))) :: ([] : List (Int × (Int × (Int × Int)))))))
 else
 some (((5 : Int), ((0 : Int), a5)), (((3 : Int), (a5, ((0 : Int), (0 : Int)))) :: (((4 : Int), ((0 : Int), ((11 : Int), (5000 : Int)))) :: ([] : List (Int × (Int × (Int × Int)))))))
 else
 bif (!((decide (a1 = a1)) && ((decide (a2 = a2)) && (decide (a3 = a3))))) then
 bif (decide (a1 = (7 : Int))) then
 bindO (some (((7 : Int), ((0 : Int), ((0 : Int), (0 : Int)))) :: ([] : List (Int × (Int × (Int × Int)))))) fun x28 =>
 bif (decide ((List.length x28) ≤ (List.length x28))) then 
 some ((a1, (a2, a3)), (List.take (List.length x28) x28))
 else none
 else
 some ((a1, (a2, a3)), ([] : List (Int × (Int × (Int × Int)))))
 else
 some ((a1, (a2, a3)), ([] : List (Int × (Int × (Int × Int)))))
 else
 bif (decide (a4 = (6 : Int))) then
 bif (!((decide ((7 : Int) = a1)) && ((decide ((0 : Int) = a2)) && (decide (a3 = a3))))) then
 bindO (some (((6 : Int), ((0 : Int), ((0 : Int), (0 : Int)))) :: (((7 : Int), ((0 : Int), ((0 : Int), (0 : Int)))) :: ([] : List (Int × (Int × (Int × Int))))))) fun x29 =>
 bif (decide ((List.length x29) ≤ (List.length x29))) then 
 some (((7 : Int), ((0 : Int), a3)), (List.take (List.length x29) x29))
 else none
 else
 some (((7 : Int), ((0 : Int), a3)), (((6 : Int), ((0 : Int), ((0 : Int), (0 : Int)))) :: ([] : List (Int × (Int × (Int × Int))))))
 else
 joinO (bif (decide (a4 = (2 : Int))) then
 bif (decide (a5 ≥ (100 : Int))) then
 some (Sum.inl (decide (a5 ≤ (199 : Int))))
 else
 some (Sum.inl Bool.false)
 else
 some (Sum.inl Bool.false)) fun v30 =>
 bif v30 then
 bif (!((decide ((3 : Int) = a1)) && ((decide (a2 = a2)) && (decide (a3 = a3))))) then
 some (((3 : Int), (a2, a3)), (((3 : Int), (a5, ((0 : Int), (0 : Int)))) :: ([] : List (Int × (Int × (Int × Int))))))
 else
 some (((3 : Int), (a2, a3)), (((3 : Int), (a5, ((0 : Int), (0 : Int)))) :: ([] : List (Int × (Int × (Int × Int))))))
 else
 joinO (bif (decide (a4 = (2 : Int))) then
 bif (decide (a5 ≥ (200 : Int))) then
 some (Sum.inl (decide (a5 ≤ (699 : Int))))
 else
 some (Sum.inl Bool.false)
 else
 some (Sum.inl Bool.false)) fun v31 =>
 bif v31 then
 bif (!((decide ((5 : Int) = a1)) && ((decide ((0 : Int) = a2)) && (decide (a5 = a3))))) then
 some (((5 : Int), ((0 : Int), a5)), (((3 : Int), (a5, ((0 : Int), (0 : Int)))) :: (((4 : Int), ((0 : Int), ((11 : Int), (5000 : Int)))) :: ([] : List (Int × (Int × (Int × Int)))))))
 else
 some (((5 : Int), ((0 : Int), a5)), (((3 : Int), (a5, ((0 : Int), (0 : Int)))) :: (((4 : Int), ((0 : Int), ((11 : Int), (5000 : Int)))) :: ([] : List (Int × (Int × (Int × Int)))))))
 else
 bif (!((decide (a1 = a1)) && ((decide (a2 = a2)) && (decide (a3 = a3))))) then
 bif (decide (a1 = (7 : Int))) then
 bindO (some (((7 : Int), ((0 : Int), ((0 : Int), (0 : Int)))) :: ([] : List (Int × (Int × (Int × Int)))))) fun x32 =>
 bif (decide ((List.length x32) ≤ (List.length x32))) then 
 some ((a1, (a2, a3)), (List.take (List.length x32) x32))
 else none
 else
 some ((a1, (a2, a3)), ([] : List (Int × (Int × (Int × Int)))))
 else
 some ((a1, (a2, a3)), ([] : List (Int × (Int × (Int × Int)))))
 else
 bif (decide ((Int.toNat a1) = 2)) then
 bif (decide (a4 = (5 : Int))) then
 bif (decide (a6 = (5 : Int))) then
 joinO (bif (decide (a1 = (2 : Int))) then
 some (Sum.inl (minA (Go.IntKind.wrap .i64 ((2 : Int) * a2)) (4000 : Int)))
 else
 some (Sum.inl (4000 : Int))) fun v34 =>
 bif (!((decide (a1 = a1)) && ((decide (v34 = a2)) && (decide (a3 = a3))))) then
 bif (decide (a1 = (7 : Int))) then
 bindO (some (((1 : Int), ((0 : Int), ((0 : Int), (0 : Int)))) :: (((4 : Int), ((0 : Int), ((5 : Int), v34))) :: (((7 : Int), ((0 : Int), ((0 : Int), (0 : Int)))) :: ([] : List (Int × (Int × (Int × Int)))))))) fun x35 =>
 bif (decide ((List.length x35) ≤ (List.length x35))) then 
 some ((a1, (v34, a3)), (List.take (List.length x35) x35))
 else none
 else
 some ((a1, (v34, a3)), (((1 : Int), ((0 : Int), ((0 : Int), (0 : Int)))) :: (((4 : Int), ((0 : Int), ((5 : Int), v34))) :: ([] : List (Int × (Int × (Int × Int)))))))
 else
 some ((a1, (v34, a3)), (((1 : Int), ((0 : Int), ((0 : Int), (0 : Int)))) :: (((4 : Int), ((0 : Int), ((5 : Int), v34))) :: ([] : List (Int × (Int × (Int × Int)))))))
 else
 bif (decide (a4 = (5 : Int))) then
 bif (decide (a6 = (6 : Int))) then
 bif (!((decide ((7 : Int) = a1)) && ((decide ((0 : Int) = a2)) && (decide (a3 = a3))))) then
 bindO (some (((5 : Int), ((0 : Int), ((0 : Int), (0 : Int)))) :: (((7 : Int), ((0 : Int), ((0 : Int), (0 : Int)))) :: ([] : List (Int × (Int × (Int × Int))))))) fun x36 =>
 bif (decide ((List.length x36) ≤ (List.length x36))) then 
 some (((7 : Int), ((0 : Int), a3)), (List.take (List.length x36) x36))
 else none
 else
 some (((7 : Int), ((0 : Int), a3)), (((5 : Int), ((0 : Int), ((0 : Int), (0 : Int)))) :: ([] : List (Int × (Int × (Int × Int))))))
 else
 bif (decide (a4 = (6 : Int))) then
 bif (!((decide ((7 : Int) = a1)) && ((decide ((0 : Int) = a2)) && (decide (a3 = a3))))) then
 bindO (some (((6 : Int), ((0 : Int), ((0 : Int), (0 : Int)))) :: (((7 : Int), ((0 : Int), ((0 : Int), (0 : Int)))) :: ([] : List (Int × (Int × (Int × Int))))))) fun x37 =>
 bif (decide ((List.length x37) ≤ (List.length x37))) then 
 some (((7 : Int), ((0 : Int), a3)), (List.take (List.length x37) x37))
 else none
 else
 some (((7 : Int), ((0 : Int), a3)), (((6 : Int), ((0 : Int), ((0 : Int), (0 : Int)))) :: ([] : List (Int × (Int × (Int × Int))))))
 else
 joinO (bif (decide (a4 = (2 : Int))) then
 bif (decide (a5 ≥ (100 : Int))) then
 some (Sum.inl (decide (a5 ≤ (199 : Int))))
 else
 some (Sum.inl Bool.false)
 else
 some (Sum.inl Bool.false)) fun v38 =>
 bif v38 then
 bif (!((decide ((3 : Int) = a1)) && ((decide (a2 = a2)) && (decide (a3 = a3))))) then
 some (((3 : Int), (a2, a3)), (((3 : Int), (a5, ((0 : Int), (0 : Int)))) :: ([] : List (Int × (Int × (Int × Int))))))
 else
 some (((3 : Int), (a2, a3)), (((3 : Int), (a5, ((0 : Int), (0 : Int)))) :: ([] : List (Int × (Int × (Int × Int))))))
 else
 joinO (bif (decide (a4 = (2 : Int))) then
 bif (decide (a5 ≥ (200 : Int))) then
 some (Sum.inl (decide (a5 ≤ (699 : Int))))
 else
 some (Sum.inl Bool.false)
 else
 some (Sum.inl Bool.false)) fun v39 =>
 bif v39 then
 bif (!((decide ((5 : Int) = a1)) && ((decide ((0 : Int) = a2)) && (decide (a5 = a3))))) then
 some (((5 : Int), ((0 : Int), a5)), (((3 : Int), (a5, ((0 : Int), (0 : Int)))) :: (((4 : Int), ((0 : Int), ((11 : Int), (5000 : Int)))) :: ([] : List (Int × (Int × (Int × Int)))))))
 else
 some (((5 : Int), ((0 : Int), a5)), (((3 : Int), (a5, ((0 : Int), (0 : Int)))) :: (((4 : Int), ((0 : Int), ((11 : Int), (5000 : Int)))) :: ([] : List (Int × (Int × (Int × Int)))))))
 else
 bif (!((decide (a1 = a1)) && ((decide (a2 = a2)) && (decide (a3 = a3))))) then
 bif (decide (a1 = (7 : Int))) then
 bindO (some (((7 : Int), ((0 : Int), ((0 : Int), (0 : Int)))) :: ([] : List (Int × (Int × (Int × Int)))))) fun x40 =>
 bif (decide ((List.length x40) ≤ (List.length x40))) then 
 some ((a1, (a2, a3)), (List.take (List.length x40) x40))
 else none
 else
 some ((a1, (a2, a3)), ([] : List (Int × (Int × (Int × Int)))))
 else
 some ((a1, (a2, a3)), ([] : List (Int × (Int × (Int × Int)))))
 else
 bif (decide (a4 = (6 : Int))) then
 bif (!((decide ((7 : Int) = a1)) && ((decide ((0 : Int) = a2)) && (decide (a3 = a3))))) then
 bindO (some (((6 : Int), ((0 : Int), ((0 : Int), (0 : Int)))) :: (((7 : Int), ((0 : Int), ((0 : Int), (0 : Int)))) :: ([] : List (Int × (Int × (Int × Int))))))) fun x41 =>
 bif (decide ((List.length x41) ≤ (List.length x41))) then 
 some (((7 : Int), ((0 : Int), a3)), (List.take (List.length x41) x41))
 else none
 else
 some (((7 : Int), ((0 : Int), a3)), (((6 : Int), ((0 : Int), ((0 : Int), (0 : Int)))) :: ([] : List (Int × (Int × (Int × Int))))))
 else
 joinO (bif (decide (a4 = (2 : Int))) then
 bif (decide (a5 ≥ (100 : Int))) then
 some (Sum.inl (decide (a5 ≤ (199 : Int))))
 else
 some (Sum.inl Bool.false)
 else
 some (Sum.inl Bool.false)) fun v42 =>
 bif v42 then
 bif (!((decide ((3 : Int) = a1)) && ((decide (a2 = a2)) && (decide (a3 = a3))))) then
 some (((3 : Int), (a2, a3)), (((3 : Int), (a5, ((0 : Int), (0 : Int)))) :: ([] : List (Int × (Int × (Int × Int))))))
 else
 some (((3 : Int), (a2, a3)), (((3 : Int), (a5, ((0 : Int), (0 : Int)))) :: ([] : List (Int × (Int × (Int × Int))))))
 else
 joinO (bif (decide (a4 = (2 : Int))) then
 bif (decide (a5 ≥ (200 : Int))) then
 some (Sum.inl (decide (a5 ≤ (699 : Int))))
 else
 some (Sum.inl Bool.false)
 else
 some (Sum.inl Bool.false)) fun v43 =>
 bif v43 then
 bif (!((decide ((5 : Int) = a1)) && ((decide ((0 : Int) = a2)) && (decide (a5 = a3))))) then
 some (((5 : Int), ((0 : Int), a5)), (((3 : Int), (a5, ((0 : Int), (0 : Int)))) :: (((4 : Int), ((0 : Int), ((11 : Int), (5000 : Int)))) :: ([] : List (Int × (Int × (Int × Int)))))))
 else
 some (((5 : Int), ((0 : Int), a5)), (((3 : Int), (a5, ((0 : Int), (0 : Int)))) :: (((4 : Int), ((0 : Int), ((11 : Int), (5000 : Int)))) :: ([] : List (Int × (Int × (Int × Int)))))))
 else
 bif (!((decide (a1 = a1)) && ((decide (a2 = a2)) && (decide (a3 = a3))))) then
 bif (decide (a1 = (7 : Int))) then
 bindO (some (((7 : Int), ((0 : Int), ((0 : Int), (0 : Int)))) :: ([] : List (Int × (Int × (Int × Int)))))) fun x44 =>
 bif (decide ((List.length x44) ≤ (List.length x44))) then 
 some ((a1, (a2, a3)), (List.take (List.length x44) x44))
 else none
 else
 some ((a1, (a2, a3)), ([] : List (Int × (Int × (Int × Int)))))
 else
 some ((a1, (a2, a3)), ([] : List (Int × (Int × (Int × Int)))))
 else
 bif (decide (a4 = (5 : Int))) then
 bif (decide (a6 = (6 : Int))) then
 bif (!((decide ((7 : Int) = a1)) && ((decide ((0 : Int) = a2)) && (decide (a3 = a3))))) then
 bindO (some (((5 : Int), ((0 : Int), ((0 : Int), (0 : Int)))) :: (((7 : Int), ((0 : Int), ((0 : Int), (0 : Int)))) :: ([] : List (Int × (Int × (Int × Int))))))) fun x45 =>
 bif (decide ((List.length x45) ≤ (List.length x45))) then 
 some (((7 : Int), ((0 : Int), a3)), (List.take (List.length x45) x45))
 else none
 else
 some (((7 : Int), ((0 : Int), a3)), (((5 : Int), ((0 : Int), ((0 : Int), (0 : Int)))) :: ([] : List (Int × (Int × (Int × Int))))))
 else
 bif (decide (a4 = (6 : Int))) then
 bif (!((decide ((7 : Int) = a1)) && ((decide ((0 : Int) = a2)) && (decide (a3 = a3))))) then
 bindO (some (((6 : Int), ((0 : Int), ((0 : Int), (0 : Int)))) :: (((7 : Int), ((0 : Int), ((0 : Int), (0 : Int)))) :: ([] : List (Int × (Int × (Int × Int))))))) fun x46 =>
 bif (decide ((List.length x46) ≤ (List.length x46))) then 
 some (((7 : Int), ((0 : Int), a3)), (List.take (List.length x46) x46))
 else none
 else
 some (((7 : Int), ((0 : Int), a3)), (((6 : Int), ((0 : Int), ((0 : Int), (0 : Int)))) :: ([] : List (Int × (Int × (Int × Int))))))
 else
 joinO (bif (decide (a4 = (2 : Int))) then
 bif (decide (a5 ≥ (100 : Int))) then
 some (Sum.inl (decide (a5 ≤ (199 : Int))))
 else
 some (Sum.inl Bool.false)
 else
 some (Sum.inl Bool.false)) fun v47 =>
 bif v47 then
 bif (!((decide ((3 : Int) = a1)) && ((decide (a2 = a2)) && (decide (a3 = a3))))) then
 some (((3 : Int), (a2, a3)), (((3 : Int), (a5, ((0 : Int), (0 : Int)))) :: ([] : List (Int × (Int × (Int × Int))))))
 else
 some (((3 : Int), (a2, a3)), (((3 : Int), (a5, ((0 : Int), (0 : Int)))) :: ([] : List (Int × (Int × (Int × Int))))))
 else
 joinO (bif (decide (a4 = (2 : Int))) then
 bif (decide (a5 ≥ (200 : Int))) then
 some (Sum.inl (decide (a5 ≤ (699 : Int))))
 else
 some (Sum.inl Bool.false)
 else
 some (Sum.inl Bool.false)) fun v48 =>
 bif v48 then
 bif (!((decide ((5 : Int) = a1)) && ((decide ((0 : Int) = a2)) && (decide (a5 = a3))))) then
 some (((5 : Int), ((0 : Int), a5)), (((3 : Int), (a5, ((0 : Int), (0 : Int)))) :: (((4 : Int), ((0 : Int), ((11 : Int), (5000 : Int)))) :: ([] : List (Int × (Int × (Int × Int)))))))
 else
 some (((5 : Int), ((0 : Int), a5)), (((3 : Int), (a5, ((0 : Int), (0 : Int)))) :: (((4 : Int), ((0 : Int), ((11 : Int), (5000 : Int)))) :: ([] : List (Int × (Int × (Int × Int)))))))
 else
 bif (!((decide (a1 = a1)) && ((decide (a2 = a2)) && (decide (a3 = a3))))) then
 bif (decide (a1 = (7 : Int))) then
 bindO (some (((7 : Int), ((0 : Int), ((0 : Int), (0 : Int)))) :: ([] : List (Int × (Int × (Int × Int)))))) fun x49 =>
 bif (decide ((List.length x49) ≤ (List.length x49))) then 
 some ((a1, (a2, a3)), (List.take (List.length x49) x49))
 else none
 else
 some ((a1, (a2, a3)), ([] : List (Int × (Int × (Int × Int)))))
 else
 some ((a1, (a2, a3)), ([] : List (Int × (Int × (Int × Int)))))
 else
 bif (decide (a4 = (6 : Int))) then
 bif (!((decide ((7 : Int) = a1)) && ((decide ((0 : Int) = a2)) && (decide (a3 = a3))))) then
 bindO (some (((6 : Int), ((0 : Int), ((0 : Int), (0 : Int)))) :: (((7 : Int), ((0 : Int), ((0 : Int), (0 : Int)))) :: ([] : List (Int × (Int × (Int × Int))))))) fun x50 =>
 bif (decide ((List.length x50) ≤ (List.length x50))) then 
 some (((7 : Int), ((0 : Int), a3)), (List.take (List.length x50) x50))
 else none
 else
 some (((7 : Int), ((0 : Int), a3)), (((6 : Int), ((0 : Int), ((0 : Int), (0 : Int)))) :: ([] : List (Int × (Int × (Int × Int))))))
 else
 joinO (bif (decide (a4 = (2 : Int))) then
 bif (decide (a5 ≥ (100 : Int))) then
 some (Sum.inl (decide (a5 ≤ (199 : Int))))
 else
 some (Sum.inl Bool.false)
 else
 some (Sum.inl Bool.false)) fun v51 =>
 bif v51 then
 bif (!((decide ((3 : Int) = a1)) && ((decide (a2 = a2)) && (decide (a3 = a3))))) then
 some (((3 : Int), (a2, a3)), (((3 : Int), (a5, ((0 : Int), (0 : Int)))) :: ([] : List (Int × (Int × (Int × Int))))))
 else
 some (((3 : Int), (a2, a3)), (((3 : Int), (a5, ((0 : Int), (0 : Int)))) :: ([] : List (Int × (Int × (Int × Int))))))
 else
 joinO (bif (decide (a4 = (2 : Int))) then
 bif (decide (a5 ≥ (200 : Int))) then
 some (Sum.inl (decide (a5 ≤ (699 : Int))))
 else
 some (Sum.inl Bool.false)
 else
 some (Sum.inl Bool.false)) fun v52 =>
 bif v52 then
 bif (!((decide ((5 : Int) = a1)) && ((decide ((0 : Int) = a2)) && (decide (a5 = a3))))) then
 some (((5 : Int), ((0 : Int), a5)), (((3 : Int), (a5, ((0 : Int), (0 : Int)))) :: (((4 : Int), ((0 : Int), ((11 : Int), (5000 : Int)))) :: ([] : List (Int × (Int × (Int × Int)))))))
 else
 some (((5 : Int), ((0 : Int), a5)), (((3 : Int), (a5, ((0 : Int), (0 : Int)))) :: (((4 : Int), ((0 : Int), ((11 : Int), (5000 : Int)))) :: ([] : List (Int × (Int × (Int × Int)))))))
 else
 bif (!((decide (a1 = a1)) && ((decide (a2 = a2)) && (decide (a3 = a3))))) then
 bif (decide (a1 = (7 : Int))) then
 bindO (some (((7 : Int), ((0 : Int), ((0 : Int), (0 : Int)))) :: ([] : List (Int × (Int × (Int × Int)))))) fun x53 =>
 bif (decide ((List.length x53) ≤ (List.length x53))) then 
 some ((a1, (a2, a3)), (List.take (List.length x53) x53))
 else none
 else
 some ((a1, (a2, a3)), ([] : List (Int × (Int × (Int × Int)))))
 else
 some ((a1, (a2, a3)), ([] : List (Int × (Int × (Int × Int)))))
 else
 bif (decide ((Int.toNat a1) = 1)) then
 none 
 else
 bif (decide ((Int.toNat a1) = 0)) then
 none 
 else
 none 
 else none
noncomputable def cons24 : List (Nat × CE) := [(10, ⟨[], riB, (fun _ => some true)⟩), (16, ⟨[], [(.tmp 0 true [(.dat (.int .u8)), (.dat (.int .i64)), (.dat (.int .i64))]), (.tmp 1 false [(.dat (.list (.pair (.int .u8) (.pair (.int .i64) (.pair (.int .u8) (.int .i64))))))])], client_Start⟩), (17, ⟨[], [(.tmp 0 true [(.dat (.int .u8)), (.dat (.int .i64)), (.dat (.int .i64))]), (.tmp 1 false [(.dat (.list (.pair (.int .u8) (.pair (.int .i64) (.pair (.int .u8) (.int .i64))))))])], dialtoneref13_Start⟩), (14, ⟨[(.tmp 0 true [(.dat (.int .u8)), (.dat (.int .i64)), (.dat (.int .i64))])], [(.tmp 0 false [(.dat .bool)])], client_May⟩), (34, ⟨[(.tmp 0 true [(.dat (.int .u8)), (.dat (.int .i64)), (.dat (.int .i64))])], [(.tmp 0 false [(.dat .bool)])], dialtoneref13_Short⟩), (35, ⟨[(.tmp 0 false [(.dat (.int .i64))]), (.tmp 1 false [(.dat (.int .i64))]), (.tmp 2 false [(.dat (.int .i64))])], [(.tmp 0 false [(.dat .bool)])], dialtoneref12_From⟩), (28, ⟨[(.tmp 0 true [(.dat (.int .u8)), (.dat (.int .i64)), (.dat (.int .i64))])], [(.tmp 0 false [(.dat .bool)])], dialtoneref13_May⟩)]
theorem cons24_ok : ConL Try.prog cons24 := ⟨con_true (by kernel_rfl) lives_o, con16, con17, con14, con34, con35, con28, trivial⟩
theorem con24 : ConOk Try.prog 24 ⟨[(.tmp 0 true [(.dat (.int .u8)), (.dat (.int .i64)), (.dat (.int .i64))]), (.tmp 1 true [(.dat (.int .u8)), (.dat (.int .i64)), (.dat (.int .u8))])], [(.tmp 0 true [(.dat (.int .u8)), (.dat (.int .i64)), (.dat (.int .i64))]), (.tmp 1 false [(.dat (.list (.pair (.int .u8) (.pair (.int .i64) (.pair (.int .u8) (.int .i64))))))])], client_Step⟩ :=
  tree_ok (plan := planOf plan24) (eg := egNo) KK tabL_ok (conOf_ok cons24_ok) Try.func24 (by kernel_rfl) (by kernel_rfl) 10000 (fun a r h => Eq.trans (show _ = client_Step a from by kernel_rfl) h)
def plan20 : List (Nat × PL) := [(35253762916865, (.carry [.drop 5, .drop 4, .tmp 3 false [(.dat (.int .i64))]])), (9241562426078398470, (.carry [.tmp 5 false [(.dat (.int .i64))], .tmp 4 false [(.dat (.int .i64))], .tmp 3 false [(.dat (.int .i64))]]))]
noncomputable def client_Copies : Int → Option Int := fun a1 =>
 joinO (loopO (fun (v2, (v3, v4)) =>
 bif (decide (v3 > a1)) then
 outO (some (Sum.inl v4))
 else
 bif (decide (v3 ≥ (32000 : Int))) then
 outO (some (Sum.inl v4))
 else
 some (Sum.inl ((minA (Go.IntKind.wrap .i64 ((2 : Int) * v2)) (4000 : Int)), ((Go.IntKind.wrap .i64 (v3 + v2)), (Go.IntKind.wrap .i64 (v4 + (1 : Int))))))) ((500 : Int), ((0 : Int), (0 : Int)))) fun v8 =>
 some v8
noncomputable def cons20 : List (Nat × CE) := [(10, ⟨[], riB, (fun _ => some true)⟩), (16, ⟨[], [(.tmp 0 true [(.dat (.int .u8)), (.dat (.int .i64)), (.dat (.int .i64))]), (.tmp 1 false [(.dat (.list (.pair (.int .u8) (.pair (.int .i64) (.pair (.int .u8) (.int .i64))))))])], client_Start⟩), (17, ⟨[], [(.tmp 0 true [(.dat (.int .u8)), (.dat (.int .i64)), (.dat (.int .i64))]), (.tmp 1 false [(.dat (.list (.pair (.int .u8) (.pair (.int .i64) (.pair (.int .u8) (.int .i64))))))])], dialtoneref13_Start⟩), (14, ⟨[(.tmp 0 true [(.dat (.int .u8)), (.dat (.int .i64)), (.dat (.int .i64))])], [(.tmp 0 false [(.dat .bool)])], client_May⟩), (34, ⟨[(.tmp 0 true [(.dat (.int .u8)), (.dat (.int .i64)), (.dat (.int .i64))])], [(.tmp 0 false [(.dat .bool)])], dialtoneref13_Short⟩), (35, ⟨[(.tmp 0 false [(.dat (.int .i64))]), (.tmp 1 false [(.dat (.int .i64))]), (.tmp 2 false [(.dat (.int .i64))])], [(.tmp 0 false [(.dat .bool)])], dialtoneref12_From⟩), (28, ⟨[(.tmp 0 true [(.dat (.int .u8)), (.dat (.int .i64)), (.dat (.int .i64))])], [(.tmp 0 false [(.dat .bool)])], dialtoneref13_May⟩), (24, ⟨[(.tmp 0 true [(.dat (.int .u8)), (.dat (.int .i64)), (.dat (.int .i64))]), (.tmp 1 true [(.dat (.int .u8)), (.dat (.int .i64)), (.dat (.int .u8))])], [(.tmp 0 true [(.dat (.int .u8)), (.dat (.int .i64)), (.dat (.int .i64))]), (.tmp 1 false [(.dat (.list (.pair (.int .u8) (.pair (.int .i64) (.pair (.int .u8) (.int .i64))))))])], client_Step⟩)]
theorem cons20_ok : ConL Try.prog cons20 := ⟨con_true (by kernel_rfl) lives_o, con16, con17, con14, con34, con35, con28, con24, trivial⟩
theorem con20 : ConOk Try.prog 20 ⟨[(.tmp 0 false [(.dat (.int .i64))])], [(.tmp 0 false [(.dat (.int .i64))])], client_Copies⟩ :=
  tree_ok (plan := planOf plan20) (eg := egNo) KK tabL_ok (conOf_ok cons20_ok) Try.func20 (by kernel_rfl) (by kernel_rfl) 10000 (fun a r h => Eq.trans (show _ = client_Copies a from by kernel_rfl) h)
def plan33 : List (Nat × PL) := []
noncomputable def dialtoneref13_open : ((Int × (Int × Int)) × (Int × (Int × Int))) → Option ((Int × (Int × Int)) × (List (Int × (Int × (Int × Int))))) := fun ((a1, (a2, a3)), (a4, (a5, a6))) =>
 bif (decide (a4 = (5 : Int))) then
 bif (decide (a6 = (5 : Int))) then
 bif (decide (a1 = (2 : Int))) then
 bindO (some (Go.IntKind.wrap .i64 ((2 : Int) * a2))) fun x7 =>
 some ((a1, ((minA x7 (4000 : Int)), a3)), (((1 : Int), ((0 : Int), ((0 : Int), (0 : Int)))) :: (((4 : Int), ((0 : Int), ((5 : Int), (minA x7 (4000 : Int))))) :: ([] : List (Int × (Int × (Int × Int)))))))
 else
 some ((a1, ((4000 : Int), a3)), (((1 : Int), ((0 : Int), ((0 : Int), (0 : Int)))) :: (((4 : Int), ((0 : Int), ((5 : Int), (4000 : Int)))) :: ([] : List (Int × (Int × (Int × Int)))))))
 else
 bif (decide (a4 = (5 : Int))) then
 bif (decide (a6 = (6 : Int))) then
 some (((7 : Int), ((0 : Int), (0 : Int))), (((5 : Int), ((0 : Int), ((0 : Int), (0 : Int)))) :: (((7 : Int), ((0 : Int), ((0 : Int), (0 : Int)))) :: ([] : List (Int × (Int × (Int × Int)))))))
 else
 bif (decide (a4 = (6 : Int))) then
 some (((7 : Int), ((0 : Int), (0 : Int))), (((6 : Int), ((0 : Int), ((0 : Int), (0 : Int)))) :: (((7 : Int), ((0 : Int), ((0 : Int), (0 : Int)))) :: ([] : List (Int × (Int × (Int × Int)))))))
 else
 bif (decide (a4 = (2 : Int))) then
 bindO (dialtoneref12_From (a5, ((100 : Int), (199 : Int)))) fun x8 =>
 bif x8 then
 some (((3 : Int), (a2, (0 : Int))), (((3 : Int), (a5, ((0 : Int), (0 : Int)))) :: ([] : List (Int × (Int × (Int × Int))))))
 else
 bif (decide (a4 = (2 : Int))) then
 bindO (dialtoneref12_From (a5, ((200 : Int), (699 : Int)))) fun x9 =>
 bif x9 then
 some (((5 : Int), ((0 : Int), a5)), (((3 : Int), (a5, ((0 : Int), (0 : Int)))) :: (((4 : Int), ((0 : Int), ((11 : Int), (5000 : Int)))) :: ([] : List (Int × (Int × (Int × Int)))))))
 else
 some ((a1, (a2, a3)), ([] : List (Int × (Int × (Int × Int)))))
 else
 some ((a1, (a2, a3)), ([] : List (Int × (Int × (Int × Int)))))
 else
 bif (decide (a4 = (2 : Int))) then
 bindO (dialtoneref12_From (a5, ((200 : Int), (699 : Int)))) fun x10 =>
 bif x10 then
 some (((5 : Int), ((0 : Int), a5)), (((3 : Int), (a5, ((0 : Int), (0 : Int)))) :: (((4 : Int), ((0 : Int), ((11 : Int), (5000 : Int)))) :: ([] : List (Int × (Int × (Int × Int)))))))
 else
 some ((a1, (a2, a3)), ([] : List (Int × (Int × (Int × Int)))))
 else
 some ((a1, (a2, a3)), ([] : List (Int × (Int × (Int × Int)))))
 else
 bif (decide (a4 = (6 : Int))) then
 some (((7 : Int), ((0 : Int), (0 : Int))), (((6 : Int), ((0 : Int), ((0 : Int), (0 : Int)))) :: (((7 : Int), ((0 : Int), ((0 : Int), (0 : Int)))) :: ([] : List (Int × (Int × (Int × Int)))))))
 else
 bif (decide (a4 = (2 : Int))) then
 bindO (dialtoneref12_From (a5, ((100 : Int), (199 : Int)))) fun x11 =>
 bif x11 then
 some (((3 : Int), (a2, (0 : Int))), (((3 : Int), (a5, ((0 : Int), (0 : Int)))) :: ([] : List (Int × (Int × (Int × Int))))))
 else
 bif (decide (a4 = (2 : Int))) then
 bindO (dialtoneref12_From (a5, ((200 : Int), (699 : Int)))) fun x12 =>
 bif x12 then
 some (((5 : Int), ((0 : Int), a5)), (((3 : Int), (a5, ((0 : Int), (0 : Int)))) :: (((4 : Int), ((0 : Int), ((11 : Int), (5000 : Int)))) :: ([] : List (Int × (Int × (Int × Int)))))))
 else
 some ((a1, (a2, a3)), ([] : List (Int × (Int × (Int × Int)))))
 else
 some ((a1, (a2, a3)), ([] : List (Int × (Int × (Int × Int)))))
 else
 bif (decide (a4 = (2 : Int))) then
 bindO (dialtoneref12_From (a5, ((200 : Int), (699 : Int)))) fun x13 =>
 bif x13 then
 some (((5 : Int), ((0 : Int), a5)), (((3 : Int), (a5, ((0 : Int), (0 : Int)))) :: (((4 : Int), ((0 : Int), ((11 : Int), (5000 : Int)))) :: ([] : List (Int × (Int × (Int × Int)))))))
 else
 some ((a1, (a2, a3)), ([] : List (Int × (Int × (Int × Int)))))
 else
 some ((a1, (a2, a3)), ([] : List (Int × (Int × (Int × Int)))))
 else
 bif (decide (a4 = (5 : Int))) then
 bif (decide (a6 = (6 : Int))) then
 some (((7 : Int), ((0 : Int), (0 : Int))), (((5 : Int), ((0 : Int), ((0 : Int), (0 : Int)))) :: (((7 : Int), ((0 : Int), ((0 : Int), (0 : Int)))) :: ([] : List (Int × (Int × (Int × Int)))))))
 else
 bif (decide (a4 = (6 : Int))) then
 some (((7 : Int), ((0 : Int), (0 : Int))), (((6 : Int), ((0 : Int), ((0 : Int), (0 : Int)))) :: (((7 : Int), ((0 : Int), ((0 : Int), (0 : Int)))) :: ([] : List (Int × (Int × (Int × Int)))))))
 else
 bif (decide (a4 = (2 : Int))) then
 bindO (dialtoneref12_From (a5, ((100 : Int), (199 : Int)))) fun x14 =>
 bif x14 then
 some (((3 : Int), (a2, (0 : Int))), (((3 : Int), (a5, ((0 : Int), (0 : Int)))) :: ([] : List (Int × (Int × (Int × Int))))))
 else
 bif (decide (a4 = (2 : Int))) then
 bindO (dialtoneref12_From (a5, ((200 : Int), (699 : Int)))) fun x15 =>
 bif x15 then
 some (((5 : Int), ((0 : Int), a5)), (((3 : Int), (a5, ((0 : Int), (0 : Int)))) :: (((4 : Int), ((0 : Int), ((11 : Int), (5000 : Int)))) :: ([] : List (Int × (Int × (Int × Int)))))))
 else
 some ((a1, (a2, a3)), ([] : List (Int × (Int × (Int × Int)))))
 else
 some ((a1, (a2, a3)), ([] : List (Int × (Int × (Int × Int)))))
 else
 bif (decide (a4 = (2 : Int))) then
 bindO (dialtoneref12_From (a5, ((200 : Int), (699 : Int)))) fun x16 =>
 bif x16 then
 some (((5 : Int), ((0 : Int), a5)), (((3 : Int), (a5, ((0 : Int), (0 : Int)))) :: (((4 : Int), ((0 : Int), ((11 : Int), (5000 : Int)))) :: ([] : List (Int × (Int × (Int × Int)))))))
 else
 some ((a1, (a2, a3)), ([] : List (Int × (Int × (Int × Int)))))
 else
 some ((a1, (a2, a3)), ([] : List (Int × (Int × (Int × Int)))))
 else
 bif (decide (a4 = (6 : Int))) then
 some (((7 : Int), ((0 : Int), (0 : Int))), (((6 : Int), ((0 : Int), ((0 : Int), (0 : Int)))) :: (((7 : Int), ((0 : Int), ((0 : Int), (0 : Int)))) :: ([] : List (Int × (Int × (Int × Int)))))))
 else
 bif (decide (a4 = (2 : Int))) then
 bindO (dialtoneref12_From (a5, ((100 : Int), (199 : Int)))) fun x17 =>
 bif x17 then
 some (((3 : Int), (a2, (0 : Int))), (((3 : Int), (a5, ((0 : Int), (0 : Int)))) :: ([] : List (Int × (Int × (Int × Int))))))
 else
 bif (decide (a4 = (2 : Int))) then
 bindO (dialtoneref12_From (a5, ((200 : Int), (699 : Int)))) fun x18 =>
 bif x18 then
 some (((5 : Int), ((0 : Int), a5)), (((3 : Int), (a5, ((0 : Int), (0 : Int)))) :: (((4 : Int), ((0 : Int), ((11 : Int), (5000 : Int)))) :: ([] : List (Int × (Int × (Int × Int)))))))
 else
 some ((a1, (a2, a3)), ([] : List (Int × (Int × (Int × Int)))))
 else
 some ((a1, (a2, a3)), ([] : List (Int × (Int × (Int × Int)))))
 else
 bif (decide (a4 = (2 : Int))) then
 bindO (dialtoneref12_From (a5, ((200 : Int), (699 : Int)))) fun x19 =>
 bif x19 then
 some (((5 : Int), ((0 : Int), a5)), (((3 : Int), (a5, ((0 : Int), (0 : Int)))) :: (((4 : Int), ((0 : Int), ((11 : Int), (5000 : Int)))) :: ([] : List (Int × (Int × (Int × Int)))))))
 else
 some ((a1, (a2, a3)), ([] : List (Int × (Int × (Int × Int)))))
 else
 some ((a1, (a2, a3)), ([] : List (Int × (Int × (Int × Int)))))
noncomputable def cons33 : List (Nat × CE) := [(10, ⟨[], riB, (fun _ => some true)⟩), (16, ⟨[], [(.tmp 0 true [(.dat (.int .u8)), (.dat (.int .i64)), (.dat (.int .i64))]), (.tmp 1 false [(.dat (.list (.pair (.int .u8) (.pair (.int .i64) (.pair (.int .u8) (.int .i64))))))])], client_Start⟩), (17, ⟨[], [(.tmp 0 true [(.dat (.int .u8)), (.dat (.int .i64)), (.dat (.int .i64))]), (.tmp 1 false [(.dat (.list (.pair (.int .u8) (.pair (.int .i64) (.pair (.int .u8) (.int .i64))))))])], dialtoneref13_Start⟩), (14, ⟨[(.tmp 0 true [(.dat (.int .u8)), (.dat (.int .i64)), (.dat (.int .i64))])], [(.tmp 0 false [(.dat .bool)])], client_May⟩), (34, ⟨[(.tmp 0 true [(.dat (.int .u8)), (.dat (.int .i64)), (.dat (.int .i64))])], [(.tmp 0 false [(.dat .bool)])], dialtoneref13_Short⟩), (35, ⟨[(.tmp 0 false [(.dat (.int .i64))]), (.tmp 1 false [(.dat (.int .i64))]), (.tmp 2 false [(.dat (.int .i64))])], [(.tmp 0 false [(.dat .bool)])], dialtoneref12_From⟩), (28, ⟨[(.tmp 0 true [(.dat (.int .u8)), (.dat (.int .i64)), (.dat (.int .i64))])], [(.tmp 0 false [(.dat .bool)])], dialtoneref13_May⟩), (24, ⟨[(.tmp 0 true [(.dat (.int .u8)), (.dat (.int .i64)), (.dat (.int .i64))]), (.tmp 1 true [(.dat (.int .u8)), (.dat (.int .i64)), (.dat (.int .u8))])], [(.tmp 0 true [(.dat (.int .u8)), (.dat (.int .i64)), (.dat (.int .i64))]), (.tmp 1 false [(.dat (.list (.pair (.int .u8) (.pair (.int .i64) (.pair (.int .u8) (.int .i64))))))])], client_Step⟩), (20, ⟨[(.tmp 0 false [(.dat (.int .i64))])], [(.tmp 0 false [(.dat (.int .i64))])], client_Copies⟩)]
theorem cons33_ok : ConL Try.prog cons33 := ⟨con_true (by kernel_rfl) lives_o, con16, con17, con14, con34, con35, con28, con24, con20, trivial⟩
theorem con33 : ConOk Try.prog 33 ⟨[(.tmp 0 true [(.dat (.int .u8)), (.dat (.int .i64)), (.dat (.int .i64))]), (.tmp 1 true [(.dat (.int .u8)), (.dat (.int .i64)), (.dat (.int .u8))])], [(.tmp 0 true [(.dat (.int .u8)), (.dat (.int .i64)), (.dat (.int .i64))]), (.tmp 1 false [(.dat (.list (.pair (.int .u8) (.pair (.int .i64) (.pair (.int .u8) (.int .i64))))))])], dialtoneref13_open⟩ :=
  tree_ok (plan := planOf plan33) (eg := egNo) KK tabL_ok (conOf_ok cons33_ok) Try.func33 (by kernel_rfl) (by kernel_rfl) 10000 (fun a r h => Eq.trans (show _ = dialtoneref13_open a from by kernel_rfl) h)
def plan27 : List (Nat × PL) := []
noncomputable def dialtoneref13_Step : ((Int × (Int × Int)) × (Int × (Int × Int))) → Option ((Int × (Int × Int)) × (List (Int × (Int × (Int × Int))))) := fun ((a1, (a2, a3)), (a4, (a5, a6))) =>
 bindO (dialtoneref13_May (a1, (a2, a3))) fun x7 =>
 bif (!x7) then
 some (((0 : Int), ((0 : Int), (0 : Int))), ([] : List (Int × (Int × (Int × Int)))))
 else
 bif (decide (a1 = (2 : Int))) then
 bindO (dialtoneref13_open ((a1, (a2, a3)), (a4, (a5, a6)))) fun ((x9, (x10, x11)), x12) =>
 some ((x9, (x10, x11)), x12)
 else
 bif (decide (a1 = (3 : Int))) then
 bindO (dialtoneref13_open ((a1, (a2, a3)), (a4, (a5, a6)))) fun ((x14, (x15, x16)), x17) =>
 some ((x14, (x15, x16)), x17)
 else
 bif (decide (a1 = (5 : Int))) then
 bif (decide (a4 = (5 : Int))) then
 bif (decide (a6 = (11 : Int))) then
 some (((7 : Int), ((0 : Int), a3)), (((7 : Int), ((0 : Int), ((0 : Int), (0 : Int)))) :: ([] : List (Int × (Int × (Int × Int))))))
 else
 some ((a1, (a2, a3)), ([] : List (Int × (Int × (Int × Int)))))
 else
 some ((a1, (a2, a3)), ([] : List (Int × (Int × (Int × Int)))))
 else
 some ((a1, (a2, a3)), ([] : List (Int × (Int × (Int × Int)))))
noncomputable def cons27 : List (Nat × CE) := [(10, ⟨[], riB, (fun _ => some true)⟩), (16, ⟨[], [(.tmp 0 true [(.dat (.int .u8)), (.dat (.int .i64)), (.dat (.int .i64))]), (.tmp 1 false [(.dat (.list (.pair (.int .u8) (.pair (.int .i64) (.pair (.int .u8) (.int .i64))))))])], client_Start⟩), (17, ⟨[], [(.tmp 0 true [(.dat (.int .u8)), (.dat (.int .i64)), (.dat (.int .i64))]), (.tmp 1 false [(.dat (.list (.pair (.int .u8) (.pair (.int .i64) (.pair (.int .u8) (.int .i64))))))])], dialtoneref13_Start⟩), (14, ⟨[(.tmp 0 true [(.dat (.int .u8)), (.dat (.int .i64)), (.dat (.int .i64))])], [(.tmp 0 false [(.dat .bool)])], client_May⟩), (34, ⟨[(.tmp 0 true [(.dat (.int .u8)), (.dat (.int .i64)), (.dat (.int .i64))])], [(.tmp 0 false [(.dat .bool)])], dialtoneref13_Short⟩), (35, ⟨[(.tmp 0 false [(.dat (.int .i64))]), (.tmp 1 false [(.dat (.int .i64))]), (.tmp 2 false [(.dat (.int .i64))])], [(.tmp 0 false [(.dat .bool)])], dialtoneref12_From⟩), (28, ⟨[(.tmp 0 true [(.dat (.int .u8)), (.dat (.int .i64)), (.dat (.int .i64))])], [(.tmp 0 false [(.dat .bool)])], dialtoneref13_May⟩), (24, ⟨[(.tmp 0 true [(.dat (.int .u8)), (.dat (.int .i64)), (.dat (.int .i64))]), (.tmp 1 true [(.dat (.int .u8)), (.dat (.int .i64)), (.dat (.int .u8))])], [(.tmp 0 true [(.dat (.int .u8)), (.dat (.int .i64)), (.dat (.int .i64))]), (.tmp 1 false [(.dat (.list (.pair (.int .u8) (.pair (.int .i64) (.pair (.int .u8) (.int .i64))))))])], client_Step⟩), (20, ⟨[(.tmp 0 false [(.dat (.int .i64))])], [(.tmp 0 false [(.dat (.int .i64))])], client_Copies⟩), (33, ⟨[(.tmp 0 true [(.dat (.int .u8)), (.dat (.int .i64)), (.dat (.int .i64))]), (.tmp 1 true [(.dat (.int .u8)), (.dat (.int .i64)), (.dat (.int .u8))])], [(.tmp 0 true [(.dat (.int .u8)), (.dat (.int .i64)), (.dat (.int .i64))]), (.tmp 1 false [(.dat (.list (.pair (.int .u8) (.pair (.int .i64) (.pair (.int .u8) (.int .i64))))))])], dialtoneref13_open⟩)]
theorem cons27_ok : ConL Try.prog cons27 := ⟨con_true (by kernel_rfl) lives_o, con16, con17, con14, con34, con35, con28, con24, con20, con33, trivial⟩
theorem con27 : ConOk Try.prog 27 ⟨[(.tmp 0 true [(.dat (.int .u8)), (.dat (.int .i64)), (.dat (.int .i64))]), (.tmp 1 true [(.dat (.int .u8)), (.dat (.int .i64)), (.dat (.int .u8))])], [(.tmp 0 true [(.dat (.int .u8)), (.dat (.int .i64)), (.dat (.int .i64))]), (.tmp 1 false [(.dat (.list (.pair (.int .u8) (.pair (.int .i64) (.pair (.int .u8) (.int .i64))))))])], dialtoneref13_Step⟩ :=
  tree_ok (plan := planOf plan27) (eg := egNo) KK tabL_ok (conOf_ok cons27_ok) Try.func27 (by kernel_rfl) (by kernel_rfl) 10000 (fun a r h => Eq.trans (show _ = dialtoneref13_Step a from by kernel_rfl) h)
def plan21 : List (Nat × PL) := [(68853957121, (.carry [.tmp 3 false [(.dat (.int .i64))]])), (9241421688456087558, (.carry [.tmp 5 false [(.dat (.int .i64))], .tmp 3 false [(.dat (.int .i64))]]))]
noncomputable def dialtoneref13_Copies : Int → Option Int := fun a1 =>
 joinO (loopO (fun (v2, v3) =>
 bif (decide (v2 < (11 : Int))) then
 bif (decide (((0 : Int) ≤ v2) ∧ (v2 < (11 : Int)))) then 
 bindO ((0 : Int) :: ((500 : Int) :: ((1500 : Int) :: ((3500 : Int) :: ((7500 : Int) :: ((11500 : Int) :: ((15500 : Int) :: ((19500 : Int) :: ((23500 : Int) :: ((27500 : Int) :: ((31500 : Int) :: ([] : List Int))))))))))))[(Int.toNat v2)]? fun x4 =>
 bif (decide (x4 ≤ a1)) then
 some (Sum.inl ((Go.IntKind.wrap .i64 (v2 + (1 : Int))), (Go.IntKind.wrap .i64 (v3 + (1 : Int)))))
 else
 some (Sum.inl ((Go.IntKind.wrap .i64 (v2 + (1 : Int))), v3))
 else none
 else
 outO (some (Sum.inl v3))) ((0 : Int), (0 : Int))) fun v8 =>
 some v8
noncomputable def cons21 : List (Nat × CE) := [(10, ⟨[], riB, (fun _ => some true)⟩), (16, ⟨[], [(.tmp 0 true [(.dat (.int .u8)), (.dat (.int .i64)), (.dat (.int .i64))]), (.tmp 1 false [(.dat (.list (.pair (.int .u8) (.pair (.int .i64) (.pair (.int .u8) (.int .i64))))))])], client_Start⟩), (17, ⟨[], [(.tmp 0 true [(.dat (.int .u8)), (.dat (.int .i64)), (.dat (.int .i64))]), (.tmp 1 false [(.dat (.list (.pair (.int .u8) (.pair (.int .i64) (.pair (.int .u8) (.int .i64))))))])], dialtoneref13_Start⟩), (14, ⟨[(.tmp 0 true [(.dat (.int .u8)), (.dat (.int .i64)), (.dat (.int .i64))])], [(.tmp 0 false [(.dat .bool)])], client_May⟩), (34, ⟨[(.tmp 0 true [(.dat (.int .u8)), (.dat (.int .i64)), (.dat (.int .i64))])], [(.tmp 0 false [(.dat .bool)])], dialtoneref13_Short⟩), (35, ⟨[(.tmp 0 false [(.dat (.int .i64))]), (.tmp 1 false [(.dat (.int .i64))]), (.tmp 2 false [(.dat (.int .i64))])], [(.tmp 0 false [(.dat .bool)])], dialtoneref12_From⟩), (28, ⟨[(.tmp 0 true [(.dat (.int .u8)), (.dat (.int .i64)), (.dat (.int .i64))])], [(.tmp 0 false [(.dat .bool)])], dialtoneref13_May⟩), (24, ⟨[(.tmp 0 true [(.dat (.int .u8)), (.dat (.int .i64)), (.dat (.int .i64))]), (.tmp 1 true [(.dat (.int .u8)), (.dat (.int .i64)), (.dat (.int .u8))])], [(.tmp 0 true [(.dat (.int .u8)), (.dat (.int .i64)), (.dat (.int .i64))]), (.tmp 1 false [(.dat (.list (.pair (.int .u8) (.pair (.int .i64) (.pair (.int .u8) (.int .i64))))))])], client_Step⟩), (20, ⟨[(.tmp 0 false [(.dat (.int .i64))])], [(.tmp 0 false [(.dat (.int .i64))])], client_Copies⟩), (33, ⟨[(.tmp 0 true [(.dat (.int .u8)), (.dat (.int .i64)), (.dat (.int .i64))]), (.tmp 1 true [(.dat (.int .u8)), (.dat (.int .i64)), (.dat (.int .u8))])], [(.tmp 0 true [(.dat (.int .u8)), (.dat (.int .i64)), (.dat (.int .i64))]), (.tmp 1 false [(.dat (.list (.pair (.int .u8) (.pair (.int .i64) (.pair (.int .u8) (.int .i64))))))])], dialtoneref13_open⟩), (27, ⟨[(.tmp 0 true [(.dat (.int .u8)), (.dat (.int .i64)), (.dat (.int .i64))]), (.tmp 1 true [(.dat (.int .u8)), (.dat (.int .i64)), (.dat (.int .u8))])], [(.tmp 0 true [(.dat (.int .u8)), (.dat (.int .i64)), (.dat (.int .i64))]), (.tmp 1 false [(.dat (.list (.pair (.int .u8) (.pair (.int .i64) (.pair (.int .u8) (.int .i64))))))])], dialtoneref13_Step⟩)]
theorem cons21_ok : ConL Try.prog cons21 := ⟨con_true (by kernel_rfl) lives_o, con16, con17, con14, con34, con35, con28, con24, con20, con33, con27, trivial⟩
theorem con21 : ConOk Try.prog 21 ⟨[(.tmp 0 false [(.dat (.int .i64))])], [(.tmp 0 false [(.dat (.int .i64))])], dialtoneref13_Copies⟩ :=
  tree_ok (plan := planOf plan21) (eg := egNo) KK tabL_ok (conOf_ok cons21_ok) Try.func21 (by kernel_rfl) (by kernel_rfl) 10000 (fun a r h => Eq.trans (show _ = dialtoneref13_Copies a from by kernel_rfl) h)
def plan18 : List (Nat × PL) := [(134480385, (.carry [])), (18049651601311750, (.carry [.tmp 5 false [(.dat (.int .i64))]]))]
noncomputable def dialtoneref12_Same : ((List (Int × (Int × (Int × Int)))) × (List (Int × (Int × (Int × Int))))) → Option Bool := fun (a1, a2) =>
 bif (decide ((((List.length a1) : Nat) : Int) ≠ (((List.length a2) : Nat) : Int))) then
 some Bool.false
 else
 joinO (loopO (fun v3 =>
 bif (decide (v3 < (((List.length a1) : Nat) : Int))) then
 bif (decide (((0 : Int) ≤ v3) ∧ (v3 < (((List.length a1) : Nat) : Int)))) then 
 bindO a1[(Int.toNat v3)]? fun x4 =>
 bif (decide (((0 : Int) ≤ v3) ∧ (v3 < (((List.length a2) : Nat) : Int)))) then 
 bindO a2[(Int.toNat v3)]? fun x5 =>
 bif (!((decide (x4.1 = x5.1)) && ((decide (x4.2.1 = x5.2.1)) && ((decide (x4.2.2.1 = x5.2.2.1)) && (decide (x4.2.2.2 = x5.2.2.2)))))) then
 outO (outO (some Bool.false))
 else
 some (Sum.inl (Go.IntKind.wrap .i64 (v3 + (1 : Int))))
 else none
 else none
 else
 outO (some (Sum.inl ()))) (0 : Int)) fun _ =>
 some Bool.true
noncomputable def cons18 : List (Nat × CE) := [(10, ⟨[], riB, (fun _ => some true)⟩), (16, ⟨[], [(.tmp 0 true [(.dat (.int .u8)), (.dat (.int .i64)), (.dat (.int .i64))]), (.tmp 1 false [(.dat (.list (.pair (.int .u8) (.pair (.int .i64) (.pair (.int .u8) (.int .i64))))))])], client_Start⟩), (17, ⟨[], [(.tmp 0 true [(.dat (.int .u8)), (.dat (.int .i64)), (.dat (.int .i64))]), (.tmp 1 false [(.dat (.list (.pair (.int .u8) (.pair (.int .i64) (.pair (.int .u8) (.int .i64))))))])], dialtoneref13_Start⟩), (14, ⟨[(.tmp 0 true [(.dat (.int .u8)), (.dat (.int .i64)), (.dat (.int .i64))])], [(.tmp 0 false [(.dat .bool)])], client_May⟩), (34, ⟨[(.tmp 0 true [(.dat (.int .u8)), (.dat (.int .i64)), (.dat (.int .i64))])], [(.tmp 0 false [(.dat .bool)])], dialtoneref13_Short⟩), (35, ⟨[(.tmp 0 false [(.dat (.int .i64))]), (.tmp 1 false [(.dat (.int .i64))]), (.tmp 2 false [(.dat (.int .i64))])], [(.tmp 0 false [(.dat .bool)])], dialtoneref12_From⟩), (28, ⟨[(.tmp 0 true [(.dat (.int .u8)), (.dat (.int .i64)), (.dat (.int .i64))])], [(.tmp 0 false [(.dat .bool)])], dialtoneref13_May⟩), (24, ⟨[(.tmp 0 true [(.dat (.int .u8)), (.dat (.int .i64)), (.dat (.int .i64))]), (.tmp 1 true [(.dat (.int .u8)), (.dat (.int .i64)), (.dat (.int .u8))])], [(.tmp 0 true [(.dat (.int .u8)), (.dat (.int .i64)), (.dat (.int .i64))]), (.tmp 1 false [(.dat (.list (.pair (.int .u8) (.pair (.int .i64) (.pair (.int .u8) (.int .i64))))))])], client_Step⟩), (20, ⟨[(.tmp 0 false [(.dat (.int .i64))])], [(.tmp 0 false [(.dat (.int .i64))])], client_Copies⟩), (33, ⟨[(.tmp 0 true [(.dat (.int .u8)), (.dat (.int .i64)), (.dat (.int .i64))]), (.tmp 1 true [(.dat (.int .u8)), (.dat (.int .i64)), (.dat (.int .u8))])], [(.tmp 0 true [(.dat (.int .u8)), (.dat (.int .i64)), (.dat (.int .i64))]), (.tmp 1 false [(.dat (.list (.pair (.int .u8) (.pair (.int .i64) (.pair (.int .u8) (.int .i64))))))])], dialtoneref13_open⟩), (27, ⟨[(.tmp 0 true [(.dat (.int .u8)), (.dat (.int .i64)), (.dat (.int .i64))]), (.tmp 1 true [(.dat (.int .u8)), (.dat (.int .i64)), (.dat (.int .u8))])], [(.tmp 0 true [(.dat (.int .u8)), (.dat (.int .i64)), (.dat (.int .i64))]), (.tmp 1 false [(.dat (.list (.pair (.int .u8) (.pair (.int .i64) (.pair (.int .u8) (.int .i64))))))])], dialtoneref13_Step⟩), (21, ⟨[(.tmp 0 false [(.dat (.int .i64))])], [(.tmp 0 false [(.dat (.int .i64))])], dialtoneref13_Copies⟩)]
theorem cons18_ok : ConL Try.prog cons18 := ⟨con_true (by kernel_rfl) lives_o, con16, con17, con14, con34, con35, con28, con24, con20, con33, con27, con21, trivial⟩
theorem con18 : ConOk Try.prog 18 ⟨[(.tmp 0 false [(.dat (.list (.pair (.int .u8) (.pair (.int .i64) (.pair (.int .u8) (.int .i64))))))]), (.tmp 1 false [(.dat (.list (.pair (.int .u8) (.pair (.int .i64) (.pair (.int .u8) (.int .i64))))))])], [(.tmp 0 false [(.dat .bool)])], dialtoneref12_Same⟩ :=
  tree_ok (plan := planOf plan18) (eg := egNo) KK tabL_ok (conOf_ok cons18_ok) Try.func18 (by kernel_rfl) (by kernel_rfl) 10000 (fun a r h => Eq.trans (show _ = dialtoneref12_Same a from by kernel_rfl) h)
def plan19 : List (Nat × PL) := []
noncomputable def dialtonelaw13_step : ((Int × (Int × Int)) × (Int × (Int × Int))) → Option Bool := fun ((a1, (a2, a3)), (a4, (a5, a6))) =>
 bindO (client_Step ((a1, (a2, a3)), (a4, (a5, a6)))) fun ((x8, (x9, x10)), x11) =>
 bindO (dialtoneref13_Step ((a1, (a2, a3)), (a4, (a5, a6)))) fun ((x13, (x14, x15)), x16) =>
 bif ((decide (x8 = x13)) && ((decide (x9 = x14)) && (decide (x10 = x15)))) then
 bindO (dialtoneref12_Same (x11, x16)) fun x17 =>
 bif x17 then
 bindO (client_May (a1, (a2, a3))) fun x18 =>
 bindO (dialtoneref13_May (a1, (a2, a3))) fun x19 =>
 some (x18 == x19)
 else
 some Bool.false
 else
 some Bool.false
noncomputable def cons19 : List (Nat × CE) := [(10, ⟨[], riB, (fun _ => some true)⟩), (16, ⟨[], [(.tmp 0 true [(.dat (.int .u8)), (.dat (.int .i64)), (.dat (.int .i64))]), (.tmp 1 false [(.dat (.list (.pair (.int .u8) (.pair (.int .i64) (.pair (.int .u8) (.int .i64))))))])], client_Start⟩), (17, ⟨[], [(.tmp 0 true [(.dat (.int .u8)), (.dat (.int .i64)), (.dat (.int .i64))]), (.tmp 1 false [(.dat (.list (.pair (.int .u8) (.pair (.int .i64) (.pair (.int .u8) (.int .i64))))))])], dialtoneref13_Start⟩), (14, ⟨[(.tmp 0 true [(.dat (.int .u8)), (.dat (.int .i64)), (.dat (.int .i64))])], [(.tmp 0 false [(.dat .bool)])], client_May⟩), (34, ⟨[(.tmp 0 true [(.dat (.int .u8)), (.dat (.int .i64)), (.dat (.int .i64))])], [(.tmp 0 false [(.dat .bool)])], dialtoneref13_Short⟩), (35, ⟨[(.tmp 0 false [(.dat (.int .i64))]), (.tmp 1 false [(.dat (.int .i64))]), (.tmp 2 false [(.dat (.int .i64))])], [(.tmp 0 false [(.dat .bool)])], dialtoneref12_From⟩), (28, ⟨[(.tmp 0 true [(.dat (.int .u8)), (.dat (.int .i64)), (.dat (.int .i64))])], [(.tmp 0 false [(.dat .bool)])], dialtoneref13_May⟩), (24, ⟨[(.tmp 0 true [(.dat (.int .u8)), (.dat (.int .i64)), (.dat (.int .i64))]), (.tmp 1 true [(.dat (.int .u8)), (.dat (.int .i64)), (.dat (.int .u8))])], [(.tmp 0 true [(.dat (.int .u8)), (.dat (.int .i64)), (.dat (.int .i64))]), (.tmp 1 false [(.dat (.list (.pair (.int .u8) (.pair (.int .i64) (.pair (.int .u8) (.int .i64))))))])], client_Step⟩), (20, ⟨[(.tmp 0 false [(.dat (.int .i64))])], [(.tmp 0 false [(.dat (.int .i64))])], client_Copies⟩), (33, ⟨[(.tmp 0 true [(.dat (.int .u8)), (.dat (.int .i64)), (.dat (.int .i64))]), (.tmp 1 true [(.dat (.int .u8)), (.dat (.int .i64)), (.dat (.int .u8))])], [(.tmp 0 true [(.dat (.int .u8)), (.dat (.int .i64)), (.dat (.int .i64))]), (.tmp 1 false [(.dat (.list (.pair (.int .u8) (.pair (.int .i64) (.pair (.int .u8) (.int .i64))))))])], dialtoneref13_open⟩), (27, ⟨[(.tmp 0 true [(.dat (.int .u8)), (.dat (.int .i64)), (.dat (.int .i64))]), (.tmp 1 true [(.dat (.int .u8)), (.dat (.int .i64)), (.dat (.int .u8))])], [(.tmp 0 true [(.dat (.int .u8)), (.dat (.int .i64)), (.dat (.int .i64))]), (.tmp 1 false [(.dat (.list (.pair (.int .u8) (.pair (.int .i64) (.pair (.int .u8) (.int .i64))))))])], dialtoneref13_Step⟩), (21, ⟨[(.tmp 0 false [(.dat (.int .i64))])], [(.tmp 0 false [(.dat (.int .i64))])], dialtoneref13_Copies⟩), (18, ⟨[(.tmp 0 false [(.dat (.list (.pair (.int .u8) (.pair (.int .i64) (.pair (.int .u8) (.int .i64))))))]), (.tmp 1 false [(.dat (.list (.pair (.int .u8) (.pair (.int .i64) (.pair (.int .u8) (.int .i64))))))])], [(.tmp 0 false [(.dat .bool)])], dialtoneref12_Same⟩)]
theorem cons19_ok : ConL Try.prog cons19 := ⟨con_true (by kernel_rfl) lives_o, con16, con17, con14, con34, con35, con28, con24, con20, con33, con27, con21, con18, trivial⟩
theorem con19 : ConOk Try.prog 19 ⟨[(.tmp 0 true [(.dat (.int .u8)), (.dat (.int .i64)), (.dat (.int .i64))]), (.tmp 1 true [(.dat (.int .u8)), (.dat (.int .i64)), (.dat (.int .u8))])], [(.tmp 0 false [(.dat .bool)])], dialtonelaw13_step⟩ :=
  tree_ok (plan := planOf plan19) (eg := egNo) KK tabL_ok (conOf_ok cons19_ok) Try.func19 (by kernel_rfl) (by kernel_rfl) 10000 (fun a r h => Eq.trans (show _ = dialtonelaw13_step a from by kernel_rfl) h)
def plan9 : List (Nat × PL) := [(262657, (.carry [])), (35253091829766, (.carry [.tmp 5 false [(.dat (.int .i64))]])), (134480385, (.carry [])), (9241386504622178817, (.carry [.tmp 6 false [(.dat (.int .i64))]])), (18049651601311750, (.carry [.tmp 7 false [(.dat (.int .i64))]])), (635063244912768173616281159686, (.carry [.tmp 6 false [(.dat (.int .i64))]]))]
noncomputable def dialtonelaw13_inputs : ((Int × (Int × Int)) × (List Int)) → Option Bool := fun ((a1, (a2, a3)), a4) =>
 joinO (loopO (fun v5 =>
 bif (decide (v5 < (8 : Int))) then
 joinO (loopO (fun v6 =>
 bif (decide (v6 < (((List.length a4) : Nat) : Int))) then
 bif (decide (((0 : Int) ≤ v6) ∧ (v6 < (((List.length a4) : Nat) : Int)))) then 
 bindO a4[(Int.toNat v6)]? fun x8 =>
 bindO (dialtonelaw13_step ((a1, (a2, a3)), ((Go.IntKind.wrap .u8 v5), (x8, (0 : Int))))) fun x9 =>
 bif (!x9) then
 outO (outO (outO (outO (some Bool.false))))
 else
 some (Sum.inl (Go.IntKind.wrap .i64 (v6 + (1 : Int))))
 else none
 else
 outO (some (Sum.inl v6))) (0 : Int)) fun v11 =>
 some (Sum.inl (Go.IntKind.wrap .i64 (v5 + (1 : Int))))
 else
 outO (some (Sum.inl ()))) (0 : Int)) fun _ =>
 joinO (loopO (fun v13 =>
 bif (decide (v13 < (15 : Int))) then
 bindO (dialtonelaw13_step ((a1, (a2, a3)), ((5 : Int), ((0 : Int), (Go.IntKind.wrap .u8 v13))))) fun x15 =>
 bif (!x15) then
 outO (outO (some Bool.false))
 else
 some (Sum.inl (Go.IntKind.wrap .i64 (v13 + (1 : Int))))
 else
 outO (some (Sum.inl ()))) (0 : Int)) fun _ =>
 some Bool.true
noncomputable def cons9 : List (Nat × CE) := [(10, ⟨[], riB, (fun _ => some true)⟩), (16, ⟨[], [(.tmp 0 true [(.dat (.int .u8)), (.dat (.int .i64)), (.dat (.int .i64))]), (.tmp 1 false [(.dat (.list (.pair (.int .u8) (.pair (.int .i64) (.pair (.int .u8) (.int .i64))))))])], client_Start⟩), (17, ⟨[], [(.tmp 0 true [(.dat (.int .u8)), (.dat (.int .i64)), (.dat (.int .i64))]), (.tmp 1 false [(.dat (.list (.pair (.int .u8) (.pair (.int .i64) (.pair (.int .u8) (.int .i64))))))])], dialtoneref13_Start⟩), (14, ⟨[(.tmp 0 true [(.dat (.int .u8)), (.dat (.int .i64)), (.dat (.int .i64))])], [(.tmp 0 false [(.dat .bool)])], client_May⟩), (34, ⟨[(.tmp 0 true [(.dat (.int .u8)), (.dat (.int .i64)), (.dat (.int .i64))])], [(.tmp 0 false [(.dat .bool)])], dialtoneref13_Short⟩), (35, ⟨[(.tmp 0 false [(.dat (.int .i64))]), (.tmp 1 false [(.dat (.int .i64))]), (.tmp 2 false [(.dat (.int .i64))])], [(.tmp 0 false [(.dat .bool)])], dialtoneref12_From⟩), (28, ⟨[(.tmp 0 true [(.dat (.int .u8)), (.dat (.int .i64)), (.dat (.int .i64))])], [(.tmp 0 false [(.dat .bool)])], dialtoneref13_May⟩), (24, ⟨[(.tmp 0 true [(.dat (.int .u8)), (.dat (.int .i64)), (.dat (.int .i64))]), (.tmp 1 true [(.dat (.int .u8)), (.dat (.int .i64)), (.dat (.int .u8))])], [(.tmp 0 true [(.dat (.int .u8)), (.dat (.int .i64)), (.dat (.int .i64))]), (.tmp 1 false [(.dat (.list (.pair (.int .u8) (.pair (.int .i64) (.pair (.int .u8) (.int .i64))))))])], client_Step⟩), (20, ⟨[(.tmp 0 false [(.dat (.int .i64))])], [(.tmp 0 false [(.dat (.int .i64))])], client_Copies⟩), (33, ⟨[(.tmp 0 true [(.dat (.int .u8)), (.dat (.int .i64)), (.dat (.int .i64))]), (.tmp 1 true [(.dat (.int .u8)), (.dat (.int .i64)), (.dat (.int .u8))])], [(.tmp 0 true [(.dat (.int .u8)), (.dat (.int .i64)), (.dat (.int .i64))]), (.tmp 1 false [(.dat (.list (.pair (.int .u8) (.pair (.int .i64) (.pair (.int .u8) (.int .i64))))))])], dialtoneref13_open⟩), (27, ⟨[(.tmp 0 true [(.dat (.int .u8)), (.dat (.int .i64)), (.dat (.int .i64))]), (.tmp 1 true [(.dat (.int .u8)), (.dat (.int .i64)), (.dat (.int .u8))])], [(.tmp 0 true [(.dat (.int .u8)), (.dat (.int .i64)), (.dat (.int .i64))]), (.tmp 1 false [(.dat (.list (.pair (.int .u8) (.pair (.int .i64) (.pair (.int .u8) (.int .i64))))))])], dialtoneref13_Step⟩), (21, ⟨[(.tmp 0 false [(.dat (.int .i64))])], [(.tmp 0 false [(.dat (.int .i64))])], dialtoneref13_Copies⟩), (18, ⟨[(.tmp 0 false [(.dat (.list (.pair (.int .u8) (.pair (.int .i64) (.pair (.int .u8) (.int .i64))))))]), (.tmp 1 false [(.dat (.list (.pair (.int .u8) (.pair (.int .i64) (.pair (.int .u8) (.int .i64))))))])], [(.tmp 0 false [(.dat .bool)])], dialtoneref12_Same⟩), (19, ⟨[(.tmp 0 true [(.dat (.int .u8)), (.dat (.int .i64)), (.dat (.int .i64))]), (.tmp 1 true [(.dat (.int .u8)), (.dat (.int .i64)), (.dat (.int .u8))])], [(.tmp 0 false [(.dat .bool)])], dialtonelaw13_step⟩)]
theorem cons9_ok : ConL Try.prog cons9 := ⟨con_true (by kernel_rfl) lives_o, con16, con17, con14, con34, con35, con28, con24, con20, con33, con27, con21, con18, con19, trivial⟩
theorem con9 : ConOk Try.prog 9 ⟨[(.tmp 0 true [(.dat (.int .u8)), (.dat (.int .i64)), (.dat (.int .i64))]), (.tmp 1 false [(.dat (.list (.int .i64)))])], [(.tmp 0 false [(.dat .bool)])], dialtonelaw13_inputs⟩ :=
  tree_ok (plan := planOf plan9) (eg := egNo) KK tabL_ok (conOf_ok cons9_ok) Try.func9 (by kernel_rfl) (by kernel_rfl) 10000 (fun a r h => Eq.trans (show _ = dialtonelaw13_inputs a from by kernel_rfl) h)
def plan5 : List (Nat × PL) := [(68853957121, (.carry []))]
noncomputable def dialtonelaw13_ClientSteps : ((Int × (Int × Int)) × ((Int × (Int × Int)) × Int)) → Option Bool := fun ((a1, (a2, a3)), ((a4, (a5, a6)), a7)) =>
 bindO (client_Start ()) fun ((x9, (x10, x11)), x12) =>
 bindO (dialtoneref13_Start ()) fun ((x14, (x15, x16)), x17) =>
 joinO (bif (!((decide (x9 = x14)) && ((decide (x10 = x15)) && (decide (x11 = x16))))) then
 outO (some Bool.false)
 else
 bindO (dialtoneref12_Same (x12, x17)) fun x18 =>
 bif (!x18) then
 outO (some Bool.false)
 else
 bindO (dialtonelaw13_step ((a1, (a2, a3)), (a4, (a5, a6)))) fun x19 =>
 bif (!x19) then
 outO (some Bool.false)
 else
 some (Sum.inl ())) fun _ =>
 bindO (dialtonelaw13_step ((a1, (a2, a3)), ((Int.tmod a4 (8 : Int)), (a5, (Int.tmod a6 (15 : Int)))))) fun x22 =>
 bif x22 then
 bindO (client_Copies a7) fun x23 =>
 bindO (dialtoneref13_Copies a7) fun x24 =>
 bif (decide (x23 = x24)) then
 bindO (client_Copies (Int.tmod a7 (40000 : Int))) fun x26 =>
 bindO (dialtoneref13_Copies (Int.tmod a7 (40000 : Int))) fun x28 =>
 bif (decide (x26 = x28)) then
 some Bool.true
 else
 some Bool.false
 else
 some Bool.false
 else
 some Bool.false
noncomputable def cons5 : List (Nat × CE) := [(10, ⟨[], riB, (fun _ => some true)⟩), (16, ⟨[], [(.tmp 0 true [(.dat (.int .u8)), (.dat (.int .i64)), (.dat (.int .i64))]), (.tmp 1 false [(.dat (.list (.pair (.int .u8) (.pair (.int .i64) (.pair (.int .u8) (.int .i64))))))])], client_Start⟩), (17, ⟨[], [(.tmp 0 true [(.dat (.int .u8)), (.dat (.int .i64)), (.dat (.int .i64))]), (.tmp 1 false [(.dat (.list (.pair (.int .u8) (.pair (.int .i64) (.pair (.int .u8) (.int .i64))))))])], dialtoneref13_Start⟩), (14, ⟨[(.tmp 0 true [(.dat (.int .u8)), (.dat (.int .i64)), (.dat (.int .i64))])], [(.tmp 0 false [(.dat .bool)])], client_May⟩), (34, ⟨[(.tmp 0 true [(.dat (.int .u8)), (.dat (.int .i64)), (.dat (.int .i64))])], [(.tmp 0 false [(.dat .bool)])], dialtoneref13_Short⟩), (35, ⟨[(.tmp 0 false [(.dat (.int .i64))]), (.tmp 1 false [(.dat (.int .i64))]), (.tmp 2 false [(.dat (.int .i64))])], [(.tmp 0 false [(.dat .bool)])], dialtoneref12_From⟩), (28, ⟨[(.tmp 0 true [(.dat (.int .u8)), (.dat (.int .i64)), (.dat (.int .i64))])], [(.tmp 0 false [(.dat .bool)])], dialtoneref13_May⟩), (24, ⟨[(.tmp 0 true [(.dat (.int .u8)), (.dat (.int .i64)), (.dat (.int .i64))]), (.tmp 1 true [(.dat (.int .u8)), (.dat (.int .i64)), (.dat (.int .u8))])], [(.tmp 0 true [(.dat (.int .u8)), (.dat (.int .i64)), (.dat (.int .i64))]), (.tmp 1 false [(.dat (.list (.pair (.int .u8) (.pair (.int .i64) (.pair (.int .u8) (.int .i64))))))])], client_Step⟩), (20, ⟨[(.tmp 0 false [(.dat (.int .i64))])], [(.tmp 0 false [(.dat (.int .i64))])], client_Copies⟩), (33, ⟨[(.tmp 0 true [(.dat (.int .u8)), (.dat (.int .i64)), (.dat (.int .i64))]), (.tmp 1 true [(.dat (.int .u8)), (.dat (.int .i64)), (.dat (.int .u8))])], [(.tmp 0 true [(.dat (.int .u8)), (.dat (.int .i64)), (.dat (.int .i64))]), (.tmp 1 false [(.dat (.list (.pair (.int .u8) (.pair (.int .i64) (.pair (.int .u8) (.int .i64))))))])], dialtoneref13_open⟩), (27, ⟨[(.tmp 0 true [(.dat (.int .u8)), (.dat (.int .i64)), (.dat (.int .i64))]), (.tmp 1 true [(.dat (.int .u8)), (.dat (.int .i64)), (.dat (.int .u8))])], [(.tmp 0 true [(.dat (.int .u8)), (.dat (.int .i64)), (.dat (.int .i64))]), (.tmp 1 false [(.dat (.list (.pair (.int .u8) (.pair (.int .i64) (.pair (.int .u8) (.int .i64))))))])], dialtoneref13_Step⟩), (21, ⟨[(.tmp 0 false [(.dat (.int .i64))])], [(.tmp 0 false [(.dat (.int .i64))])], dialtoneref13_Copies⟩), (18, ⟨[(.tmp 0 false [(.dat (.list (.pair (.int .u8) (.pair (.int .i64) (.pair (.int .u8) (.int .i64))))))]), (.tmp 1 false [(.dat (.list (.pair (.int .u8) (.pair (.int .i64) (.pair (.int .u8) (.int .i64))))))])], [(.tmp 0 false [(.dat .bool)])], dialtoneref12_Same⟩), (19, ⟨[(.tmp 0 true [(.dat (.int .u8)), (.dat (.int .i64)), (.dat (.int .i64))]), (.tmp 1 true [(.dat (.int .u8)), (.dat (.int .i64)), (.dat (.int .u8))])], [(.tmp 0 false [(.dat .bool)])], dialtonelaw13_step⟩), (9, ⟨[(.tmp 0 true [(.dat (.int .u8)), (.dat (.int .i64)), (.dat (.int .i64))]), (.tmp 1 false [(.dat (.list (.int .i64)))])], [(.tmp 0 false [(.dat .bool)])], dialtonelaw13_inputs⟩)]
theorem cons5_ok : ConL Try.prog cons5 := ⟨con_true (by kernel_rfl) lives_o, con16, con17, con14, con34, con35, con28, con24, con20, con33, con27, con21, con18, con19, con9, trivial⟩
theorem con5 : ConOk Try.prog 5 ⟨[(.tmp 0 true [(.dat (.int .u8)), (.dat (.int .i64)), (.dat (.int .i64))]), (.tmp 1 true [(.dat (.int .u8)), (.dat (.int .i64)), (.dat (.int .u8))]), (.tmp 2 false [(.dat (.int .i64))])], [(.tmp 0 false [(.dat .bool)])], dialtonelaw13_ClientSteps⟩ :=
  tree_ok (plan := planOf plan5) (eg := egNo) KK tabL_ok (conOf_ok cons5_ok) Try.func5 (by kernel_rfl) (by kernel_rfl) 10000 (fun a r h => Eq.trans (show _ = dialtonelaw13_ClientSteps a from by kernel_rfl) h)
def plan3 : List (Nat × PL) := [(68853957121, (.carry [])), (9241421688456087558, (.carry [.tmp 3 false [(.dat (.int .i64))]])), (2422583247098632616804865, (.carry [.tmp 4 false [(.dat (.int .i64))]])), (166478653090017823607932654836779014, (.carry [.tmp 4 false [(.dat (.int .i64))]])), (43641380035629632351877897869532597846529, (.carry [.tmp 5 false [(.dat (.int .i64))]])), (2999012800085385371517106168557929320908125131507718, (.carry [.tmp 5 false [(.dat (.int .i64))]]))]
noncomputable def dialtonelaw13_ClientTable : PUnit → Option Bool := fun _ =>
 joinO (loopO (fun v1 =>
 bif (decide (v1 < (9 : Int))) then
 joinO (loopO (fun v2 =>
 bif (decide (v2 < (10 : Int))) then
 joinO (loopO (fun v3 =>
 bif (decide (v3 < (16 : Int))) then
 bif (decide (((0 : Int) ≤ v2) ∧ (v2 < (10 : Int)))) then 
 bindO ((0 : Int) :: ((1 : Int) :: ((500 : Int) :: ((1000 : Int) :: ((2000 : Int) :: ((4000 : Int) :: ((8000 : Int) :: ((16000 : Int) :: ((32000 : Int) :: ((64000 : Int) :: ([] : List Int)))))))))))[(Int.toNat v2)]? fun x5 =>
 bif (decide (((0 : Int) ≤ v3) ∧ (v3 < (16 : Int)))) then 
 bindO ((-1 : Int) :: ((0 : Int) :: ((1 : Int) :: ((99 : Int) :: ((100 : Int) :: ((101 : Int) :: ((180 : Int) :: ((199 : Int) :: ((200 : Int) :: ((201 : Int) :: ((299 : Int) :: ((300 : Int) :: ((302 : Int) :: ((486 : Int) :: ((699 : Int) :: ((700 : Int) :: ([] : List Int)))))))))))))))))[(Int.toNat v3)]? fun x6 =>
 bindO (dialtonelaw13_inputs (((Go.IntKind.wrap .u8 v1), (x5, x6)), ((-1 : Int) :: ((0 : Int) :: ((1 : Int) :: ((99 : Int) :: ((100 : Int) :: ((101 : Int) :: ((180 : Int) :: ((199 : Int) :: ((200 : Int) :: ((201 : Int) :: ((299 : Int) :: ((300 : Int) :: ((302 : Int) :: ((486 : Int) :: ((699 : Int) :: ((700 : Int) :: ([] : List Int))))))))))))))))))) fun x7 =>
 bif (!x7) then
 outO (outO (outO (outO (outO (outO (some Bool.false))))))
 else
 some (Sum.inl (Go.IntKind.wrap .i64 (v3 + (1 : Int))))
 else none
 else none
 else
 outO (some (Sum.inl v3))) (0 : Int)) fun v9 =>
 some (Sum.inl (Go.IntKind.wrap .i64 (v2 + (1 : Int))))
 else
 outO (some (Sum.inl v2))) (0 : Int)) fun v11 =>
 some (Sum.inl (Go.IntKind.wrap .i64 (v1 + (1 : Int))))
 else
 outO (some (Sum.inl ()))) (0 : Int)) fun _ =>
 some Bool.true
noncomputable def cons3 : List (Nat × CE) := [(10, ⟨[], riB, (fun _ => some true)⟩), (16, ⟨[], [(.tmp 0 true [(.dat (.int .u8)), (.dat (.int .i64)), (.dat (.int .i64))]), (.tmp 1 false [(.dat (.list (.pair (.int .u8) (.pair (.int .i64) (.pair (.int .u8) (.int .i64))))))])], client_Start⟩), (17, ⟨[], [(.tmp 0 true [(.dat (.int .u8)), (.dat (.int .i64)), (.dat (.int .i64))]), (.tmp 1 false [(.dat (.list (.pair (.int .u8) (.pair (.int .i64) (.pair (.int .u8) (.int .i64))))))])], dialtoneref13_Start⟩), (14, ⟨[(.tmp 0 true [(.dat (.int .u8)), (.dat (.int .i64)), (.dat (.int .i64))])], [(.tmp 0 false [(.dat .bool)])], client_May⟩), (34, ⟨[(.tmp 0 true [(.dat (.int .u8)), (.dat (.int .i64)), (.dat (.int .i64))])], [(.tmp 0 false [(.dat .bool)])], dialtoneref13_Short⟩), (35, ⟨[(.tmp 0 false [(.dat (.int .i64))]), (.tmp 1 false [(.dat (.int .i64))]), (.tmp 2 false [(.dat (.int .i64))])], [(.tmp 0 false [(.dat .bool)])], dialtoneref12_From⟩), (28, ⟨[(.tmp 0 true [(.dat (.int .u8)), (.dat (.int .i64)), (.dat (.int .i64))])], [(.tmp 0 false [(.dat .bool)])], dialtoneref13_May⟩), (24, ⟨[(.tmp 0 true [(.dat (.int .u8)), (.dat (.int .i64)), (.dat (.int .i64))]), (.tmp 1 true [(.dat (.int .u8)), (.dat (.int .i64)), (.dat (.int .u8))])], [(.tmp 0 true [(.dat (.int .u8)), (.dat (.int .i64)), (.dat (.int .i64))]), (.tmp 1 false [(.dat (.list (.pair (.int .u8) (.pair (.int .i64) (.pair (.int .u8) (.int .i64))))))])], client_Step⟩), (20, ⟨[(.tmp 0 false [(.dat (.int .i64))])], [(.tmp 0 false [(.dat (.int .i64))])], client_Copies⟩), (33, ⟨[(.tmp 0 true [(.dat (.int .u8)), (.dat (.int .i64)), (.dat (.int .i64))]), (.tmp 1 true [(.dat (.int .u8)), (.dat (.int .i64)), (.dat (.int .u8))])], [(.tmp 0 true [(.dat (.int .u8)), (.dat (.int .i64)), (.dat (.int .i64))]), (.tmp 1 false [(.dat (.list (.pair (.int .u8) (.pair (.int .i64) (.pair (.int .u8) (.int .i64))))))])], dialtoneref13_open⟩), (27, ⟨[(.tmp 0 true [(.dat (.int .u8)), (.dat (.int .i64)), (.dat (.int .i64))]), (.tmp 1 true [(.dat (.int .u8)), (.dat (.int .i64)), (.dat (.int .u8))])], [(.tmp 0 true [(.dat (.int .u8)), (.dat (.int .i64)), (.dat (.int .i64))]), (.tmp 1 false [(.dat (.list (.pair (.int .u8) (.pair (.int .i64) (.pair (.int .u8) (.int .i64))))))])], dialtoneref13_Step⟩), (21, ⟨[(.tmp 0 false [(.dat (.int .i64))])], [(.tmp 0 false [(.dat (.int .i64))])], dialtoneref13_Copies⟩), (18, ⟨[(.tmp 0 false [(.dat (.list (.pair (.int .u8) (.pair (.int .i64) (.pair (.int .u8) (.int .i64))))))]), (.tmp 1 false [(.dat (.list (.pair (.int .u8) (.pair (.int .i64) (.pair (.int .u8) (.int .i64))))))])], [(.tmp 0 false [(.dat .bool)])], dialtoneref12_Same⟩), (19, ⟨[(.tmp 0 true [(.dat (.int .u8)), (.dat (.int .i64)), (.dat (.int .i64))]), (.tmp 1 true [(.dat (.int .u8)), (.dat (.int .i64)), (.dat (.int .u8))])], [(.tmp 0 false [(.dat .bool)])], dialtonelaw13_step⟩), (9, ⟨[(.tmp 0 true [(.dat (.int .u8)), (.dat (.int .i64)), (.dat (.int .i64))]), (.tmp 1 false [(.dat (.list (.int .i64)))])], [(.tmp 0 false [(.dat .bool)])], dialtonelaw13_inputs⟩), (5, ⟨[(.tmp 0 true [(.dat (.int .u8)), (.dat (.int .i64)), (.dat (.int .i64))]), (.tmp 1 true [(.dat (.int .u8)), (.dat (.int .i64)), (.dat (.int .u8))]), (.tmp 2 false [(.dat (.int .i64))])], [(.tmp 0 false [(.dat .bool)])], dialtonelaw13_ClientSteps⟩)]
theorem cons3_ok : ConL Try.prog cons3 := ⟨con_true (by kernel_rfl) lives_o, con16, con17, con14, con34, con35, con28, con24, con20, con33, con27, con21, con18, con19, con9, con5, trivial⟩
theorem con3 : ConOk Try.prog 3 ⟨[], [(.tmp 0 false [(.dat .bool)])], dialtonelaw13_ClientTable⟩ :=
  tree_ok (plan := planOf plan3) (eg := egNo) KK tabL_ok (conOf_ok cons3_ok) Try.func3 (by kernel_rfl) (by kernel_rfl) 10000 (fun a r h => Eq.trans (show _ = dialtonelaw13_ClientTable a from by kernel_rfl) h)
end Go.Proofs.Ytohhpcggahlpjaa
