import Derived.Test.YtlaccfegaoaakaaFp
import Derived.Test.YtlaccfegaoaakaaXBp
import Derived.Test.YtlaccfegaoaakaaLp
set_option linter.unusedVariables false
set_option maxRecDepth 1000000
set_option maxHeartbeats 0
namespace Go.Proofs.Ytlaccfegaoaakaa
open Go.RowKit
def plan34 : List (Nat × PL) := []
noncomputable def registrar_within : (Int × (Int × Int)) → Option Bool := fun (a1, (a2, a3)) =>
 bif (decide (a1 ≥ a2)) then
 some (decide (a1 ≤ a3))
 else
 some Bool.false
noncomputable def cons34 : List (Nat × CE) := [(9, ⟨[], riB, (fun _ => some true)⟩)]
theorem cons34_ok : ConL Try.prog cons34 := ⟨con_true (by kernel_rfl) lives_o, trivial⟩
theorem con34 : ConOk Try.prog 34 ⟨[(.tmp 0 false [(.dat (.int .i64))]), (.tmp 1 false [(.dat (.int .i64))]), (.tmp 2 false [(.dat (.int .i64))])], [(.tmp 0 false [(.dat .bool)])], registrar_within⟩ :=
  tree_ok (plan := planOf plan34) (eg := egNo) KK tabL_ok (conOf_ok cons34_ok) Try.func34 (by kernel_rfl) (by kernel_rfl) 10000 (fun a r h => Eq.trans (show _ = registrar_within a from by kernel_rfl) h)
def plan10 : List (Nat × PL) := []
noncomputable def registrar_Valid : (Int × (Int × (Int × Int))) → Option Bool := fun (a1, (a2, (a3, a4))) =>
 bif (decide (a1 ≥ (1 : Int))) then
 bif (decide (a2 ≥ a1)) then
 bif (decide (a3 ≥ a2)) then
 bif (decide (a3 ≤ (10000000 : Int))) then
 bif (decide (a4 ≥ (1 : Int))) then
 some (decide (a4 ≤ (100 : Int)))
 else
 some Bool.false
 else
 some Bool.false
 else
 some Bool.false
 else
 some Bool.false
 else
 some Bool.false
noncomputable def cons10 : List (Nat × CE) := [(9, ⟨[], riB, (fun _ => some true)⟩), (34, ⟨[(.tmp 0 false [(.dat (.int .i64))]), (.tmp 1 false [(.dat (.int .i64))]), (.tmp 2 false [(.dat (.int .i64))])], [(.tmp 0 false [(.dat .bool)])], registrar_within⟩)]
theorem cons10_ok : ConL Try.prog cons10 := ⟨con_true (by kernel_rfl) lives_o, con34, trivial⟩
theorem con10 : ConOk Try.prog 10 ⟨[(.tmp 0 true [(.dat (.int .i64)), (.dat (.int .i64)), (.dat (.int .i64)), (.dat (.int .i64))])], [(.tmp 0 false [(.dat .bool)])], registrar_Valid⟩ :=
  tree_ok (plan := planOf plan10) (eg := egNo) KK tabL_ok (conOf_ok cons10_ok) Try.func10 (by kernel_rfl) (by kernel_rfl) 10000 (fun a r h => Eq.trans (show _ = registrar_Valid a from by kernel_rfl) h)
def plan12 : List (Nat × PL) := [(262657, (.carry [])), (134480385, (.carry [])), (68853957121, (.carry [])), (18049651735527937, (.carry [])), (9241421688590303745, (.carry [])), (1240362622532514091349837830, (.carry [.tmp 79 false [(.dat (.int .i64))]])), (325153619321163373997929418457106, (.carry [.tmp 0 false [(.dat (.int .i64))]])), (22344386578566886589492719673984208799269377, (.carry [])), (85237070383327051513313209472019595777, (.carry [])), (786173211477001113193776809818996398598532324635760132114, (.carry [.tmp 0 false [(.dat (.int .i64))]])), (11440325928226245935055860727722549716533381126, (.carry [.tmp 8 false [(.dat (.int .i64))]])), (206090590349426979817069428033190991914213657709316704072892929, (.carry [])), (27661010798878815332948914248874403524792128044314172453112035183691782, (.carry [.tmp 8 false [(.dat (.int .i64))]]))]
noncomputable def registrar_Formed : ((List UInt8) × ((List UInt8) × (Int × (Bool × ((List ((List UInt8) × (Int × Int))) × (Int × ((List UInt8) × (Int × (List (List UInt8)))))))))) → Option Bool := fun (a1, (a2, (a3, (a4, (a5, (a6, (a7, (a8, a9)))))))) =>
 joinO (bindO (registrar_within ((((List.length a1) : Nat) : Int), ((1 : Int), (255 : Int)))) fun x10 =>
 bif (!x10) then
 outO (some Bool.false)
 else
 bindO (registrar_within ((((List.length a2) : Nat) : Int), ((1 : Int), (255 : Int)))) fun x11 =>
 bif (!x11) then
 outO (some Bool.false)
 else
 bindO (registrar_within (a3, ((0 : Int), (2147483647 : Int)))) fun x12 =>
 bif (!x12) then
 outO (some Bool.false)
 else
 some (Sum.inl ())) fun _ =>
 joinO (bindO (registrar_within (a6, ((-1 : Int), (2147483647 : Int)))) fun x13 =>
 bif (!x13) then
 outO (some Bool.false)
 else
 bif (decide ((((List.length a5) : Nat) : Int) > (20 : Int))) then
 outO (some Bool.false)
 else
 bif (decide ((((List.length a9) : Nat) : Int) > (10 : Int))) then
 outO (some Bool.false)
 else
 some (Sum.inl ())) fun _ =>
 joinO (bif a4 then
 bif (decide ((((List.length a5) : Nat) : Int) > (0 : Int))) then
 outO (some Bool.false)
 else
 bif (decide (a6 ≠ (0 : Int))) then
 outO (some Bool.false)
 else
 some (Sum.inl ())
 else
 some (Sum.inl ())) fun _ =>
 bif (decide ((((List.length a7) : Nat) : Int) > (255 : Int))) then
 some Bool.false
 else
 bindO (registrar_within (a8, ((0 : Int), (2147483647 : Int)))) fun x14 =>
 bif (!x14) then
 some Bool.false
 else
 joinO (bif (decide (a8 ≠ (0 : Int))) then
 bif (decide (a7 = ([] : List UInt8))) then
 outO (some Bool.false)
 else
 bif (decide ((((List.length a5) : Nat) : Int) > (1 : Int))) then
 outO (some Bool.false)
 else
 some (Sum.inl ())
 else
 some (Sum.inl ())) fun _ =>
 joinO (loopO (fun v15 =>
 bif (decide (v15 < (((List.length a5) : Nat) : Int))) then
 bif (decide (((0 : Int) ≤ v15) ∧ (v15 < (((List.length a5) : Nat) : Int)))) then 
 bindO a5[(Int.toNat v15)]? fun x16 =>
 joinO (bindO (registrar_within ((((List.length x16.1) : Nat) : Int), ((1 : Int), (1000 : Int)))) fun x17 =>
 bif (!x17) then
 outO (outO (outO (some Bool.false)))
 else
 bindO (registrar_within (x16.2.1, ((0 : Int), (1000 : Int)))) fun x18 =>
 bif (!x18) then
 outO (outO (outO (some Bool.false)))
 else
 bindO (registrar_within (x16.2.2, ((-1 : Int), (2147483647 : Int)))) fun x19 =>
 bif (!x19) then
 outO (outO (outO (some Bool.false)))
 else
 some (Sum.inl ())) fun _ =>
 bif (decide (((0 : Int) ≤ v15) ∧ (v15 ≤ (((List.length a5) : Nat) : Int)))) then 
 bindO (some (List.take (Int.toNat v15) a5)) fun x20 =>
 joinO (joinO (loopO (fun v21 =>
 bif (decide (v21 < (((List.length x20) : Nat) : Int))) then
 bif (decide (((0 : Int) ≤ v21) ∧ (v21 < (((List.length x20) : Nat) : Int)))) then 
 bindO x20[(Int.toNat v21)]? fun x22 =>
 bif (decide (x22.1 = x16.1)) then
 outO (outO (some (Sum.inl v21)))
 else
 some (Sum.inl (Go.IntKind.wrap .i64 (v21 + (1 : Int))))
 else none
 else
 outO (some (Sum.inl ()))) (0 : Int)) fun _ =>
 some (Sum.inl (-1 : Int))) fun v24 =>
 bif (decide (v24 ≥ (0 : Int))) then
 outO (outO (some Bool.false))
 else
 some (Sum.inl (Go.IntKind.wrap .i64 (v15 + (1 : Int))))
 else none
 else none
 else
 outO (some (Sum.inl ()))) (0 : Int)) fun _ =>
 joinO (joinO (loopO (fun v26 =>
 bif (decide (v26 < (((List.length a9) : Nat) : Int))) then
 bif (decide (((0 : Int) ≤ v26) ∧ (v26 < (((List.length a9) : Nat) : Int)))) then 
 bindO a9[(Int.toNat v26)]? fun x27 =>
 bindO (registrar_within ((((List.length x27) : Nat) : Int), ((1 : Int), (1000 : Int)))) fun x28 =>
 bif (!x28) then
 outO (outO (some (Sum.inl v26)))
 else
 some (Sum.inl (Go.IntKind.wrap .i64 (v26 + (1 : Int))))
 else none
 else
 outO (some (Sum.inl ()))) (0 : Int)) fun _ =>
 some (Sum.inl (-1 : Int))) fun v30 =>
 some (!(decide (v30 ≥ (0 : Int))))
noncomputable def cons12 : List (Nat × CE) := [(9, ⟨[], riB, (fun _ => some true)⟩), (34, ⟨[(.tmp 0 false [(.dat (.int .i64))]), (.tmp 1 false [(.dat (.int .i64))]), (.tmp 2 false [(.dat (.int .i64))])], [(.tmp 0 false [(.dat .bool)])], registrar_within⟩), (10, ⟨[(.tmp 0 true [(.dat (.int .i64)), (.dat (.int .i64)), (.dat (.int .i64)), (.dat (.int .i64))])], [(.tmp 0 false [(.dat .bool)])], registrar_Valid⟩)]
theorem cons12_ok : ConL Try.prog cons12 := ⟨con_true (by kernel_rfl) lives_o, con34, con10, trivial⟩
theorem con12 : ConOk Try.prog 12 ⟨[(.tmp 0 true [(.dat .str), (.dat .str), (.dat (.int .i64)), (.dat .bool), (.dat (.list (.pair .str (.pair (.int .i64) (.int .i64))))), (.dat (.int .i64)), (.dat .str), (.dat (.int .i64)), (.dat (.list .str))])], [(.tmp 0 false [(.dat .bool)])], registrar_Formed⟩ :=
  tree_ok (plan := planOf plan12) (eg := egNo) KK tabL_ok (conOf_ok cons12_ok) Try.func12 (by kernel_rfl) (by kernel_rfl) 10000 (fun a r h => Eq.trans (show _ = registrar_Formed a from by kernel_rfl) h)
def plan33 : List (Nat × PL) := []
noncomputable def dialtoneref22_within : (Int × (Int × Int)) → Option Bool := fun (a1, (a2, a3)) =>
 bif (decide (a1 ≥ a2)) then
 some (decide (a1 ≤ a3))
 else
 some Bool.false
noncomputable def cons33 : List (Nat × CE) := [(9, ⟨[], riB, (fun _ => some true)⟩), (34, ⟨[(.tmp 0 false [(.dat (.int .i64))]), (.tmp 1 false [(.dat (.int .i64))]), (.tmp 2 false [(.dat (.int .i64))])], [(.tmp 0 false [(.dat .bool)])], registrar_within⟩), (10, ⟨[(.tmp 0 true [(.dat (.int .i64)), (.dat (.int .i64)), (.dat (.int .i64)), (.dat (.int .i64))])], [(.tmp 0 false [(.dat .bool)])], registrar_Valid⟩), (12, ⟨[(.tmp 0 true [(.dat .str), (.dat .str), (.dat (.int .i64)), (.dat .bool), (.dat (.list (.pair .str (.pair (.int .i64) (.int .i64))))), (.dat (.int .i64)), (.dat .str), (.dat (.int .i64)), (.dat (.list .str))])], [(.tmp 0 false [(.dat .bool)])], registrar_Formed⟩)]
theorem cons33_ok : ConL Try.prog cons33 := ⟨con_true (by kernel_rfl) lives_o, con34, con10, con12, trivial⟩
theorem con33 : ConOk Try.prog 33 ⟨[(.tmp 0 false [(.dat (.int .i64))]), (.tmp 1 false [(.dat (.int .i64))]), (.tmp 2 false [(.dat (.int .i64))])], [(.tmp 0 false [(.dat .bool)])], dialtoneref22_within⟩ :=
  tree_ok (plan := planOf plan33) (eg := egNo) KK tabL_ok (conOf_ok cons33_ok) Try.func33 (by kernel_rfl) (by kernel_rfl) 10000 (fun a r h => Eq.trans (show _ = dialtoneref22_within a from by kernel_rfl) h)
def plan11 : List (Nat × PL) := []
noncomputable def dialtoneref22_Valid : (Int × (Int × (Int × Int))) → Option Bool := fun (a1, (a2, (a3, a4))) =>
 bif (decide ((1 : Int) ≤ a1)) then
 bif (decide (a1 ≤ a2)) then
 bif (decide (a2 ≤ a3)) then
 bif (decide (a3 ≤ (10000000 : Int))) then
 bindO (dialtoneref22_within (a4, ((1 : Int), (100 : Int)))) fun x5 =>
 some x5
 else
 some Bool.false
 else
 some Bool.false
 else
 some Bool.false
 else
 some Bool.false
noncomputable def cons11 : List (Nat × CE) := [(9, ⟨[], riB, (fun _ => some true)⟩), (34, ⟨[(.tmp 0 false [(.dat (.int .i64))]), (.tmp 1 false [(.dat (.int .i64))]), (.tmp 2 false [(.dat (.int .i64))])], [(.tmp 0 false [(.dat .bool)])], registrar_within⟩), (10, ⟨[(.tmp 0 true [(.dat (.int .i64)), (.dat (.int .i64)), (.dat (.int .i64)), (.dat (.int .i64))])], [(.tmp 0 false [(.dat .bool)])], registrar_Valid⟩), (12, ⟨[(.tmp 0 true [(.dat .str), (.dat .str), (.dat (.int .i64)), (.dat .bool), (.dat (.list (.pair .str (.pair (.int .i64) (.int .i64))))), (.dat (.int .i64)), (.dat .str), (.dat (.int .i64)), (.dat (.list .str))])], [(.tmp 0 false [(.dat .bool)])], registrar_Formed⟩), (33, ⟨[(.tmp 0 false [(.dat (.int .i64))]), (.tmp 1 false [(.dat (.int .i64))]), (.tmp 2 false [(.dat (.int .i64))])], [(.tmp 0 false [(.dat .bool)])], dialtoneref22_within⟩)]
theorem cons11_ok : ConL Try.prog cons11 := ⟨con_true (by kernel_rfl) lives_o, con34, con10, con12, con33, trivial⟩
theorem con11 : ConOk Try.prog 11 ⟨[(.tmp 0 true [(.dat (.int .i64)), (.dat (.int .i64)), (.dat (.int .i64)), (.dat (.int .i64))])], [(.tmp 0 false [(.dat .bool)])], dialtoneref22_Valid⟩ :=
  tree_ok (plan := planOf plan11) (eg := egNo) KK tabL_ok (conOf_ok cons11_ok) Try.func11 (by kernel_rfl) (by kernel_rfl) 10000 (fun a r h => Eq.trans (show _ = dialtoneref22_Valid a from by kernel_rfl) h)
def plan39 : List (Nat × PL) := [(262657, (.carry [])), (134480385, (.carry [])), (18049651601311750, (.carry [.tmp 3 false [(.dat (.int .i64))]])), (4731607869374267392513, (.carry [.tmp 5 false [(.dat (.int .i64))], .drop 4])), (635065658014334951087445901825, (.carry [])), (85237069749509028565948118265862817798, (.carry [.tmp 5 false [(.dat (.int .i64))]]))]
noncomputable def dialtoneref22_contacts : ((List UInt8) × ((List UInt8) × (Int × (Bool × ((List ((List UInt8) × (Int × Int))) × (Int × ((List UInt8) × (Int × (List (List UInt8)))))))))) → Option Bool := fun (a1, (a2, (a3, (a4, (a5, (a6, (a7, (a8, a9)))))))) =>
 joinO (bif (decide ((((List.length a5) : Nat) : Int) > (20 : Int))) then
 outO (some Bool.false)
 else
 bif a4 then
 bif (decide ((((List.length a5) : Nat) : Int) ≠ (0 : Int))) then
 outO (some Bool.false)
 else
 bif (decide (a6 ≠ (0 : Int))) then
 outO (some Bool.false)
 else
 some (Sum.inl ())
 else
 some (Sum.inl ())) fun _ =>
 joinO (loopO (fun v10 =>
 bif (decide (v10 < (((List.length a5) : Nat) : Int))) then
 joinO (bif (decide (((0 : Int) ≤ v10) ∧ (v10 < (((List.length a5) : Nat) : Int)))) then 
 bindO a5[(Int.toNat v10)]? fun x11 =>
 joinO (bindO (dialtoneref22_within ((((List.length x11.1) : Nat) : Int), ((1 : Int), (1000 : Int)))) fun x12 =>
 bif (!x12) then
 outO (outO (outO (outO (some Bool.false))))
 else
 bindO (dialtoneref22_within (x11.2.1, ((0 : Int), (1000 : Int)))) fun x13 =>
 bif (!x13) then
 outO (outO (outO (outO (some Bool.false))))
 else
 bindO (dialtoneref22_within (x11.2.2, ((-1 : Int), (2147483647 : Int)))) fun x14 =>
 bif (!x14) then
 outO (outO (outO (outO (some Bool.false))))
 else
 some (Sum.inl ())) fun _ =>
 loopO (fun v15 =>
 bif (decide (v15 < v10)) then
 bif (decide (((0 : Int) ≤ v15) ∧ (v15 < (((List.length a5) : Nat) : Int)))) then 
 bindO a5[(Int.toNat v15)]? fun x16 =>
 bif (decide (x16.1 = x11.1)) then
 outO (outO (outO (outO (some Bool.false))))
 else
 some (Sum.inl (Go.IntKind.wrap .i64 (v15 + (1 : Int))))
 else none
 else
 outO (some (Sum.inl v15))) (0 : Int)
 else none) fun v18 =>
 some (Sum.inl (Go.IntKind.wrap .i64 (v10 + (1 : Int))))
 else
 outO (some (Sum.inl ()))) (0 : Int)) fun _ =>
 some Bool.true
noncomputable def cons39 : List (Nat × CE) := [(9, ⟨[], riB, (fun _ => some true)⟩), (34, ⟨[(.tmp 0 false [(.dat (.int .i64))]), (.tmp 1 false [(.dat (.int .i64))]), (.tmp 2 false [(.dat (.int .i64))])], [(.tmp 0 false [(.dat .bool)])], registrar_within⟩), (10, ⟨[(.tmp 0 true [(.dat (.int .i64)), (.dat (.int .i64)), (.dat (.int .i64)), (.dat (.int .i64))])], [(.tmp 0 false [(.dat .bool)])], registrar_Valid⟩), (12, ⟨[(.tmp 0 true [(.dat .str), (.dat .str), (.dat (.int .i64)), (.dat .bool), (.dat (.list (.pair .str (.pair (.int .i64) (.int .i64))))), (.dat (.int .i64)), (.dat .str), (.dat (.int .i64)), (.dat (.list .str))])], [(.tmp 0 false [(.dat .bool)])], registrar_Formed⟩), (33, ⟨[(.tmp 0 false [(.dat (.int .i64))]), (.tmp 1 false [(.dat (.int .i64))]), (.tmp 2 false [(.dat (.int .i64))])], [(.tmp 0 false [(.dat .bool)])], dialtoneref22_within⟩), (11, ⟨[(.tmp 0 true [(.dat (.int .i64)), (.dat (.int .i64)), (.dat (.int .i64)), (.dat (.int .i64))])], [(.tmp 0 false [(.dat .bool)])], dialtoneref22_Valid⟩)]
theorem cons39_ok : ConL Try.prog cons39 := ⟨con_true (by kernel_rfl) lives_o, con34, con10, con12, con33, con11, trivial⟩
theorem con39 : ConOk Try.prog 39 ⟨[(.tmp 0 true [(.dat .str), (.dat .str), (.dat (.int .i64)), (.dat .bool), (.dat (.list (.pair .str (.pair (.int .i64) (.int .i64))))), (.dat (.int .i64)), (.dat .str), (.dat (.int .i64)), (.dat (.list .str))])], [(.tmp 0 false [(.dat .bool)])], dialtoneref22_contacts⟩ :=
  tree_ok (plan := planOf plan39) (eg := egNo) KK tabL_ok (conOf_ok cons39_ok) Try.func39 (by kernel_rfl) (by kernel_rfl) 10000 (fun a r h => Eq.trans (show _ = dialtoneref22_contacts a from by kernel_rfl) h)
def plan13 : List (Nat × PL) := [(262657, (.carry [])), (134480385, (.carry [])), (68853957121, (.carry [])), (35253226045953, (.carry [])), (4731607904558101301254, (.carry [.tmp 3 false [(.dat (.int .i64))]]))]
noncomputable def dialtoneref22_Formed : ((List UInt8) × ((List UInt8) × (Int × (Bool × ((List ((List UInt8) × (Int × Int))) × (Int × ((List UInt8) × (Int × (List (List UInt8)))))))))) → Option Bool := fun (a1, (a2, (a3, (a4, (a5, (a6, (a7, (a8, a9)))))))) =>
 joinO (bindO (dialtoneref22_within ((((List.length a1) : Nat) : Int), ((1 : Int), (255 : Int)))) fun x10 =>
 bif (!x10) then
 outO (some Bool.false)
 else
 bindO (dialtoneref22_within ((((List.length a2) : Nat) : Int), ((1 : Int), (255 : Int)))) fun x11 =>
 bif (!x11) then
 outO (some Bool.false)
 else
 bindO (dialtoneref22_within (a3, ((0 : Int), (2147483647 : Int)))) fun x12 =>
 bif (!x12) then
 outO (some Bool.false)
 else
 bindO (dialtoneref22_within (a6, ((-1 : Int), (2147483647 : Int)))) fun x13 =>
 bif (!x13) then
 outO (some Bool.false)
 else
 some (Sum.inl ())) fun _ =>
 joinO (bindO (dialtoneref22_contacts (a1, (a2, (a3, (a4, (a5, (a6, (a7, (a8, a9))))))))) fun x14 =>
 bif (!x14) then
 outO (some Bool.false)
 else
 bif (decide ((((List.length a7) : Nat) : Int) > (255 : Int))) then
 outO (some Bool.false)
 else
 bindO (dialtoneref22_within (a8, ((0 : Int), (2147483647 : Int)))) fun x15 =>
 bif (!x15) then
 outO (some Bool.false)
 else
 some (Sum.inl ())) fun _ =>
 joinO (bif (decide (a8 ≠ (0 : Int))) then
 bif (decide ((((List.length a7) : Nat) : Int) = (0 : Int))) then
 outO (some Bool.false)
 else
 bif (decide ((((List.length a5) : Nat) : Int) > (1 : Int))) then
 outO (some Bool.false)
 else
 bif (decide ((((List.length a9) : Nat) : Int) > (10 : Int))) then
 outO (some Bool.false)
 else
 some (Sum.inl ())
 else
 bif (decide ((((List.length a9) : Nat) : Int) > (10 : Int))) then
 outO (some Bool.false)
 else
 some (Sum.inl ())) fun _ =>
 joinO (loopO (fun v16 =>
 bif (decide (v16 < (((List.length a9) : Nat) : Int))) then
 bif (decide (((0 : Int) ≤ v16) ∧ (v16 < (((List.length a9) : Nat) : Int)))) then 
 bindO a9[(Int.toNat v16)]? fun x17 =>
 bindO (dialtoneref22_within ((((List.length x17) : Nat) : Int), ((1 : Int), (1000 : Int)))) fun x18 =>
 bif (!x18) then
 outO (outO (some Bool.false))
 else
 some (Sum.inl (Go.IntKind.wrap .i64 (v16 + (1 : Int))))
 else none
 else
 outO (some (Sum.inl ()))) (0 : Int)) fun _ =>
 some Bool.true
noncomputable def cons13 : List (Nat × CE) := [(9, ⟨[], riB, (fun _ => some true)⟩), (34, ⟨[(.tmp 0 false [(.dat (.int .i64))]), (.tmp 1 false [(.dat (.int .i64))]), (.tmp 2 false [(.dat (.int .i64))])], [(.tmp 0 false [(.dat .bool)])], registrar_within⟩), (10, ⟨[(.tmp 0 true [(.dat (.int .i64)), (.dat (.int .i64)), (.dat (.int .i64)), (.dat (.int .i64))])], [(.tmp 0 false [(.dat .bool)])], registrar_Valid⟩), (12, ⟨[(.tmp 0 true [(.dat .str), (.dat .str), (.dat (.int .i64)), (.dat .bool), (.dat (.list (.pair .str (.pair (.int .i64) (.int .i64))))), (.dat (.int .i64)), (.dat .str), (.dat (.int .i64)), (.dat (.list .str))])], [(.tmp 0 false [(.dat .bool)])], registrar_Formed⟩), (33, ⟨[(.tmp 0 false [(.dat (.int .i64))]), (.tmp 1 false [(.dat (.int .i64))]), (.tmp 2 false [(.dat (.int .i64))])], [(.tmp 0 false [(.dat .bool)])], dialtoneref22_within⟩), (11, ⟨[(.tmp 0 true [(.dat (.int .i64)), (.dat (.int .i64)), (.dat (.int .i64)), (.dat (.int .i64))])], [(.tmp 0 false [(.dat .bool)])], dialtoneref22_Valid⟩), (39, ⟨[(.tmp 0 true [(.dat .str), (.dat .str), (.dat (.int .i64)), (.dat .bool), (.dat (.list (.pair .str (.pair (.int .i64) (.int .i64))))), (.dat (.int .i64)), (.dat .str), (.dat (.int .i64)), (.dat (.list .str))])], [(.tmp 0 false [(.dat .bool)])], dialtoneref22_contacts⟩)]
theorem cons13_ok : ConL Try.prog cons13 := ⟨con_true (by kernel_rfl) lives_o, con34, con10, con12, con33, con11, con39, trivial⟩
theorem con13 : ConOk Try.prog 13 ⟨[(.tmp 0 true [(.dat .str), (.dat .str), (.dat (.int .i64)), (.dat .bool), (.dat (.list (.pair .str (.pair (.int .i64) (.int .i64))))), (.dat (.int .i64)), (.dat .str), (.dat (.int .i64)), (.dat (.list .str))])], [(.tmp 0 false [(.dat .bool)])], dialtoneref22_Formed⟩ :=
  tree_ok (plan := planOf plan13) (eg := egNo) KK tabL_ok (conOf_ok cons13_ok) Try.func13 (by kernel_rfl) (by kernel_rfl) 10000 (fun a r h => Eq.trans (show _ = dialtoneref22_Formed a from by kernel_rfl) h)
def plan8 : List (Nat × PL) := [(262657, (.carry [])), (134480385, (.carry [])), (18049651601311750, (.carry [.tmp 3 false [(.dat (.int .i64))]])), (68853957121, (.carry [])), (9241421688456087558, (.carry [.tmp 4 false [(.dat (.int .i64))]]))]
noncomputable def dialtonelaw22_few : ((List UInt8) × ((List UInt8) × (Int × (Bool × ((List ((List UInt8) × (Int × Int))) × (Int × ((List UInt8) × (Int × (List (List UInt8)))))))))) → Option Bool := fun (a1, (a2, (a3, (a4, (a5, (a6, (a7, (a8, a9)))))))) =>
 joinO (bif (decide ((((List.length a5) : Nat) : Int) > (30 : Int))) then
 outO (some Bool.false)
 else
 bif (decide ((((List.length a9) : Nat) : Int) > (30 : Int))) then
 outO (some Bool.false)
 else
 bif (decide ((((List.length a1) : Nat) : Int) > (2000 : Int))) then
 outO (some Bool.false)
 else
 bif (decide ((((List.length a2) : Nat) : Int) > (2000 : Int))) then
 outO (some Bool.false)
 else
 bif (decide ((((List.length a7) : Nat) : Int) > (2000 : Int))) then
 outO (some Bool.false)
 else
 some (Sum.inl ())) fun _ =>
 joinO (loopO (fun v10 =>
 bif (decide (v10 < (((List.length a5) : Nat) : Int))) then
 bif (decide (((0 : Int) ≤ v10) ∧ (v10 < (((List.length a5) : Nat) : Int)))) then 
 bindO a5[(Int.toNat v10)]? fun x11 =>
 bif (decide ((((List.length x11.1) : Nat) : Int) > (2000 : Int))) then
 outO (outO (some Bool.false))
 else
 some (Sum.inl (Go.IntKind.wrap .i64 (v10 + (1 : Int))))
 else none
 else
 outO (some (Sum.inl ()))) (0 : Int)) fun _ =>
 joinO (loopO (fun v13 =>
 bif (decide (v13 < (((List.length a9) : Nat) : Int))) then
 bif (decide (((0 : Int) ≤ v13) ∧ (v13 < (((List.length a9) : Nat) : Int)))) then 
 bindO a9[(Int.toNat v13)]? fun x14 =>
 bif (decide ((((List.length x14) : Nat) : Int) > (2000 : Int))) then
 outO (outO (some Bool.false))
 else
 some (Sum.inl (Go.IntKind.wrap .i64 (v13 + (1 : Int))))
 else none
 else
 outO (some (Sum.inl ()))) (0 : Int)) fun _ =>
 some Bool.true
noncomputable def cons8 : List (Nat × CE) := [(9, ⟨[], riB, (fun _ => some true)⟩), (34, ⟨[(.tmp 0 false [(.dat (.int .i64))]), (.tmp 1 false [(.dat (.int .i64))]), (.tmp 2 false [(.dat (.int .i64))])], [(.tmp 0 false [(.dat .bool)])], registrar_within⟩), (10, ⟨[(.tmp 0 true [(.dat (.int .i64)), (.dat (.int .i64)), (.dat (.int .i64)), (.dat (.int .i64))])], [(.tmp 0 false [(.dat .bool)])], registrar_Valid⟩), (12, ⟨[(.tmp 0 true [(.dat .str), (.dat .str), (.dat (.int .i64)), (.dat .bool), (.dat (.list (.pair .str (.pair (.int .i64) (.int .i64))))), (.dat (.int .i64)), (.dat .str), (.dat (.int .i64)), (.dat (.list .str))])], [(.tmp 0 false [(.dat .bool)])], registrar_Formed⟩), (33, ⟨[(.tmp 0 false [(.dat (.int .i64))]), (.tmp 1 false [(.dat (.int .i64))]), (.tmp 2 false [(.dat (.int .i64))])], [(.tmp 0 false [(.dat .bool)])], dialtoneref22_within⟩), (11, ⟨[(.tmp 0 true [(.dat (.int .i64)), (.dat (.int .i64)), (.dat (.int .i64)), (.dat (.int .i64))])], [(.tmp 0 false [(.dat .bool)])], dialtoneref22_Valid⟩), (39, ⟨[(.tmp 0 true [(.dat .str), (.dat .str), (.dat (.int .i64)), (.dat .bool), (.dat (.list (.pair .str (.pair (.int .i64) (.int .i64))))), (.dat (.int .i64)), (.dat .str), (.dat (.int .i64)), (.dat (.list .str))])], [(.tmp 0 false [(.dat .bool)])], dialtoneref22_contacts⟩), (13, ⟨[(.tmp 0 true [(.dat .str), (.dat .str), (.dat (.int .i64)), (.dat .bool), (.dat (.list (.pair .str (.pair (.int .i64) (.int .i64))))), (.dat (.int .i64)), (.dat .str), (.dat (.int .i64)), (.dat (.list .str))])], [(.tmp 0 false [(.dat .bool)])], dialtoneref22_Formed⟩)]
theorem cons8_ok : ConL Try.prog cons8 := ⟨con_true (by kernel_rfl) lives_o, con34, con10, con12, con33, con11, con39, con13, trivial⟩
theorem con8 : ConOk Try.prog 8 ⟨[(.tmp 0 true [(.dat .str), (.dat .str), (.dat (.int .i64)), (.dat .bool), (.dat (.list (.pair .str (.pair (.int .i64) (.int .i64))))), (.dat (.int .i64)), (.dat .str), (.dat (.int .i64)), (.dat (.list .str))])], [(.tmp 0 false [(.dat .bool)])], dialtonelaw22_few⟩ :=
  tree_ok (plan := planOf plan8) (eg := egNo) KK tabL_ok (conOf_ok cons8_ok) Try.func8 (by kernel_rfl) (by kernel_rfl) 10000 (fun a r h => Eq.trans (show _ = dialtonelaw22_few a from by kernel_rfl) h)
def plan3 : List (Nat × PL) := []
noncomputable def dialtonelaw22_RegistrarForms : ((Int × (Int × (Int × Int))) × ((List UInt8) × ((List UInt8) × (Int × (Bool × ((List ((List UInt8) × (Int × Int))) × (Int × ((List UInt8) × (Int × (List (List UInt8))))))))))) → Option Bool := fun ((a1, (a2, (a3, a4))), (a5, (a6, (a7, (a8, (a9, (a10, (a11, (a12, a13))))))))) =>
 bindO (dialtonelaw22_few (a5, (a6, (a7, (a8, (a9, (a10, (a11, (a12, a13))))))))) fun x14 =>
 bif (!x14) then
 some Bool.true
 else
 bindO (registrar_Valid (a1, (a2, (a3, a4)))) fun x16 =>
 bindO (dialtoneref22_Valid (a1, (a2, (a3, a4)))) fun x17 =>
 bif (x16 == x17) then
 bindO (registrar_Formed (a5, (a6, (a7, (a8, (a9, (a10, (a11, (a12, a13))))))))) fun x18 =>
 bindO (dialtoneref22_Formed (a5, (a6, (a7, (a8, (a9, (a10, (a11, (a12, a13))))))))) fun x19 =>
 bif (x18 == x19) then
 some Bool.true
 else
 some Bool.false
 else
 some Bool.false
noncomputable def cons3 : List (Nat × CE) := [(9, ⟨[], riB, (fun _ => some true)⟩), (34, ⟨[(.tmp 0 false [(.dat (.int .i64))]), (.tmp 1 false [(.dat (.int .i64))]), (.tmp 2 false [(.dat (.int .i64))])], [(.tmp 0 false [(.dat .bool)])], registrar_within⟩), (10, ⟨[(.tmp 0 true [(.dat (.int .i64)), (.dat (.int .i64)), (.dat (.int .i64)), (.dat (.int .i64))])], [(.tmp 0 false [(.dat .bool)])], registrar_Valid⟩), (12, ⟨[(.tmp 0 true [(.dat .str), (.dat .str), (.dat (.int .i64)), (.dat .bool), (.dat (.list (.pair .str (.pair (.int .i64) (.int .i64))))), (.dat (.int .i64)), (.dat .str), (.dat (.int .i64)), (.dat (.list .str))])], [(.tmp 0 false [(.dat .bool)])], registrar_Formed⟩), (33, ⟨[(.tmp 0 false [(.dat (.int .i64))]), (.tmp 1 false [(.dat (.int .i64))]), (.tmp 2 false [(.dat (.int .i64))])], [(.tmp 0 false [(.dat .bool)])], dialtoneref22_within⟩), (11, ⟨[(.tmp 0 true [(.dat (.int .i64)), (.dat (.int .i64)), (.dat (.int .i64)), (.dat (.int .i64))])], [(.tmp 0 false [(.dat .bool)])], dialtoneref22_Valid⟩), (39, ⟨[(.tmp 0 true [(.dat .str), (.dat .str), (.dat (.int .i64)), (.dat .bool), (.dat (.list (.pair .str (.pair (.int .i64) (.int .i64))))), (.dat (.int .i64)), (.dat .str), (.dat (.int .i64)), (.dat (.list .str))])], [(.tmp 0 false [(.dat .bool)])], dialtoneref22_contacts⟩), (13, ⟨[(.tmp 0 true [(.dat .str), (.dat .str), (.dat (.int .i64)), (.dat .bool), (.dat (.list (.pair .str (.pair (.int .i64) (.int .i64))))), (.dat (.int .i64)), (.dat .str), (.dat (.int .i64)), (.dat (.list .str))])], [(.tmp 0 false [(.dat .bool)])], dialtoneref22_Formed⟩), (8, ⟨[(.tmp 0 true [(.dat .str), (.dat .str), (.dat (.int .i64)), (.dat .bool), (.dat (.list (.pair .str (.pair (.int .i64) (.int .i64))))), (.dat (.int .i64)), (.dat .str), (.dat (.int .i64)), (.dat (.list .str))])], [(.tmp 0 false [(.dat .bool)])], dialtonelaw22_few⟩)]
theorem cons3_ok : ConL Try.prog cons3 := ⟨con_true (by kernel_rfl) lives_o, con34, con10, con12, con33, con11, con39, con13, con8, trivial⟩
theorem con3 : ConOk Try.prog 3 ⟨[(.tmp 0 true [(.dat (.int .i64)), (.dat (.int .i64)), (.dat (.int .i64)), (.dat (.int .i64))]), (.tmp 1 true [(.dat .str), (.dat .str), (.dat (.int .i64)), (.dat .bool), (.dat (.list (.pair .str (.pair (.int .i64) (.int .i64))))), (.dat (.int .i64)), (.dat .str), (.dat (.int .i64)), (.dat (.list .str))])], [(.tmp 0 false [(.dat .bool)])], dialtonelaw22_RegistrarForms⟩ :=
  tree_ok (plan := planOf plan3) (eg := egNo) KK tabL_ok (conOf_ok cons3_ok) Try.func3 (by kernel_rfl) (by kernel_rfl) 10000 (fun a r h => Eq.trans (show _ = dialtonelaw22_RegistrarForms a from by kernel_rfl) h)
end Go.Proofs.Ytlaccfegaoaakaa
