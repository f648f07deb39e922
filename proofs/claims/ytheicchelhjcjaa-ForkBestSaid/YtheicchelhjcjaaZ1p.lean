import Derived.Test.YtheicchelhjcjaaFp
import Derived.Test.YtheicchelhjcjaaXBp
set_option linter.unusedVariables false
set_option maxRecDepth 1000000
set_option maxHeartbeats 0
namespace Go.Proofs.Ytheicchelhjcjaa
open Go.RowKit
def plan63 : List (Nat × PL) := []
noncomputable def fork_live : Int → Option Bool := fun a1 =>
 bif (decide (a1 = (1 : Int))) then
 some Bool.true
 else
 some (decide (a1 = (2 : Int)))
noncomputable def cons63 : List (Nat × CE) := []
theorem cons63_ok : ConL Try.prog cons63 := trivial
theorem con63 : ConOk Try.prog 63 ⟨[(.tmp 0 false [(.dat (.int .u8))])], [(.tmp 0 false [(.dat .bool)])], fork_live⟩ :=
  tree_ok (plan := planOf plan63) (eg := egNo) KK tabL_ok (conOf_ok cons63_ok) Try.func63 (by kernel_rfl) (by kernel_rfl) 10000 (fun a r h => Eq.trans (show _ = fork_live a from by kernel_rfl) h)
def plan50 : List (Nat × PL) := []
noncomputable def fork_open : Int → Option Bool := fun a1 =>
 bindO (fork_live a1) fun x2 =>
 bif x2 then
 some Bool.true
 else
 bif (decide (a1 = (3 : Int))) then
 some Bool.true
 else
 some (decide (a1 = (4 : Int)))
noncomputable def cons50 : List (Nat × CE) := (63, ⟨[(.tmp 0 false [(.dat (.int .u8))])], [(.tmp 0 false [(.dat .bool)])], fork_live⟩) :: cons63
theorem cons50_ok : ConL Try.prog cons50 := ⟨con63, cons63_ok⟩
theorem con50 : ConOk Try.prog 50 ⟨[(.tmp 0 false [(.dat (.int .u8))])], [(.tmp 0 false [(.dat .bool)])], fork_open⟩ :=
  tree_ok (plan := planOf plan50) (eg := egNo) KK tabL_ok (conOf_ok cons50_ok) Try.func50 (by kernel_rfl) (by kernel_rfl) 10000 (fun a r h => Eq.trans (show _ = fork_open a from by kernel_rfl) h)
def plan32 : List (Nat × PL) := [(134480385, (.carry [])), (18049651601311750, (.carry [.tmp 4 false [(.dat (.int .i64))]]))]
noncomputable def fork_validOrder : (List ((List UInt8) × (Int × (Int × Int)))) → Option Bool := fun a1 =>
 joinO (loopO (fun v2 =>
 bif (decide (v2 < (((List.length a1) : Nat) : Int))) then
 bindO (some (Go.IntKind.wrap .i64 (v2 - (1 : Int)))) fun x3 =>
 bif (decide (((0 : Int) ≤ x3) ∧ (x3 < (((List.length a1) : Nat) : Int)))) then 
 bindO a1[(Int.toNat x3)]? fun x4 =>
 bif (decide (x4.2.2.1 = (0 : Int))) then
 bif (decide (((0 : Int) ≤ v2) ∧ (v2 < (((List.length a1) : Nat) : Int)))) then 
 bindO a1[(Int.toNat v2)]? fun x5 =>
 bif (decide (x5.2.2.1 = (0 : Int))) then
 some (Sum.inl (Go.IntKind.wrap .i64 (v2 + (1 : Int))))
 else
 bif (!(decide (x5.2.2.1 = (6 : Int)))) then
 outO (outO (some Bool.false))
 else
 some (Sum.inl (Go.IntKind.wrap .i64 (v2 + (1 : Int))))
 else none
 else
 bif (decide (((0 : Int) ≤ v2) ∧ (v2 < (((List.length a1) : Nat) : Int)))) then 
 bindO a1[(Int.toNat v2)]? fun x8 =>
 bif (decide (x8.2.2.1 = (0 : Int))) then
 bif (decide (x4.2.2.1 = (6 : Int))) then
 bif (!(decide (x4.2.2.1 = (6 : Int)))) then
 bif (decide (((0 : Int) ≤ v2) ∧ (v2 < (((List.length a1) : Nat) : Int)))) then 
 bindO a1[(Int.toNat v2)]? fun x9 =>
 bindO (some (Go.IntKind.wrap .i64 (v2 - (1 : Int)))) fun x10 =>
 bif (decide (((0 : Int) ≤ x10) ∧ (x10 < (((List.length a1) : Nat) : Int)))) then 
 bindO a1[(Int.toNat x10)]? fun x11 =>
 bif (decide (x9.2.1 ≥ x11.2.1)) then
 outO (outO (some Bool.false))
 else
 some (Sum.inl (Go.IntKind.wrap .i64 (v2 + (1 : Int))))
 else none
 else none
 else
 some (Sum.inl (Go.IntKind.wrap .i64 (v2 + (1 : Int))))
 else
 bif (!(decide (x4.2.2.1 = (6 : Int)))) then
 bif (decide (((0 : Int) ≤ v2) ∧ (v2 < (((List.length a1) : Nat) : Int)))) then 
 bindO a1[(Int.toNat v2)]? fun x14 =>
 bindO (some (Go.IntKind.wrap .i64 (v2 - (1 : Int)))) fun x15 =>
 bif (decide (((0 : Int) ≤ x15) ∧ (x15 < (((List.length a1) : Nat) : Int)))) then 
 bindO a1[(Int.toNat x15)]? fun x16 =>
 bif (decide (x14.2.1 ≥ x16.2.1)) then
 outO (outO (some Bool.false))
 else
 some (Sum.inl (Go.IntKind.wrap .i64 (v2 + (1 : Int))))
 else none
 else none
 else
 some (Sum.inl (Go.IntKind.wrap .i64 (v2 + (1 : Int))))
 else
 bif (decide (x4.2.2.1 = (6 : Int))) then
 bif (!(decide (x8.2.2.1 = (6 : Int)))) then
 outO (outO (some Bool.false))
 else
 bif (!(decide (x4.2.2.1 = (6 : Int)))) then
 bif (decide (x8.2.2.1 = (6 : Int))) then
 bif (decide (((0 : Int) ≤ v2) ∧ (v2 < (((List.length a1) : Nat) : Int)))) then 
 bindO a1[(Int.toNat v2)]? fun x19 =>
 bindO (some (Go.IntKind.wrap .i64 (v2 - (1 : Int)))) fun x20 =>
 bif (decide (((0 : Int) ≤ x20) ∧ (x20 < (((List.length a1) : Nat) : Int)))) then 
 bindO a1[(Int.toNat x20)]? fun x21 =>
 bif (decide (x19.2.1 ≥ x21.2.1)) then
 outO (outO (some Bool.false))
 else
 some (Sum.inl (Go.IntKind.wrap .i64 (v2 + (1 : Int))))
 else none
 else none
 else
 some (Sum.inl (Go.IntKind.wrap .i64 (v2 + (1 : Int))))
 else
 some (Sum.inl (Go.IntKind.wrap .i64 (v2 + (1 : Int))))
 else
 bif (!(decide (x4.2.2.1 = (6 : Int)))) then
 bif (decide (x8.2.2.1 = (6 : Int))) then
 bif (decide (((0 : Int) ≤ v2) ∧ (v2 < (((List.length a1) : Nat) : Int)))) then 
 bindO a1[(Int.toNat v2)]? fun x25 =>
 bindO (some (Go.IntKind.wrap .i64 (v2 - (1 : Int)))) fun x26 =>
 bif (decide (((0 : Int) ≤ x26) ∧ (x26 < (((List.length a1) : Nat) : Int)))) then 
 bindO a1[(Int.toNat x26)]? fun x27 =>
 bif (decide (x25.2.1 ≥ x27.2.1)) then
 outO (outO (some Bool.false))
 else
 some (Sum.inl (Go.IntKind.wrap .i64 (v2 + (1 : Int))))
 else none
 else none
 else
 some (Sum.inl (Go.IntKind.wrap .i64 (v2 + (1 : Int))))
 else
 some (Sum.inl (Go.IntKind.wrap .i64 (v2 + (1 : Int))))
 else none
 else none
 else
 outO (some (Sum.inl ()))) (1 : Int)) fun _ =>
 some Bool.true
noncomputable def cons32 : List (Nat × CE) := (50, ⟨[(.tmp 0 false [(.dat (.int .u8))])], [(.tmp 0 false [(.dat .bool)])], fork_open⟩) :: cons50
theorem cons32_ok : ConL Try.prog cons32 := ⟨con50, cons50_ok⟩
theorem con32 : ConOk Try.prog 32 ⟨[(.tmp 0 false [(.dat (.list (.pair .str (.pair (.int .i64) (.pair (.int .u8) (.int .i64))))))])], [(.tmp 0 false [(.dat .bool)])], fork_validOrder⟩ :=
  tree_ok (plan := planOf plan32) (eg := egNo) KK tabL_ok (conOf_ok cons32_ok) Try.func32 (by kernel_rfl) (by kernel_rfl) 10000 (fun a r h => Eq.trans (show _ = fork_validOrder a from by kernel_rfl) h)
def plan34 : List (Nat × PL) := []
noncomputable def fork_validWinner : (((List ((List UInt8) × (Int × (Int × Int)))) × (Int × (Bool × (Bool × Bool)))) × (Int × (Int × (Int × (Int × (Bool × Bool)))))) → Option Bool := fun ((a1, (a2, (a3, (a4, a5)))), (a6, (a7, (a8, (a9, (a10, a11)))))) =>
 bif (decide (a2 = (-1 : Int))) then
 bif a3 then
 some Bool.true
 else
 some (!a10)
 else
 bif (decide (a2 < (0 : Int))) then
 some Bool.false
 else
 bif (decide (a2 ≥ (((List.length a1) : Nat) : Int))) then
 some Bool.false
 else
 bif (decide (((0 : Int) ≤ a2) ∧ (a2 < (((List.length a1) : Nat) : Int)))) then 
 bindO a1[(Int.toNat a2)]? fun x12 =>
 bif (decide (x12.2.2.1 = (5 : Int))) then
 bif (decide (x12.2.2.2 < (300 : Int))) then
 bif a5 then
 bif a4 then
 some (!a3)
 else
 some Bool.false
 else
 some Bool.false
 else
 some Bool.false
 else
 some Bool.false
 else none
noncomputable def cons34 : List (Nat × CE) := (32, ⟨[(.tmp 0 false [(.dat (.list (.pair .str (.pair (.int .i64) (.pair (.int .u8) (.int .i64))))))])], [(.tmp 0 false [(.dat .bool)])], fork_validOrder⟩) :: cons32
theorem cons34_ok : ConL Try.prog cons34 := ⟨con32, cons32_ok⟩
theorem con34 : ConOk Try.prog 34 ⟨[(.tmp 0 true [(.dat (.list (.pair .str (.pair (.int .i64) (.pair (.int .u8) (.int .i64)))))), (.dat (.int .i64)), (.dat .bool), (.dat .bool), (.dat .bool)]), (.tmp 1 true [(.dat (.int .i64)), (.dat (.int .i64)), (.dat (.int .i64)), (.dat (.int .i64)), (.dat .bool), (.dat .bool)])], [(.tmp 0 false [(.dat .bool)])], fork_validWinner⟩ :=
  tree_ok (plan := planOf plan34) (eg := egNo) KK tabL_ok (conOf_ok cons34_ok) Try.func34 (by kernel_rfl) (by kernel_rfl) 10000 (fun a r h => Eq.trans (show _ = fork_validWinner a from by kernel_rfl) h)
def plan33 : List (Nat × PL) := [(134480385, (.carry [.mix 1 [(.dat (.int .i64)), (.dat (.int .i64)), (.dat (.int .i64)), (.dat (.int .i64)), (.dat .bool), (.dat .bool)]])), (18049651601311750, (.carry [.tmp 8 false [(.dat (.int .i64))], .mix 1 [(.dat (.int .i64)), (.dat (.int .i64)), (.dat (.int .i64)), (.dat (.int .i64)), (.dat .bool), (.dat .bool)]])), (85237069749509028565965992133042374657, (.carry [.tmp 14 false [(.dat .bool)]])), (22344386412415294784396589041724260262086145, (.carry [.tmp 21 false [(.dat .bool)]]))]
noncomputable def fork_count : (List ((List UInt8) × (Int × (Int × Int)))) → Option (Int × (Int × (Int × (Int × (Bool × Bool))))) := fun a1 =>
 joinO (loopO (fun (v2, (v3, (v4, (v5, (v6, (v7, v8)))))) =>
 bif (decide (v2 < (((List.length a1) : Nat) : Int))) then
 bif (decide (((0 : Int) ≤ v2) ∧ (v2 < (((List.length a1) : Nat) : Int)))) then 
 bindO a1[(Int.toNat v2)]? fun x9 =>
 joinO (bif (decide (x9.2.2.1 = (1 : Int))) then
 some (Sum.inl Bool.true)
 else
 some (Sum.inl (decide (x9.2.2.1 = (2 : Int))))) fun v10 =>
 bif v10 then
 some (Sum.inl ((Go.IntKind.wrap .i64 (v2 + (1 : Int))), ((Go.IntKind.wrap .i64 (v3 + (1 : Int))), (v4, (v5, (v6, (v7, v8)))))))
 else
 joinO (bif (decide (x9.2.2.1 = (3 : Int))) then
 some (Sum.inl Bool.true)
 else
 some (Sum.inl (decide (x9.2.2.1 = (4 : Int))))) fun v13 =>
 bif v13 then
 some (Sum.inl ((Go.IntKind.wrap .i64 (v2 + (1 : Int))), (v3, ((Go.IntKind.wrap .i64 (v4 + (1 : Int))), (v5, (v6, (v7, v8)))))))
 else
 bif (decide (x9.2.2.1 = (0 : Int))) then
 some (Sum.inl ((Go.IntKind.wrap .i64 (v2 + (1 : Int))), (v3, (v4, ((Go.IntKind.wrap .i64 (v5 + (1 : Int))), (v6, (v7, v8)))))))
 else
 bif (decide (x9.2.2.1 = (6 : Int))) then
 some (Sum.inl ((Go.IntKind.wrap .i64 (v2 + (1 : Int))), (v3, (v4, (v5, ((Go.IntKind.wrap .i64 (v6 + (1 : Int))), (v7, v8)))))))
 else
 bif (decide (x9.2.2.1 = (5 : Int))) then
 bif v7 then
 bif v8 then
 some (Sum.inl ((Go.IntKind.wrap .i64 (v2 + (1 : Int))), (v3, (v4, (v5, (v6, (Bool.true, Bool.true)))))))
 else
 some (Sum.inl ((Go.IntKind.wrap .i64 (v2 + (1 : Int))), (v3, (v4, (v5, (v6, (Bool.true, (decide (x9.2.2.2 ≥ (600 : Int))))))))))
 else
 bif v8 then
 some (Sum.inl ((Go.IntKind.wrap .i64 (v2 + (1 : Int))), (v3, (v4, (v5, (v6, ((decide (x9.2.2.2 < (300 : Int))), Bool.true)))))))
 else
 some (Sum.inl ((Go.IntKind.wrap .i64 (v2 + (1 : Int))), (v3, (v4, (v5, (v6, ((decide (x9.2.2.2 < (300 : Int))), (decide (x9.2.2.2 ≥ (600 : Int))))))))))
 else
 some (Sum.inl ((Go.IntKind.wrap .i64 (v2 + (1 : Int))), (v3, (v4, (v5, (v6, (v7, v8)))))))
 else none
 else
 outO (some (Sum.inl (v3, (v4, (v5, (v6, (v7, v8)))))))) ((0 : Int), ((0 : Int), ((0 : Int), ((0 : Int), ((0 : Int), (Bool.false, Bool.false))))))) fun (v25, (v26, (v27, (v28, (v29, v30))))) =>
 some (v25, (v26, (v27, (v28, (v29, v30)))))
noncomputable def cons33 : List (Nat × CE) := (34, ⟨[(.tmp 0 true [(.dat (.list (.pair .str (.pair (.int .i64) (.pair (.int .u8) (.int .i64)))))), (.dat (.int .i64)), (.dat .bool), (.dat .bool), (.dat .bool)]), (.tmp 1 true [(.dat (.int .i64)), (.dat (.int .i64)), (.dat (.int .i64)), (.dat (.int .i64)), (.dat .bool), (.dat .bool)])], [(.tmp 0 false [(.dat .bool)])], fork_validWinner⟩) :: cons34
theorem cons33_ok : ConL Try.prog cons33 := ⟨con34, cons34_ok⟩
theorem con33 : ConOk Try.prog 33 ⟨[(.tmp 0 false [(.dat (.list (.pair .str (.pair (.int .i64) (.pair (.int .u8) (.int .i64))))))])], [(.tmp 0 true [(.dat (.int .i64)), (.dat (.int .i64)), (.dat (.int .i64)), (.dat (.int .i64)), (.dat .bool), (.dat .bool)])], fork_count⟩ :=
  tree_ok (plan := planOf plan33) (eg := egNo) KK tabL_ok (conOf_ok cons33_ok) Try.func33 (by kernel_rfl) (by kernel_rfl) 10000 (fun a r h => Eq.trans (show _ = fork_count a from by kernel_rfl) h)
def plan31 : List (Nat × PL) := [(134480385, (.carry [.mp 1])), (18049651601311750, (.carry [.tmp 9 false [(.dat (.int .i64))], .mp 1])), (325153616903339494956840485126657, (.carry [])), (85237069749509028565965992133042373121, (.carry []))]
noncomputable def fork_validBranches : (List ((List UInt8) × (Int × (Int × Int)))) → Option Bool := fun a1 =>
 joinO (loopO (fun (v2, v3) =>
 bif (decide (v2 < (((List.length a1) : Nat) : Int))) then
 bif (decide (((0 : Int) ≤ v2) ∧ (v2 < (((List.length a1) : Nat) : Int)))) then 
 bindO a1[(Int.toNat v2)]? fun x4 =>
 joinO (bif (decide (x4.1 = ([] : List UInt8))) then
 outO (outO (outO (some Bool.false)))
 else
 bif (decide (Membership.mem v3 x4.1)) then
 outO (outO (outO (some Bool.false)))
 else
 bif (decide (x4.2.1 < (0 : Int))) then
 outO (outO (outO (some Bool.false)))
 else
 bif (decide (x4.2.1 > (1000 : Int))) then
 outO (outO (outO (some Bool.false)))
 else
 some (Sum.inl ())) fun _ =>
 joinO (bif (decide (v2 > (0 : Int))) then
 bindO (some (Go.IntKind.wrap .i64 (v2 - (1 : Int)))) fun x5 =>
 bif (decide (((0 : Int) ≤ x5) ∧ (x5 < (((List.length a1) : Nat) : Int)))) then 
 bindO a1[(Int.toNat x5)]? fun x6 =>
 bif (decide (x4.2.1 > x6.2.1)) then
 outO (outO (outO (some Bool.false)))
 else
 bif (decide (x4.2.2.1 > (6 : Int))) then
 outO (outO (outO (some Bool.false)))
 else
 some (Sum.inl ())
 else none
 else
 bif (decide (x4.2.2.1 > (6 : Int))) then
 outO (outO (outO (some Bool.false)))
 else
 some (Sum.inl ())) fun _ =>
 bif (decide (x4.2.2.1 = (5 : Int))) then
 bif (decide (x4.2.2.2 < (200 : Int))) then
 outO (outO (some Bool.false))
 else
 bif (decide (x4.2.2.2 > (699 : Int))) then
 outO (outO (some Bool.false))
 else
 bif (decide (x4.2.2.1 ≠ (5 : Int))) then
 bif (decide (x4.2.2.2 ≠ (0 : Int))) then
 outO (outO (some Bool.false))
 else
 some (Sum.inl ((Go.IntKind.wrap .i64 (v2 + (1 : Int))), (addK v3 x4.1)))
 else
 some (Sum.inl ((Go.IntKind.wrap .i64 (v2 + (1 : Int))), (addK v3 x4.1)))
 else
 bif (decide (x4.2.2.1 ≠ (5 : Int))) then
 bif (decide (x4.2.2.2 ≠ (0 : Int))) then
 outO (outO (some Bool.false))
 else
 some (Sum.inl ((Go.IntKind.wrap .i64 (v2 + (1 : Int))), (addK v3 x4.1)))
 else
 some (Sum.inl ((Go.IntKind.wrap .i64 (v2 + (1 : Int))), (addK v3 x4.1)))
 else none
 else
 outO (some (Sum.inl v3))) ((0 : Int), ([] : List (List UInt8)))) fun v11 =>
 some Bool.true
noncomputable def cons31 : List (Nat × CE) := (33, ⟨[(.tmp 0 false [(.dat (.list (.pair .str (.pair (.int .i64) (.pair (.int .u8) (.int .i64))))))])], [(.tmp 0 true [(.dat (.int .i64)), (.dat (.int .i64)), (.dat (.int .i64)), (.dat (.int .i64)), (.dat .bool), (.dat .bool)])], fork_count⟩) :: cons33
theorem cons31_ok : ConL Try.prog cons31 := ⟨con33, cons33_ok⟩
theorem con31 : ConOk Try.prog 31 ⟨[(.tmp 0 false [(.dat (.list (.pair .str (.pair (.int .i64) (.pair (.int .u8) (.int .i64))))))])], [(.tmp 0 false [(.dat .bool)])], fork_validBranches⟩ :=
  tree_ok (plan := planOf plan31) (eg := egNo) KK tabL_ok (conOf_ok cons31_ok) Try.func31 (by kernel_rfl) (by kernel_rfl) 10000 (fun a r h => Eq.trans (show _ = fork_validBranches a from by kernel_rfl) h)
def plan15 : List (Nat × PL) := [(262657, (.carry [])), (68853957121, (.carry [])), (18049651735527937, (.carry []))]
noncomputable def fork_Valid : ((List ((List UInt8) × (Int × (Int × Int)))) × (Int × (Bool × (Bool × Bool)))) → Option Bool := fun (a1, (a2, (a3, (a4, a5)))) =>
 joinO (bif (decide ((((List.length a1) : Nat) : Int) > (16 : Int))) then
 outO (some Bool.false)
 else
 bindO (fork_validBranches a1) fun x6 =>
 bif (!x6) then
 outO (some Bool.false)
 else
 bindO (fork_validOrder a1) fun x7 =>
 bif (!x7) then
 outO (some Bool.false)
 else
 some (Sum.inl ())) fun _ =>
 bindO (fork_count a1) fun (x9, (x10, (x11, (x12, (x13, x14))))) =>
 joinO (bif (decide (x11 > (0 : Int))) then
 bif (decide (x12 > (0 : Int))) then
 outO (some Bool.false)
 else
 bif a5 then
 outO (some Bool.false)
 else
 bif (decide (x12 > (0 : Int))) then
 bif (!a5) then
 outO (some Bool.false)
 else
 some (Sum.inl ())
 else
 some (Sum.inl ())
 else
 bif (decide (x12 > (0 : Int))) then
 bif (!a5) then
 outO (some Bool.false)
 else
 some (Sum.inl ())
 else
 some (Sum.inl ())) fun _ =>
 bindO (fork_validWinner ((a1, (a2, (a3, (a4, a5)))), (x9, (x10, (x11, (x12, (x13, x14))))))) fun x15 =>
 bif (!x15) then
 some Bool.false
 else
 joinO (bif (!a4) then
 bif a3 then
 outO (some Bool.false)
 else
 bif x14 then
 outO (some Bool.false)
 else
 bif (decide (x10 > (0 : Int))) then
 outO (some Bool.false)
 else
 some (Sum.inl ())
 else
 some (Sum.inl ())) fun _ =>
 bif a4 then
 bif (decide (x9 > (0 : Int))) then
 some Bool.false
 else
 bindO (some (Go.IntKind.wrap .i64 (x9 + x10))) fun x16 =>
 bif (!a5) then
 some (decide (x16 > (0 : Int)))
 else
 bif (decide (a2 ≠ (-1 : Int))) then
 some Bool.true
 else
 some (!(decide (x16 > (0 : Int))))
 else
 bindO (some (Go.IntKind.wrap .i64 (x9 + x10))) fun x17 =>
 bif (!a5) then
 some (decide (x17 > (0 : Int)))
 else
 bif (decide (a2 ≠ (-1 : Int))) then
 some Bool.true
 else
 some (!(decide (x17 > (0 : Int))))
noncomputable def cons15 : List (Nat × CE) := (31, ⟨[(.tmp 0 false [(.dat (.list (.pair .str (.pair (.int .i64) (.pair (.int .u8) (.int .i64))))))])], [(.tmp 0 false [(.dat .bool)])], fork_validBranches⟩) :: cons31
theorem cons15_ok : ConL Try.prog cons15 := ⟨con31, cons31_ok⟩
theorem con15 : ConOk Try.prog 15 ⟨[(.tmp 0 true [(.dat (.list (.pair .str (.pair (.int .i64) (.pair (.int .u8) (.int .i64)))))), (.dat (.int .i64)), (.dat .bool), (.dat .bool), (.dat .bool)])], [(.tmp 0 false [(.dat .bool)])], fork_Valid⟩ :=
  tree_ok (plan := planOf plan15) (eg := egNo) KK tabL_ok (conOf_ok cons15_ok) Try.func15 (by kernel_rfl) (by kernel_rfl) 10000 (fun a r h => Eq.trans (show _ = fork_Valid a from by kernel_rfl) h)
def plan17 : List (Nat × PL) := [(35253226045953, (.carry [.tmp 6 false [(.dat .bool)], .tmp 4 false [(.dat (.int .i64))], .tmp 5 false [(.dat .bool)], .tmp 3 false [(.dat (.int .i64))]])), (4731607904558101301254, (.carry [.tmp 15 false [(.dat (.int .i64))], .tmp 6 false [(.dat .bool)], .tmp 4 false [(.dat (.int .i64))], .tmp 5 false [(.dat .bool)], .tmp 3 false [(.dat (.int .i64))]]))]
noncomputable def fork_Best : ((List ((List UInt8) × (Int × (Int × Int)))) × (Int × (Bool × (Bool × Bool)))) → Option Int := fun (a1, (a2, (a3, (a4, a5)))) =>
 bif a3 then
 some (487 : Int)
 else
 joinO (loopO (fun (v6, (v7, (v8, (v9, v10)))) =>
 bif (decide (v6 < (((List.length a1) : Nat) : Int))) then
 bif (decide (((0 : Int) ≤ v6) ∧ (v6 < (((List.length a1) : Nat) : Int)))) then 
 bindO a1[(Int.toNat v6)]? fun x11 =>
 bif (decide (x11.2.2.1 ≠ (5 : Int))) then
 some (Sum.inl ((Go.IntKind.wrap .i64 (v6 + (1 : Int))), (v7, (v8, (v9, v10)))))
 else
 bif (decide (x11.2.2.2 ≥ (600 : Int))) then
 bif (!v9) then
 some (Sum.inl ((Go.IntKind.wrap .i64 (v6 + (1 : Int))), (v7, (v8, (Bool.true, x11.2.2.2)))))
 else
 bif (decide (x11.2.2.2 < v10)) then
 some (Sum.inl ((Go.IntKind.wrap .i64 (v6 + (1 : Int))), (v7, (v8, (Bool.true, x11.2.2.2)))))
 else
 some (Sum.inl ((Go.IntKind.wrap .i64 (v6 + (1 : Int))), (v7, (v8, (Bool.true, v10)))))
 else
 bif (decide (x11.2.2.2 = (503 : Int))) then
 bif (!v7) then
 some (Sum.inl ((Go.IntKind.wrap .i64 (v6 + (1 : Int))), (Bool.true, ((500 : Int), (v9, v10)))))
 else
 bif (decide ((500 : Int) < v8)) then
 some (Sum.inl ((Go.IntKind.wrap .i64 (v6 + (1 : Int))), (Bool.true, ((500 : Int), (v9, v10)))))
 else
 some (Sum.inl ((Go.IntKind.wrap .i64 (v6 + (1 : Int))), (Bool.true, (v8, (v9, v10)))))
 else
 bif (!v7) then
 some (Sum.inl ((Go.IntKind.wrap .i64 (v6 + (1 : Int))), (Bool.true, (x11.2.2.2, (v9, v10)))))
 else
 bif (decide (x11.2.2.2 < v8)) then
 some (Sum.inl ((Go.IntKind.wrap .i64 (v6 + (1 : Int))), (Bool.true, (x11.2.2.2, (v9, v10)))))
 else
 some (Sum.inl ((Go.IntKind.wrap .i64 (v6 + (1 : Int))), (Bool.true, (v8, (v9, v10)))))
 else none
 else
 outO (some (Sum.inl (v7, (v8, (v9, v10)))))) ((0 : Int), (Bool.false, ((0 : Int), (Bool.false, (0 : Int)))))) fun (v22, (v23, (v24, v25))) =>
 bif v24 then
 some v25
 else
 bif v22 then
 some v23
 else
 some (480 : Int)
noncomputable def cons17 : List (Nat × CE) := (15, ⟨[(.tmp 0 true [(.dat (.list (.pair .str (.pair (.int .i64) (.pair (.int .u8) (.int .i64)))))), (.dat (.int .i64)), (.dat .bool), (.dat .bool), (.dat .bool)])], [(.tmp 0 false [(.dat .bool)])], fork_Valid⟩) :: cons15
theorem cons17_ok : ConL Try.prog cons17 := ⟨con15, cons15_ok⟩
theorem con17 : ConOk Try.prog 17 ⟨[(.tmp 0 true [(.dat (.list (.pair .str (.pair (.int .i64) (.pair (.int .u8) (.int .i64)))))), (.dat (.int .i64)), (.dat .bool), (.dat .bool), (.dat .bool)])], [(.tmp 0 false [(.dat (.int .i64))])], fork_Best⟩ :=
  tree_ok (plan := planOf plan17) (eg := egNo) KK tabL_ok (conOf_ok cons17_ok) Try.func17 (by kernel_rfl) (by kernel_rfl) 10000 (fun a r h => Eq.trans (show _ = fork_Best a from by kernel_rfl) h)
def plan36 : List (Nat × PL) := [(134480385, (.carry []))]
noncomputable def fork_check : (((List ((List UInt8) × (Int × (Int × Int)))) × (Int × (Bool × (Bool × Bool)))) × (Int × (Int × Int))) → Option Int := fun ((a1, (a2, (a3, (a4, a5)))), (a6, (a7, a8))) =>
 bindO (fork_Valid (a1, (a2, (a3, (a4, a5))))) fun x9 =>
 bif (!x9) then
 some (2 : Int)
 else
 joinO (bif (decide (a6 = (1 : Int))) then
 bif (decide (a8 < (100 : Int))) then
 outO (some (2 : Int))
 else
 bif (decide (a8 > (199 : Int))) then
 outO (some (2 : Int))
 else
 some (Sum.inl ())
 else
 bif (decide (a6 = (2 : Int))) then
 bif (decide (a8 < (200 : Int))) then
 outO (some (2 : Int))
 else
 bif (decide (a8 > (699 : Int))) then
 outO (some (2 : Int))
 else
 some (Sum.inl ())
 else
 bif (decide (a6 = (3 : Int))) then
 some (Sum.inl ())
 else
 bif (decide (a6 = (4 : Int))) then
 bif a5 then
 outO (some (9 : Int))
 else
 bif a3 then
 outO (some (9 : Int))
 else
 outO (some (0 : Int))
 else
 outO (some (2 : Int))) fun _ =>
 bif (decide (a7 < (0 : Int))) then
 some (2 : Int)
 else
 bif (decide (a7 ≥ (((List.length a1) : Nat) : Int))) then
 some (2 : Int)
 else
 bif (decide (((0 : Int) ≤ a7) ∧ (a7 < (((List.length a1) : Nat) : Int)))) then 
 bindO a1[(Int.toNat a7)]? fun x10 =>
 bindO (fork_open x10.2.2.1) fun x11 =>
 bif (!x11) then
 some (9 : Int)
 else
 some (0 : Int)
 else none
noncomputable def cons36 : List (Nat × CE) := (17, ⟨[(.tmp 0 true [(.dat (.list (.pair .str (.pair (.int .i64) (.pair (.int .u8) (.int .i64)))))), (.dat (.int .i64)), (.dat .bool), (.dat .bool), (.dat .bool)])], [(.tmp 0 false [(.dat (.int .i64))])], fork_Best⟩) :: cons17
theorem cons36_ok : ConL Try.prog cons36 := ⟨con17, cons17_ok⟩
theorem con36 : ConOk Try.prog 36 ⟨[(.tmp 0 true [(.dat (.list (.pair .str (.pair (.int .i64) (.pair (.int .u8) (.int .i64)))))), (.dat (.int .i64)), (.dat .bool), (.dat .bool), (.dat .bool)]), (.tmp 1 true [(.dat (.int .u8)), (.dat (.int .i64)), (.dat (.int .i64))])], [(.tmp 0 false [(.dat (.int .u8))])], fork_check⟩ :=
  tree_ok (plan := planOf plan36) (eg := egNo) KK tabL_ok (conOf_ok cons36_ok) Try.func36 (by kernel_rfl) (by kernel_rfl) 10000 (fun a r h => Eq.trans (show _ = fork_check a from by kernel_rfl) h)
def plan46 : List (Nat × PL) := []
noncomputable def dialtoneref23_Open : ((List UInt8) × (Int × (Int × Int))) → Option Bool := fun (a1, (a2, (a3, a4))) =>
 bif (decide (a3 ≥ (1 : Int))) then
 some (decide (a3 ≤ (4 : Int)))
 else
 some Bool.false
noncomputable def cons46 : List (Nat × CE) := (36, ⟨[(.tmp 0 true [(.dat (.list (.pair .str (.pair (.int .i64) (.pair (.int .u8) (.int .i64)))))), (.dat (.int .i64)), (.dat .bool), (.dat .bool), (.dat .bool)]), (.tmp 1 true [(.dat (.int .u8)), (.dat (.int .i64)), (.dat (.int .i64))])], [(.tmp 0 false [(.dat (.int .u8))])], fork_check⟩) :: cons36
theorem cons46_ok : ConL Try.prog cons46 := ⟨con36, cons36_ok⟩
theorem con46 : ConOk Try.prog 46 ⟨[(.tmp 0 true [(.dat .str), (.dat (.int .i64)), (.dat (.int .u8)), (.dat (.int .i64))])], [(.tmp 0 false [(.dat .bool)])], dialtoneref23_Open⟩ :=
  tree_ok (plan := planOf plan46) (eg := egNo) KK tabL_ok (conOf_ok cons46_ok) Try.func46 (by kernel_rfl) (by kernel_rfl) 10000 (fun a r h => Eq.trans (show _ = dialtoneref23_Open a from by kernel_rfl) h)
def plan24 : List (Nat × PL) := [(262657, (.carry [])), (35253091829766, (.carry [.tmp 3 false [(.dat (.int .i64))]]))]
noncomputable def dialtoneref23_AnyOpen : ((List ((List UInt8) × (Int × (Int × Int)))) × (Int × (Bool × (Bool × Bool)))) → Option Bool := fun (a1, (a2, (a3, (a4, a5)))) =>
 joinO (loopO (fun v6 =>
 bif (decide (v6 < (((List.length a1) : Nat) : Int))) then
 bif (decide (((0 : Int) ≤ v6) ∧ (v6 < (((List.length a1) : Nat) : Int)))) then 
 bindO a1[(Int.toNat v6)]? fun x7 =>
 bindO (dialtoneref23_Open (x7.1, (x7.2.1, (x7.2.2.1, x7.2.2.2)))) fun x8 =>
 bif x8 then
 outO (outO (some Bool.true))
 else
 some (Sum.inl (Go.IntKind.wrap .i64 (v6 + (1 : Int))))
 else none
 else
 outO (some (Sum.inl ()))) (0 : Int)) fun _ =>
 some Bool.false
noncomputable def cons24 : List (Nat × CE) := (46, ⟨[(.tmp 0 true [(.dat .str), (.dat (.int .i64)), (.dat (.int .u8)), (.dat (.int .i64))])], [(.tmp 0 false [(.dat .bool)])], dialtoneref23_Open⟩) :: cons46
theorem cons24_ok : ConL Try.prog cons24 := ⟨con46, cons46_ok⟩
theorem con24 : ConOk Try.prog 24 ⟨[(.tmp 0 true [(.dat (.list (.pair .str (.pair (.int .i64) (.pair (.int .u8) (.int .i64)))))), (.dat (.int .i64)), (.dat .bool), (.dat .bool), (.dat .bool)])], [(.tmp 0 false [(.dat .bool)])], dialtoneref23_AnyOpen⟩ :=
  tree_ok (plan := planOf plan24) (eg := egNo) KK tabL_ok (conOf_ok cons24_ok) Try.func24 (by kernel_rfl) (by kernel_rfl) 10000 (fun a r h => Eq.trans (show _ = dialtoneref23_AnyOpen a from by kernel_rfl) h)
def plan60 : List (Nat × PL) := []
noncomputable def dialtoneref23_Live : ((List UInt8) × (Int × (Int × Int))) → Option Bool := fun (a1, (a2, (a3, a4))) =>
 bif (decide (a3 = (1 : Int))) then
 some Bool.true
 else
 some (decide (a3 = (2 : Int)))
noncomputable def cons60 : List (Nat × CE) := (24, ⟨[(.tmp 0 true [(.dat (.list (.pair .str (.pair (.int .i64) (.pair (.int .u8) (.int .i64)))))), (.dat (.int .i64)), (.dat .bool), (.dat .bool), (.dat .bool)])], [(.tmp 0 false [(.dat .bool)])], dialtoneref23_AnyOpen⟩) :: cons24
theorem cons60_ok : ConL Try.prog cons60 := ⟨con24, cons24_ok⟩
theorem con60 : ConOk Try.prog 60 ⟨[(.tmp 0 true [(.dat .str), (.dat (.int .i64)), (.dat (.int .u8)), (.dat (.int .i64))])], [(.tmp 0 false [(.dat .bool)])], dialtoneref23_Live⟩ :=
  tree_ok (plan := planOf plan60) (eg := egNo) KK tabL_ok (conOf_ok cons60_ok) Try.func60 (by kernel_rfl) (by kernel_rfl) 10000 (fun a r h => Eq.trans (show _ = dialtoneref23_Live a from by kernel_rfl) h)
def plan59 : List (Nat × PL) := []
noncomputable def dialtoneref23_early : ((List UInt8) × (Int × (Int × Int))) → Option Bool := fun (a1, (a2, (a3, a4))) =>
 bif (decide (a3 = (0 : Int))) then
 some Bool.true
 else
 some (decide (a3 = (6 : Int)))
noncomputable def cons59 : List (Nat × CE) := (60, ⟨[(.tmp 0 true [(.dat .str), (.dat (.int .i64)), (.dat (.int .u8)), (.dat (.int .i64))])], [(.tmp 0 false [(.dat .bool)])], dialtoneref23_Live⟩) :: cons60
theorem cons59_ok : ConL Try.prog cons59 := ⟨con60, cons60_ok⟩
theorem con59 : ConOk Try.prog 59 ⟨[(.tmp 0 true [(.dat .str), (.dat (.int .i64)), (.dat (.int .u8)), (.dat (.int .i64))])], [(.tmp 0 false [(.dat .bool)])], dialtoneref23_early⟩ :=
  tree_ok (plan := planOf plan59) (eg := egNo) KK tabL_ok (conOf_ok cons59_ok) Try.func59 (by kernel_rfl) (by kernel_rfl) 10000 (fun a r h => Eq.trans (show _ = dialtoneref23_early a from by kernel_rfl) h)
def plan35 : List (Nat × PL) := [(134480385, (.carry [])), (68853957121, (.carry [])), (35253226045953, (.carry [])), (4731607904558101301254, (.carry [.tmp 6 false [(.dat (.int .i64))]])), (18049651735527937, (.carry [])), (9241421688590303745, (.carry []))]
noncomputable def dialtoneref23_branch : (((List ((List UInt8) × (Int × (Int × Int)))) × (Int × (Bool × (Bool × Bool)))) × Int) → Option Bool := fun ((a1, (a2, (a3, (a4, a5)))), a6) =>
 bif (decide (((0 : Int) ≤ a6) ∧ (a6 < (((List.length a1) : Nat) : Int)))) then 
 bindO a1[(Int.toNat a6)]? fun x7 =>
 joinO (bif (decide (x7.1 = ([] : List UInt8))) then
 outO (some Bool.false)
 else
 bif (decide (x7.2.1 < (0 : Int))) then
 outO (some Bool.false)
 else
 bif (decide (x7.2.1 > (1000 : Int))) then
 outO (some Bool.false)
 else
 bif (decide (x7.2.2.1 > (6 : Int))) then
 outO (some Bool.false)
 else
 some (Sum.inl ())) fun _ =>
 joinO (bif (decide (x7.2.2.1 = (5 : Int))) then
 bif (decide (x7.2.2.2 < (200 : Int))) then
 outO (some Bool.false)
 else
 bif (decide (x7.2.2.2 > (699 : Int))) then
 outO (some Bool.false)
 else
 bif (decide (x7.2.2.1 ≠ (5 : Int))) then
 bif (decide (x7.2.2.2 ≠ (0 : Int))) then
 outO (some Bool.false)
 else
 some (Sum.inl ())
 else
 some (Sum.inl ())
 else
 bif (decide (x7.2.2.1 ≠ (5 : Int))) then
 bif (decide (x7.2.2.2 ≠ (0 : Int))) then
 outO (some Bool.false)
 else
 some (Sum.inl ())
 else
 some (Sum.inl ())) fun _ =>
 joinO (loopO (fun v8 =>
 bif (decide (v8 < a6)) then
 bif (decide (((0 : Int) ≤ v8) ∧ (v8 < (((List.length a1) : Nat) : Int)))) then 
 bindO a1[(Int.toNat v8)]? fun x9 =>
 bif (decide (x9.1 = x7.1)) then
 outO (outO (some Bool.false))
 else
 bif (decide (x9.2.1 < x7.2.1)) then
 outO (outO (some Bool.false))
 else
 bindO (dialtoneref23_early (x9.1, (x9.2.1, (x9.2.2.1, x9.2.2.2)))) fun x10 =>
 bif x10 then
 bindO (dialtoneref23_early (x7.1, (x7.2.1, (x7.2.2.1, x7.2.2.2)))) fun x11 =>
 bif (!x11) then
 outO (outO (some Bool.false))
 else
 bindO (dialtoneref23_early (x9.1, (x9.2.1, (x9.2.2.1, x9.2.2.2)))) fun x12 =>
 bif (!x12) then
 bindO (dialtoneref23_early (x7.1, (x7.2.1, (x7.2.2.1, x7.2.2.2)))) fun x13 =>
 bif x13 then
 bif (decide (x9.2.1 = x7.2.1)) then
 outO (outO (some Bool.false))
 else
 bindO (dialtoneref23_early (x9.1, (x9.2.1, (x9.2.2.1, x9.2.2.2)))) fun x14 =>
 bif x14 then
 bindO (dialtoneref23_early (x7.1, (x7.2.1, (x7.2.2.1, x7.2.2.2)))) fun x15 =>
 bif x15 then
 bif (decide (x9.2.2.1 ≠ x7.2.2.1)) then
 outO (outO (some Bool.false))
 else
 some (Sum.inl (Go.IntKind.wrap .i64 (v8 + (1 : Int))))
 else
 some (Sum.inl (Go.IntKind.wrap .i64 (v8 + (1 : Int))))
 else
 some (Sum.inl (Go.IntKind.wrap .i64 (v8 + (1 : Int))))
 else
 bindO (dialtoneref23_early (x9.1, (x9.2.1, (x9.2.2.1, x9.2.2.2)))) fun x19 =>
 bif x19 then
 bindO (dialtoneref23_early (x7.1, (x7.2.1, (x7.2.2.1, x7.2.2.2)))) fun x20 =>
 bif x20 then
 bif (decide (x9.2.2.1 ≠ x7.2.2.1)) then
 outO (outO (some Bool.false))
 else
 some (Sum.inl (Go.IntKind.wrap .i64 (v8 + (1 : Int))))
 else
 some (Sum.inl (Go.IntKind.wrap .i64 (v8 + (1 : Int))))
 else
 some (Sum.inl (Go.IntKind.wrap .i64 (v8 + (1 : Int))))
 else
 bindO (dialtoneref23_early (x9.1, (x9.2.1, (x9.2.2.1, x9.2.2.2)))) fun x24 =>
 bif x24 then
 bindO (dialtoneref23_early (x7.1, (x7.2.1, (x7.2.2.1, x7.2.2.2)))) fun x25 =>
 bif x25 then
 bif (decide (x9.2.2.1 ≠ x7.2.2.1)) then
 outO (outO (some Bool.false))
 else
 some (Sum.inl (Go.IntKind.wrap .i64 (v8 + (1 : Int))))
 else
 some (Sum.inl (Go.IntKind.wrap .i64 (v8 + (1 : Int))))
 else
 some (Sum.inl (Go.IntKind.wrap .i64 (v8 + (1 : Int))))
 else
 bindO (dialtoneref23_early (x9.1, (x9.2.1, (x9.2.2.1, x9.2.2.2)))) fun x29 =>
 bif (!x29) then
 bindO (dialtoneref23_early (x7.1, (x7.2.1, (x7.2.2.1, x7.2.2.2)))) fun x30 =>
 bif x30 then
 bif (decide (x9.2.1 = x7.2.1)) then
 outO (outO (some Bool.false))
 else
 bindO (dialtoneref23_early (x9.1, (x9.2.1, (x9.2.2.1, x9.2.2.2)))) fun x31 =>
 bif x31 then
 bindO (dialtoneref23_early (x7.1, (x7.2.1, (x7.2.2.1, x7.2.2.2)))) fun x32 =>
 bif x32 then
 bif (decide (x9.2.2.1 ≠ x7.2.2.1)) then
 outO (outO (some Bool.false))
 else
 some (Sum.inl (Go.IntKind.wrap .i64 (v8 + (1 : Int))))
 else
 some (Sum.inl (Go.IntKind.wrap .i64 (v8 + (1 : Int))))
 else
 some (Sum.inl (Go.IntKind.wrap .i64 (v8 + (1 : Int))))
 else
 bindO (dialtoneref23_early (x9.1, (x9.2.1, (x9.2.2.1, x9.2.2.2)))) fun x36 =>
 bif x36 then
 bindO (dialtoneref23_early (x7.1, (x7.2.1, (x7.2.2.1, x7.2.2.2)))) fun x37 =>
 bif x37 then
 bif (decide (x9.2.2.1 ≠ x7.2.2.1)) then
 outO (outO (some Bool.false))
 else
 some (Sum.inl (Go.IntKind.wrap .i64 (v8 + (1 : Int))))
 else
 some (Sum.inl (Go.IntKind.wrap .i64 (v8 + (1 : Int))))
 else
 some (Sum.inl (Go.IntKind.wrap .i64 (v8 + (1 : Int))))
 else
 bindO (dialtoneref23_early (x9.1, (x9.2.1, (x9.2.2.1, x9.2.2.2)))) fun x41 =>
 bif x41 then
 bindO (dialtoneref23_early (x7.1, (x7.2.1, (x7.2.2.1, x7.2.2.2)))) fun x42 =>
 bif x42 then
 bif (decide (x9.2.2.1 ≠ x7.2.2.1)) then
 outO (outO (some Bool.false))
 else
 some (Sum.inl (Go.IntKind.wrap .i64 (v8 + (1 : Int))))
 else
 some (Sum.inl (Go.IntKind.wrap .i64 (v8 + (1 : Int))))
 else
 some (Sum.inl (Go.IntKind.wrap .i64 (v8 + (1 : Int))))
 else none
 else
 outO (some (Sum.inl ()))) (0 : Int)) fun _ =>
 joinO (bif (decide (x7.2.2.1 = (6 : Int))) then
 bif (!a5) then
 outO (some Bool.false)
 else
 bif (decide (x7.2.2.1 = (0 : Int))) then
 bif a5 then
 outO (some Bool.false)
 else
 some (Sum.inl ())
 else
 some (Sum.inl ())
 else
 bif (decide (x7.2.2.1 = (0 : Int))) then
 bif a5 then
 outO (some Bool.false)
 else
 some (Sum.inl ())
 else
 some (Sum.inl ())) fun _ =>
 joinO (bif (decide (x7.2.2.2 ≥ (200 : Int))) then
 bif (decide (x7.2.2.2 ≤ (299 : Int))) then
 bif (decide (a2 = (-1 : Int))) then
 bif (!a3) then
 outO (some Bool.false)
 else
 bif (decide (x7.2.2.2 ≥ (600 : Int))) then
 bif (!a4) then
 outO (some Bool.false)
 else
 some (Sum.inl ())
 else
 some (Sum.inl ())
 else
 bif (decide (x7.2.2.2 ≥ (600 : Int))) then
 bif (!a4) then
 outO (some Bool.false)
 else
 some (Sum.inl ())
 else
 some (Sum.inl ())
 else
 bif (decide (x7.2.2.2 ≥ (600 : Int))) then
 bif (!a4) then
 outO (some Bool.false)
 else
 some (Sum.inl ())
 else
 some (Sum.inl ())
 else
 bif (decide (x7.2.2.2 ≥ (600 : Int))) then
 bif (!a4) then
 outO (some Bool.false)
 else
 some (Sum.inl ())
 else
 some (Sum.inl ())) fun _ =>
 bif a4 then
 bindO (dialtoneref23_Live (x7.1, (x7.2.1, (x7.2.2.1, x7.2.2.2)))) fun x46 =>
 bif (!x46) then
 bif (!a4) then
 bif (decide (x7.2.2.1 = (3 : Int))) then
 some Bool.false
 else
 some (!(decide (x7.2.2.1 = (4 : Int))))
 else
 some Bool.true
 else
 some Bool.false
 else
 bif (!a4) then
 bif (decide (x7.2.2.1 = (3 : Int))) then
 some Bool.false
 else
 some (!(decide (x7.2.2.1 = (4 : Int))))
 else
 some Bool.true
 else none
noncomputable def cons35 : List (Nat × CE) := (59, ⟨[(.tmp 0 true [(.dat .str), (.dat (.int .i64)), (.dat (.int .u8)), (.dat (.int .i64))])], [(.tmp 0 false [(.dat .bool)])], dialtoneref23_early⟩) :: cons59
theorem cons35_ok : ConL Try.prog cons35 := ⟨con59, cons59_ok⟩
theorem con35 : ConOk Try.prog 35 ⟨[(.tmp 0 true [(.dat (.list (.pair .str (.pair (.int .i64) (.pair (.int .u8) (.int .i64)))))), (.dat (.int .i64)), (.dat .bool), (.dat .bool), (.dat .bool)]), (.tmp 1 false [(.dat (.int .i64))])], [(.tmp 0 false [(.dat .bool)])], dialtoneref23_branch⟩ :=
  tree_ok (plan := planOf plan35) (eg := egNo) KK tabL_ok (conOf_ok cons35_ok) Try.func35 (by kernel_rfl) (by kernel_rfl) 10000 (fun a r h => Eq.trans (show _ = dialtoneref23_branch a from by kernel_rfl) h)
def plan16 : List (Nat × PL) := [(262657, (.carry [])), (134480385, (.carry [])), (18049651601311750, (.carry [.tmp 3 false [(.dat (.int .i64))]])), (68853957121, (.carry []))]
noncomputable def dialtoneref23_Valid : ((List ((List UInt8) × (Int × (Int × Int)))) × (Int × (Bool × (Bool × Bool)))) → Option Bool := fun (a1, (a2, (a3, (a4, a5)))) =>
 joinO (bif (decide ((((List.length a1) : Nat) : Int) > (16 : Int))) then
 outO (some Bool.false)
 else
 bif (decide (a2 < (-1 : Int))) then
 outO (some Bool.false)
 else
 bif (decide (a2 ≥ (((List.length a1) : Nat) : Int))) then
 outO (some Bool.false)
 else
 some (Sum.inl ())) fun _ =>
 joinO (loopO (fun v6 =>
 bif (decide (v6 < (((List.length a1) : Nat) : Int))) then
 bindO (dialtoneref23_branch ((a1, (a2, (a3, (a4, a5)))), v6)) fun x7 =>
 bif (!x7) then
 outO (outO (some Bool.false))
 else
 some (Sum.inl (Go.IntKind.wrap .i64 (v6 + (1 : Int))))
 else
 outO (some (Sum.inl ()))) (0 : Int)) fun _ =>
 joinO (bif (decide (a2 ≥ (0 : Int))) then
 bif (decide (((0 : Int) ≤ a2) ∧ (a2 < (((List.length a1) : Nat) : Int)))) then 
 bindO a1[(Int.toNat a2)]? fun x9 =>
 bif (decide (x9.2.2.1 ≠ (5 : Int))) then
 outO (some Bool.false)
 else
 bif (decide (x9.2.2.2 ≥ (300 : Int))) then
 outO (some Bool.false)
 else
 bif (!a5) then
 outO (some Bool.false)
 else
 bif (!a4) then
 outO (some Bool.false)
 else
 bif a3 then
 outO (some Bool.false)
 else
 some (Sum.inl ())
 else none
 else
 some (Sum.inl ())) fun _ =>
 bif a3 then
 bif (!a4) then
 some Bool.false
 else
 bif (!a5) then
 bindO (dialtoneref23_AnyOpen (a1, (a2, (a3, (a4, a5))))) fun x10 =>
 some x10
 else
 bif (decide (a2 ≥ (0 : Int))) then
 some Bool.true
 else
 bindO (dialtoneref23_AnyOpen (a1, (a2, (a3, (a4, a5))))) fun x11 =>
 some (!x11)
 else
 bif (!a5) then
 bindO (dialtoneref23_AnyOpen (a1, (a2, (a3, (a4, a5))))) fun x12 =>
 some x12
 else
 bif (decide (a2 ≥ (0 : Int))) then
 some Bool.true
 else
 bindO (dialtoneref23_AnyOpen (a1, (a2, (a3, (a4, a5))))) fun x13 =>
 some (!x13)
noncomputable def cons16 : List (Nat × CE) := (35, ⟨[(.tmp 0 true [(.dat (.list (.pair .str (.pair (.int .i64) (.pair (.int .u8) (.int .i64)))))), (.dat (.int .i64)), (.dat .bool), (.dat .bool), (.dat .bool)]), (.tmp 1 false [(.dat (.int .i64))])], [(.tmp 0 false [(.dat .bool)])], dialtoneref23_branch⟩) :: cons35
theorem cons16_ok : ConL Try.prog cons16 := ⟨con35, cons35_ok⟩
theorem con16 : ConOk Try.prog 16 ⟨[(.tmp 0 true [(.dat (.list (.pair .str (.pair (.int .i64) (.pair (.int .u8) (.int .i64)))))), (.dat (.int .i64)), (.dat .bool), (.dat .bool), (.dat .bool)])], [(.tmp 0 false [(.dat .bool)])], dialtoneref23_Valid⟩ :=
  tree_ok (plan := planOf plan16) (eg := egNo) KK tabL_ok (conOf_ok cons16_ok) Try.func16 (by kernel_rfl) (by kernel_rfl) 10000 (fun a r h => Eq.trans (show _ = dialtoneref23_Valid a from by kernel_rfl) h)
def plan18 : List (Nat × PL) := [(68853957121, (.carry [.tmp 3 false [(.own 10000003 3 (.int .i64))], .tmp 4 false [(.own 10000004 3 (.int .i64))]])), (9241421688456087558, (.carry [.tmp 5 false [(.dat (.int .i64))], .tmp 3 false [(.own 10000002 3 (.int .i64))], .tmp 4 false [(.own 10000001 3 (.int .i64))]])), (35253226045953, (.carry [.tmp 3 false [(.own 10000005 3 (.int .i64))], .dead 10000004, .dead 10000003])), (166478653090017823607932654836777473, (.carry [.tmp 6 false [(.dat (.int .i64))]])), (4731607904558235517441, (.carry [.tmp 7 false [(.dat (.int .i64))]])), (635065662736647214839701440518, (.carry [.tmp 8 false [(.dat (.int .i64))], .tmp 7 false [(.dat (.int .i64))]]))]
noncomputable def dialtoneref23_Best : ((List ((List UInt8) × (Int × (Int × Int)))) × (Int × (Bool × (Bool × Bool)))) → Option Int := fun (a1, (a2, (a3, (a4, a5)))) =>
 bif a3 then
 some (487 : Int)
 else
 joinO (loopO (fun (v6, (v7, v8)) =>
 bif (decide (v6 < (((List.length a1) : Nat) : Int))) then
 bif (decide (((0 : Int) ≤ v6) ∧ (v6 < (((List.length a1) : Nat) : Int)))) then 
 bindO a1[(Int.toNat v6)]? fun x9 =>
 bif (decide (((0 : Int) ≤ v6) ∧ (v6 < (((List.length a1) : Nat) : Int)))) then 
 bindO a1[(Int.toNat v6)]? fun x10 =>
 bif (decide (x10.2.2.1 ≠ (5 : Int))) then
 bif ((decide ((List.length v7) ≤ (List.length v7))) && (decide ((List.length v8) ≤ (List.length v8)))) then 
 some (Sum.inl ((Go.IntKind.wrap .i64 (v6 + (1 : Int))), ((List.take (List.length v7) v7), (List.take (List.length v8) v8))))
 else none
 else
 joinO (bif (decide (x9.2.2.2 = (503 : Int))) then
 some (Sum.inl (500 : Int))
 else
 some (Sum.inl x9.2.2.2)) fun v12 =>
 bif (decide ((List.length v7) ≤ (List.length v7))) then 
 bif (decide (((List.length ((List.take (List.length v7) v7) ++ (v12 :: ([] : List Int)))) * 8) ≤ 140737488355328)) then 
 bindO (some ((List.take (List.length v7) v7) ++ (v12 :: ([] : List Int)))) fun x13 =>
 bif (decide (v12 ≥ (600 : Int))) then
 bif (decide ((List.length v8) ≤ (List.length v8))) then 
 bif (decide (((List.length ((List.take (List.length v8) v8) ++ (v12 :: ([] : List Int)))) * 8) ≤ 140737488355328)) then 
 bindO (some ((List.take (List.length v8) v8) ++ (v12 :: ([] : List Int)))) fun x14 =>
 bif ((decide ((List.length x13) ≤ (List.length x13))) && (decide ((List.length x14) ≤ (List.length x14)))) then 
 some (Sum.inl ((Go.IntKind.wrap .i64 (v6 + (1 : Int))), ((List.take (List.length x13) x13), (List.take (List.length x14) x14))))
 else none
 else none
 else none
 else
 bif ((decide ((List.length x13) ≤ (List.length x13))) && (decide ((List.length v8) ≤ (List.length v8)))) then 
 some (Sum.inl ((Go.IntKind.wrap .i64 (v6 + (1 : Int))), ((List.take (List.length x13) x13), (List.take (List.length v8) v8))))
 else none
 else none
 else none
 else none
 else none
 else
 outO (bif ((decide ((List.length v7) ≤ (List.length v7))) && (decide ((List.length v8) ≤ (List.length v8)))) then 
 some (Sum.inl ((List.take (List.length v7) v7), (List.take (List.length v8) v8)))
 else none)) ((0 : Int), (([] : List Int), ([] : List Int)))) fun (v17, v18) =>
 joinO (bif (decide ((((List.length v18) : Nat) : Int) > (0 : Int))) then
 bif (decide ((List.length v18) ≤ (List.length v18))) then 
 some (Sum.inl (List.take (List.length v18) v18))
 else none
 else
 bif (decide ((List.length v17) ≤ (List.length v17))) then 
 some (Sum.inl (List.take (List.length v17) v17))
 else none) fun v19 =>
 bif (decide ((((List.length v19) : Nat) : Int) = (0 : Int))) then
 some (480 : Int)
 else
 bif (decide (((0 : Int) ≤ (0 : Int)) ∧ ((0 : Int) < (((List.length v19) : Nat) : Int)))) then 
 bindO v19[0]? fun x20 =>
 joinO (loopO (fun (v21, v22) =>
 bif (decide (v21 < (((List.length v19) : Nat) : Int))) then
 bif (decide (((0 : Int) ≤ v21) ∧ (v21 < (((List.length v19) : Nat) : Int)))) then 
 bindO v19[(Int.toNat v21)]? fun x23 =>
 some (Sum.inl ((Go.IntKind.wrap .i64 (v21 + (1 : Int))), (minA v22 x23)))
 else none
 else
 outO (some (Sum.inl v22))) ((1 : Int), x20)) fun v25 =>
 some v25
 else none
noncomputable def cons18 : List (Nat × CE) := (16, ⟨[(.tmp 0 true [(.dat (.list (.pair .str (.pair (.int .i64) (.pair (.int .u8) (.int .i64)))))), (.dat (.int .i64)), (.dat .bool), (.dat .bool), (.dat .bool)])], [(.tmp 0 false [(.dat .bool)])], dialtoneref23_Valid⟩) :: cons16
theorem cons18_ok : ConL Try.prog cons18 := ⟨con16, cons16_ok⟩
theorem con18 : ConOk Try.prog 18 ⟨[(.tmp 0 true [(.dat (.list (.pair .str (.pair (.int .i64) (.pair (.int .u8) (.int .i64)))))), (.dat (.int .i64)), (.dat .bool), (.dat .bool), (.dat .bool)])], [(.tmp 0 false [(.dat (.int .i64))])], dialtoneref23_Best⟩ :=
  tree_ok (plan := planOf plan18) (eg := egNo) KK tabL_ok (conOf_ok cons18_ok) Try.func18 (by kernel_rfl) (by kernel_rfl) 10000 (fun a r h => Eq.trans (show _ = dialtoneref23_Best a from by kernel_rfl) h)
def plan45 : List (Nat × PL) := [(68853957121, (.carry [.tmp 4 false [(.own 10000002 53 (.pair (.int .u8) (.pair (.int .i64) (.int .i64))))], .row 12 49 (.pair .str (.pair (.int .i64) (.pair (.int .u8) (.int .i64))))])), (9241421688456087558, (.carry [.tmp 5 false [(.dat (.int .i64))], .tmp 4 false [(.own 10000001 53 (.pair (.int .u8) (.pair (.int .i64) (.int .i64))))], .row 12 49 (.pair .str (.pair (.int .i64) (.pair (.int .u8) (.int .i64))))]))]
noncomputable def dialtoneref23_stop : ((List ((List UInt8) × (Int × (Int × Int)))) × (Int × (Bool × (Bool × Bool)))) → Option (((List ((List UInt8) × (Int × (Int × Int)))) × (Int × (Bool × (Bool × Bool)))) × (List (Int × (Int × Int)))) := fun (a1, (a2, (a3, (a4, a5)))) =>
 bif (decide (((List.length a1) * 40) ≤ 140737488355328)) then 
 joinO (loopO (fun (v7, (v8, v9)) =>
 bif (decide (v7 < (((List.length a1) : Nat) : Int))) then
 bif (decide (((0 : Int) ≤ v7) ∧ (v7 < (((List.length a1) : Nat) : Int)))) then 
 bindO v9[(Int.toNat v7)]? fun x10 =>
 bif (decide (x10.2.2.1 = (2 : Int))) then
 bif (decide (((0 : Int) ≤ v7) ∧ (v7 < (((List.length a1) : Nat) : Int)))) then 
 bindO v9[(Int.toNat v7)]? fun x11 =>
 bif (decide ((List.length v8) ≤ (List.length v8))) then 
 bif (decide (((List.length ((List.take (List.length v8) v8) ++ (((2 : Int), (v7, (0 : Int))) :: ([] : List (Int × (Int × Int)))))) * 24) ≤ 140737488355328)) then 
 bindO (some ((List.take (List.length v8) v8) ++ (((2 : Int), (v7, (0 : Int))) :: ([] : List (Int × (Int × Int)))))) fun x12 =>
 bif (decide ((List.length x12) ≤ (List.length x12))) then 
 some (Sum.inl ((Go.IntKind.wrap .i64 (v7 + (1 : Int))), ((List.take (List.length x12) x12), (List.set v9 (Int.toNat v7) (x11.1, (x11.2.1, ((4 : Int), x11.2.2.2)))))))
 else none
 else none
 else none
 else none
 else
 bif (decide (x10.2.2.1 = (1 : Int))) then
 bif (decide (((0 : Int) ≤ v7) ∧ (v7 < (((List.length a1) : Nat) : Int)))) then 
 bindO v9[(Int.toNat v7)]? fun x14 =>
 bif (decide ((List.length v8) ≤ (List.length v8))) then 
 some (Sum.inl ((Go.IntKind.wrap .i64 (v7 + (1 : Int))), ((List.take (List.length v8) v8), (List.set v9 (Int.toNat v7) (x14.1, (x14.2.1, ((3 : Int), x14.2.2.2)))))))
 else none
 else none
 else
 bif (decide ((List.length v8) ≤ (List.length v8))) then 
 some (Sum.inl ((Go.IntKind.wrap .i64 (v7 + (1 : Int))), ((List.take (List.length v8) v8), v9)))
 else none
 else none
 else
 outO (bif (decide ((List.length v8) ≤ (List.length v8))) then 
 some (Sum.inl ((List.take (List.length v8) v8), v9))
 else none)) ((0 : Int), (([] : List (Int × (Int × Int))), a1))) fun (v17, v18) =>
 bif ((decide ((List.length a1) ≤ (List.length v18))) && (decide ((List.length v17) ≤ (List.length v17)))) then 
 some (((List.take (List.length a1) v18), (a2, (a3, (a4, a5)))), (List.take (List.length v17) v17))
 else none
 else none
noncomputable def cons45 : List (Nat × CE) := (18, ⟨[(.tmp 0 true [(.dat (.list (.pair .str (.pair (.int .i64) (.pair (.int .u8) (.int .i64)))))), (.dat (.int .i64)), (.dat .bool), (.dat .bool), (.dat .bool)])], [(.tmp 0 false [(.dat (.int .i64))])], dialtoneref23_Best⟩) :: cons18
theorem cons45_ok : ConL Try.prog cons45 := ⟨con18, cons18_ok⟩
theorem con45 : ConOk Try.prog 45 ⟨[(.tmp 0 true [(.dat (.list (.pair .str (.pair (.int .i64) (.pair (.int .u8) (.int .i64)))))), (.dat (.int .i64)), (.dat .bool), (.dat .bool), (.dat .bool)])], [(.tmp 0 true [(.dat (.list (.pair .str (.pair (.int .i64) (.pair (.int .u8) (.int .i64)))))), (.dat (.int .i64)), (.dat .bool), (.dat .bool), (.dat .bool)]), (.tmp 1 false [(.dat (.list (.pair (.int .u8) (.pair (.int .i64) (.int .i64)))))])], dialtoneref23_stop⟩ :=
  tree_ok (plan := planOf plan45) (eg := egNo) KK tabL_ok (conOf_ok cons45_ok) Try.func45 (by kernel_rfl) (by kernel_rfl) 10000 (fun a r h => Eq.trans (show _ = dialtoneref23_stop a from by kernel_rfl) h)
def plan56 : List (Nat × PL) := [(262657, (.carry [])), (35253091829766, (.carry [.tmp 3 false [(.dat (.int .i64))]]))]
noncomputable def dialtoneref23_first : ((List ((List UInt8) × (Int × (Int × Int)))) × (Int × (Bool × (Bool × Bool)))) → Option Int := fun (a1, (a2, (a3, (a4, a5)))) =>
 joinO (loopO (fun v6 =>
 bif (decide (v6 < (((List.length a1) : Nat) : Int))) then
 bif (decide (((0 : Int) ≤ v6) ∧ (v6 < (((List.length a1) : Nat) : Int)))) then 
 bindO a1[(Int.toNat v6)]? fun x7 =>
 bif (decide (x7.2.2.1 = (0 : Int))) then
 outO (outO (some v6))
 else
 some (Sum.inl (Go.IntKind.wrap .i64 (v6 + (1 : Int))))
 else none
 else
 outO (some (Sum.inl ()))) (0 : Int)) fun _ =>
 some (-1 : Int)
noncomputable def cons56 : List (Nat × CE) := (45, ⟨[(.tmp 0 true [(.dat (.list (.pair .str (.pair (.int .i64) (.pair (.int .u8) (.int .i64)))))), (.dat (.int .i64)), (.dat .bool), (.dat .bool), (.dat .bool)])], [(.tmp 0 true [(.dat (.list (.pair .str (.pair (.int .i64) (.pair (.int .u8) (.int .i64)))))), (.dat (.int .i64)), (.dat .bool), (.dat .bool), (.dat .bool)]), (.tmp 1 false [(.dat (.list (.pair (.int .u8) (.pair (.int .i64) (.int .i64)))))])], dialtoneref23_stop⟩) :: cons45
theorem cons56_ok : ConL Try.prog cons56 := ⟨con45, cons45_ok⟩
theorem con56 : ConOk Try.prog 56 ⟨[(.tmp 0 true [(.dat (.list (.pair .str (.pair (.int .i64) (.pair (.int .u8) (.int .i64)))))), (.dat (.int .i64)), (.dat .bool), (.dat .bool), (.dat .bool)])], [(.tmp 0 false [(.dat (.int .i64))])], dialtoneref23_first⟩ :=
  tree_ok (plan := planOf plan56) (eg := egNo) KK tabL_ok (conOf_ok cons56_ok) Try.func56 (by kernel_rfl) (by kernel_rfl) 10000 (fun a r h => Eq.trans (show _ = dialtoneref23_first a from by kernel_rfl) h)
def plan57 : List (Nat × PL) := [(134480385, (.carry [.row 11 49 (.pair .str (.pair (.int .i64) (.pair (.int .u8) (.int .i64))))])), (18049651601311750, (.carry [.tmp 3 false [(.dat (.int .i64))], .row 11 49 (.pair .str (.pair (.int .i64) (.pair (.int .u8) (.int .i64))))]))]
noncomputable def dialtoneref23_skip : ((List ((List UInt8) × (Int × (Int × Int)))) × (Int × (Bool × (Bool × Bool)))) → Option ((List ((List UInt8) × (Int × (Int × Int)))) × (Int × (Bool × (Bool × Bool)))) := fun (a1, (a2, (a3, (a4, a5)))) =>
 bif (decide (((List.length a1) * 40) ≤ 140737488355328)) then 
 joinO (loopO (fun (v7, v8) =>
 bif (decide (v7 < (((List.length a1) : Nat) : Int))) then
 bif (decide (((0 : Int) ≤ v7) ∧ (v7 < (((List.length a1) : Nat) : Int)))) then 
 bindO v8[(Int.toNat v7)]? fun x9 =>
 bif (decide (x9.2.2.1 = (0 : Int))) then
 bif (decide (((0 : Int) ≤ v7) ∧ (v7 < (((List.length a1) : Nat) : Int)))) then 
 bindO v8[(Int.toNat v7)]? fun x10 =>
 some (Sum.inl ((Go.IntKind.wrap .i64 (v7 + (1 : Int))), (List.set v8 (Int.toNat v7) (x10.1, (x10.2.1, ((6 : Int), x10.2.2.2))))))
 else none
 else
 some (Sum.inl ((Go.IntKind.wrap .i64 (v7 + (1 : Int))), v8))
 else none
 else
 outO (some (Sum.inl v8))) ((0 : Int), a1)) fun v13 =>
 bif (decide ((List.length a1) ≤ (List.length v13))) then 
 some ((List.take (List.length a1) v13), (a2, (a3, (a4, a5))))
 else none
 else none
noncomputable def cons57 : List (Nat × CE) := (56, ⟨[(.tmp 0 true [(.dat (.list (.pair .str (.pair (.int .i64) (.pair (.int .u8) (.int .i64)))))), (.dat (.int .i64)), (.dat .bool), (.dat .bool), (.dat .bool)])], [(.tmp 0 false [(.dat (.int .i64))])], dialtoneref23_first⟩) :: cons56
theorem cons57_ok : ConL Try.prog cons57 := ⟨con56, cons56_ok⟩
theorem con57 : ConOk Try.prog 57 ⟨[(.tmp 0 true [(.dat (.list (.pair .str (.pair (.int .i64) (.pair (.int .u8) (.int .i64)))))), (.dat (.int .i64)), (.dat .bool), (.dat .bool), (.dat .bool)])], [(.tmp 0 true [(.dat (.list (.pair .str (.pair (.int .i64) (.pair (.int .u8) (.int .i64)))))), (.dat (.int .i64)), (.dat .bool), (.dat .bool), (.dat .bool)])], dialtoneref23_skip⟩ :=
  tree_ok (plan := planOf plan57) (eg := egNo) KK tabL_ok (conOf_ok cons57_ok) Try.func57 (by kernel_rfl) (by kernel_rfl) 10000 (fun a r h => Eq.trans (show _ = dialtoneref23_skip a from by kernel_rfl) h)
def plan30 : List (Nat × PL) := [(4731607904558235517441, (.carry [.tmp 6 false [(.own 10000002 53 (.pair (.int .u8) (.pair (.int .i64) (.int .i64))))], .row 18 49 (.pair .str (.pair (.int .i64) (.pair (.int .u8) (.int .i64))))])), (635065662736647214839701440518, (.carry [.tmp 7 false [(.dat (.int .i64))], .tmp 6 false [(.own 10000001 53 (.pair (.int .u8) (.pair (.int .i64) (.int .i64))))], .row 18 49 (.pair .str (.pair (.int .i64) (.pair (.int .u8) (.int .i64))))]))]
noncomputable def dialtoneref23_goOn : ((List ((List UInt8) × (Int × (Int × Int)))) × (Int × (Bool × (Bool × Bool)))) → Option (((List ((List UInt8) × (Int × (Int × Int)))) × (Int × (Bool × (Bool × Bool)))) × (List (Int × (Int × Int)))) := fun (a1, (a2, (a3, (a4, a5)))) =>
 bif a5 then
 some ((a1, (a2, (a3, (a4, a5)))), ([] : List (Int × (Int × Int))))
 else
 bindO (dialtoneref23_AnyOpen (a1, (a2, (a3, (a4, a5))))) fun x6 =>
 bif x6 then
 some ((a1, (a2, (a3, (a4, a5)))), ([] : List (Int × (Int × Int))))
 else
 bif (decide (((List.length a1) * 40) ≤ 140737488355328)) then 
 bif (decide ((List.length a1) ≤ (List.length a1))) then 
 bindO (dialtoneref23_first ((List.take (List.length a1) a1), (a2, (a3, (a4, a5))))) fun x8 =>
 bif a4 then
 bif (decide ((List.length a1) ≤ (List.length a1))) then 
 bindO (dialtoneref23_skip ((List.take (List.length a1) a1), (a2, (a3, (a4, a5))))) fun (x10, (x11, (x12, (x13, x14)))) =>
 bindO (dialtoneref23_Best (x10, (x11, (x12, (x13, Bool.true))))) fun x15 =>
 some ((x10, (x11, (x12, (x13, Bool.true)))), (((6 : Int), ((-1 : Int), x15)) :: ([] : List (Int × (Int × Int)))))
 else none
 else
 bif (decide (x8 < (0 : Int))) then
 bif (decide ((List.length a1) ≤ (List.length a1))) then 
 bindO (dialtoneref23_skip ((List.take (List.length a1) a1), (a2, (a3, (a4, a5))))) fun (x17, (x18, (x19, (x20, x21)))) =>
 bindO (dialtoneref23_Best (x17, (x18, (x19, (x20, Bool.true))))) fun x22 =>
 some ((x17, (x18, (x19, (x20, Bool.true)))), (((6 : Int), ((-1 : Int), x22)) :: ([] : List (Int × (Int × Int)))))
 else none
 else
 bif (decide (((0 : Int) ≤ x8) ∧ (x8 < (((List.length a1) : Nat) : Int)))) then 
 bindO a1[(Int.toNat x8)]? fun x23 =>
 joinO (loopO (fun (v24, (v25, v26)) =>
 bif (decide (v24 < (((List.length a1) : Nat) : Int))) then
 bif (decide (((0 : Int) ≤ v24) ∧ (v24 < (((List.length a1) : Nat) : Int)))) then 
 bindO v26[(Int.toNat v24)]? fun x27 =>
 bif (decide (x27.2.2.1 = (0 : Int))) then
 bif (decide (((0 : Int) ≤ v24) ∧ (v24 < (((List.length a1) : Nat) : Int)))) then 
 bindO v26[(Int.toNat v24)]? fun x28 =>
 bif (decide (x28.2.1 = x23.2.1)) then
 bif (decide (((0 : Int) ≤ v24) ∧ (v24 < (((List.length a1) : Nat) : Int)))) then 
 bindO v26[(Int.toNat v24)]? fun x29 =>
 bif (decide ((List.length v25) ≤ (List.length v25))) then 
 bif (decide (((List.length ((List.take (List.length v25) v25) ++ (((1 : Int), (v24, (0 : Int))) :: ([] : List (Int × (Int × Int)))))) * 24) ≤ 140737488355328)) then 
 bindO (some ((List.take (List.length v25) v25) ++ (((1 : Int), (v24, (0 : Int))) :: ([] : List (Int × (Int × Int)))))) fun x30 =>
 bif (decide ((List.length x30) ≤ (List.length x30))) then 
 some (Sum.inl ((Go.IntKind.wrap .i64 (v24 + (1 : Int))), ((List.take (List.length x30) x30), (List.set v26 (Int.toNat v24) (x29.1, (x29.2.1, ((1 : Int), x29.2.2.2)))))))
 else none
 else none
 else none
 else none
 else
 bif (decide ((List.length v25) ≤ (List.length v25))) then 
 some (Sum.inl ((Go.IntKind.wrap .i64 (v24 + (1 : Int))), ((List.take (List.length v25) v25), v26)))
 else none
 else none
 else
 bif (decide ((List.length v25) ≤ (List.length v25))) then 
 some (Sum.inl ((Go.IntKind.wrap .i64 (v24 + (1 : Int))), ((List.take (List.length v25) v25), v26)))
 else none
 else none
 else
 outO (bif (decide ((List.length v25) ≤ (List.length v25))) then 
 some (Sum.inl ((List.take (List.length v25) v25), v26))
 else none)) ((0 : Int), (([] : List (Int × (Int × Int))), a1))) fun (v34, v35) =>
 bif ((decide ((List.length a1) ≤ (List.length v35))) && (decide ((List.length v34) ≤ (List.length v34)))) then 
 some (((List.take (List.length a1) v35), (a2, (a3, (a4, a5)))), (List.take (List.length v34) v34))
 else none
 else none
 else none
 else none
noncomputable def cons30 : List (Nat × CE) := (57, ⟨[(.tmp 0 true [(.dat (.list (.pair .str (.pair (.int .i64) (.pair (.int .u8) (.int .i64)))))), (.dat (.int .i64)), (.dat .bool), (.dat .bool), (.dat .bool)])], [(.tmp 0 true [(.dat (.list (.pair .str (.pair (.int .i64) (.pair (.int .u8) (.int .i64)))))), (.dat (.int .i64)), (.dat .bool), (.dat .bool), (.dat .bool)])], dialtoneref23_skip⟩) :: cons57
theorem cons30_ok : ConL Try.prog cons30 := ⟨con57, cons57_ok⟩
theorem con30 : ConOk Try.prog 30 ⟨[(.tmp 0 true [(.dat (.list (.pair .str (.pair (.int .i64) (.pair (.int .u8) (.int .i64)))))), (.dat (.int .i64)), (.dat .bool), (.dat .bool), (.dat .bool)])], [(.tmp 0 true [(.dat (.list (.pair .str (.pair (.int .i64) (.pair (.int .u8) (.int .i64)))))), (.dat (.int .i64)), (.dat .bool), (.dat .bool), (.dat .bool)]), (.tmp 1 false [(.dat (.list (.pair (.int .u8) (.pair (.int .i64) (.int .i64)))))])], dialtoneref23_goOn⟩ :=
  tree_ok (plan := planOf plan30) (eg := egNo) KK tabL_ok (conOf_ok cons30_ok) Try.func30 (by kernel_rfl) (by kernel_rfl) 10000 (fun a r h => Eq.trans (show _ = dialtoneref23_goOn a from by kernel_rfl) h)
def plan41 : List (Nat × PL) := [(262657, (.carry [])), (35253226045953, (.carry []))]
noncomputable def dialtoneref23_wrong : (((List ((List UInt8) × (Int × (Int × Int)))) × (Int × (Bool × (Bool × Bool)))) × (Int × (Int × Int))) → Option Int := fun ((a1, (a2, (a3, (a4, a5)))), (a6, (a7, a8))) =>
 joinO (bindO (dialtoneref23_Valid (a1, (a2, (a3, (a4, a5))))) fun x9 =>
 bif (!x9) then
 outO (some (2 : Int))
 else
 bif (decide (a6 < (1 : Int))) then
 outO (some (2 : Int))
 else
 bif (decide (a6 > (4 : Int))) then
 outO (some (2 : Int))
 else
 some (Sum.inl ())) fun _ =>
 bif (decide (a6 = (4 : Int))) then
 bif a5 then
 some (9 : Int)
 else
 bif a3 then
 some (9 : Int)
 else
 some (0 : Int)
 else
 bif (decide (a7 < (0 : Int))) then
 some (2 : Int)
 else
 bif (decide (a7 ≥ (((List.length a1) : Nat) : Int))) then
 some (2 : Int)
 else
 joinO (bif (decide (a6 = (1 : Int))) then
 bif (decide (a8 < (100 : Int))) then
 outO (some (2 : Int))
 else
 bif (decide (a8 > (199 : Int))) then
 outO (some (2 : Int))
 else
 bif (decide (a6 = (2 : Int))) then
 bif (decide (a8 < (200 : Int))) then
 outO (some (2 : Int))
 else
 bif (decide (a8 > (699 : Int))) then
 outO (some (2 : Int))
 else
 some (Sum.inl ())
 else
 some (Sum.inl ())
 else
 bif (decide (a6 = (2 : Int))) then
 bif (decide (a8 < (200 : Int))) then
 outO (some (2 : Int))
 else
 bif (decide (a8 > (699 : Int))) then
 outO (some (2 : Int))
 else
 some (Sum.inl ())
 else
 some (Sum.inl ())) fun _ =>
 bif (decide (((0 : Int) ≤ a7) ∧ (a7 < (((List.length a1) : Nat) : Int)))) then 
 bindO a1[(Int.toNat a7)]? fun x10 =>
 bindO (dialtoneref23_Open (x10.1, (x10.2.1, (x10.2.2.1, x10.2.2.2)))) fun x11 =>
 bif (!x11) then
 some (9 : Int)
 else
 some (0 : Int)
 else none
noncomputable def cons41 : List (Nat × CE) := (30, ⟨[(.tmp 0 true [(.dat (.list (.pair .str (.pair (.int .i64) (.pair (.int .u8) (.int .i64)))))), (.dat (.int .i64)), (.dat .bool), (.dat .bool), (.dat .bool)])], [(.tmp 0 true [(.dat (.list (.pair .str (.pair (.int .i64) (.pair (.int .u8) (.int .i64)))))), (.dat (.int .i64)), (.dat .bool), (.dat .bool), (.dat .bool)]), (.tmp 1 false [(.dat (.list (.pair (.int .u8) (.pair (.int .i64) (.int .i64)))))])], dialtoneref23_goOn⟩) :: cons30
theorem cons41_ok : ConL Try.prog cons41 := ⟨con30, cons30_ok⟩
theorem con41 : ConOk Try.prog 41 ⟨[(.tmp 0 true [(.dat (.list (.pair .str (.pair (.int .i64) (.pair (.int .u8) (.int .i64)))))), (.dat (.int .i64)), (.dat .bool), (.dat .bool), (.dat .bool)]), (.tmp 1 true [(.dat (.int .u8)), (.dat (.int .i64)), (.dat (.int .i64))])], [(.tmp 0 false [(.dat (.int .u8))])], dialtoneref23_wrong⟩ :=
  tree_ok (plan := planOf plan41) (eg := egNo) KK tabL_ok (conOf_ok cons41_ok) Try.func41 (by kernel_rfl) (by kernel_rfl) 10000 (fun a r h => Eq.trans (show _ = dialtoneref23_wrong a from by kernel_rfl) h)
def plan13 : List (Nat × PL) := [(262657, (.carry [])), (134480385, (.carry [])), (18049651601311750, (.carry [.tmp 5 false [(.dat (.int .i64))]]))]
noncomputable def dialtoneref23_Same : (((List ((List UInt8) × (Int × (Int × Int)))) × (Int × (Bool × (Bool × Bool)))) × ((List ((List UInt8) × (Int × (Int × Int)))) × (Int × (Bool × (Bool × Bool))))) → Option Bool := fun ((a1, (a2, (a3, (a4, a5)))), (a6, (a7, (a8, (a9, a10))))) =>
 joinO (bif (decide ((((List.length a1) : Nat) : Int) ≠ (((List.length a6) : Nat) : Int))) then
 outO (some Bool.false)
 else
 bif (decide (a2 ≠ a7)) then
 outO (some Bool.false)
 else
 bif (a3 != a8) then
 outO (some Bool.false)
 else
 bif (a4 != a9) then
 outO (some Bool.false)
 else
 bif (a5 != a10) then
 outO (some Bool.false)
 else
 some (Sum.inl ())) fun _ =>
 joinO (loopO (fun v11 =>
 bif (decide (v11 < (((List.length a1) : Nat) : Int))) then
 bif (decide (((0 : Int) ≤ v11) ∧ (v11 < (((List.length a1) : Nat) : Int)))) then 
 bindO a1[(Int.toNat v11)]? fun x12 =>
 bif (decide (((0 : Int) ≤ v11) ∧ (v11 < (((List.length a6) : Nat) : Int)))) then 
 bindO a6[(Int.toNat v11)]? fun x13 =>
 bif (!((decide (x12.1 = x13.1)) && ((decide (x12.2.1 = x13.2.1)) && ((decide (x12.2.2.1 = x13.2.2.1)) && (decide (x12.2.2.2 = x13.2.2.2)))))) then
 outO (outO (some Bool.false))
 else
 some (Sum.inl (Go.IntKind.wrap .i64 (v11 + (1 : Int))))
 else none
 else none
 else
 outO (some (Sum.inl ()))) (0 : Int)) fun _ =>
 some Bool.true
noncomputable def cons13 : List (Nat × CE) := (41, ⟨[(.tmp 0 true [(.dat (.list (.pair .str (.pair (.int .i64) (.pair (.int .u8) (.int .i64)))))), (.dat (.int .i64)), (.dat .bool), (.dat .bool), (.dat .bool)]), (.tmp 1 true [(.dat (.int .u8)), (.dat (.int .i64)), (.dat (.int .i64))])], [(.tmp 0 false [(.dat (.int .u8))])], dialtoneref23_wrong⟩) :: cons41
theorem cons13_ok : ConL Try.prog cons13 := ⟨con41, cons41_ok⟩
theorem con13 : ConOk Try.prog 13 ⟨[(.tmp 0 true [(.dat (.list (.pair .str (.pair (.int .i64) (.pair (.int .u8) (.int .i64)))))), (.dat (.int .i64)), (.dat .bool), (.dat .bool), (.dat .bool)]), (.tmp 1 true [(.dat (.list (.pair .str (.pair (.int .i64) (.pair (.int .u8) (.int .i64)))))), (.dat (.int .i64)), (.dat .bool), (.dat .bool), (.dat .bool)])], [(.tmp 0 false [(.dat .bool)])], dialtoneref23_Same⟩ :=
  tree_ok (plan := planOf plan13) (eg := egNo) KK tabL_ok (conOf_ok cons13_ok) Try.func13 (by kernel_rfl) (by kernel_rfl) 10000 (fun a r h => Eq.trans (show _ = dialtoneref23_Same a from by kernel_rfl) h)
def plan14 : List (Nat × PL) := [(134480385, (.carry [])), (18049651601311750, (.carry [.tmp 5 false [(.dat (.int .i64))]]))]
noncomputable def dialtoneref23_SameActs : ((List (Int × (Int × Int))) × (List (Int × (Int × Int)))) → Option Bool := fun (a1, a2) =>
 bif (decide ((((List.length a1) : Nat) : Int) ≠ (((List.length a2) : Nat) : Int))) then
 some Bool.false
 else
 joinO (loopO (fun v3 =>
 bif (decide (v3 < (((List.length a1) : Nat) : Int))) then
 bif (decide (((0 : Int) ≤ v3) ∧ (v3 < (((List.length a1) : Nat) : Int)))) then 
 bindO a1[(Int.toNat v3)]? fun x4 =>
 bif (decide (((0 : Int) ≤ v3) ∧ (v3 < (((List.length a2) : Nat) : Int)))) then 
 bindO a2[(Int.toNat v3)]? fun x5 =>
 bif (!((decide (x4.1 = x5.1)) && ((decide (x4.2.1 = x5.2.1)) && (decide (x4.2.2 = x5.2.2))))) then
 outO (outO (some Bool.false))
 else
 some (Sum.inl (Go.IntKind.wrap .i64 (v3 + (1 : Int))))
 else none
 else none
 else
 outO (some (Sum.inl ()))) (0 : Int)) fun _ =>
 some Bool.true
noncomputable def cons14 : List (Nat × CE) := (13, ⟨[(.tmp 0 true [(.dat (.list (.pair .str (.pair (.int .i64) (.pair (.int .u8) (.int .i64)))))), (.dat (.int .i64)), (.dat .bool), (.dat .bool), (.dat .bool)]), (.tmp 1 true [(.dat (.list (.pair .str (.pair (.int .i64) (.pair (.int .u8) (.int .i64)))))), (.dat (.int .i64)), (.dat .bool), (.dat .bool), (.dat .bool)])], [(.tmp 0 false [(.dat .bool)])], dialtoneref23_Same⟩) :: cons13
theorem cons14_ok : ConL Try.prog cons14 := ⟨con13, cons13_ok⟩
theorem con14 : ConOk Try.prog 14 ⟨[(.tmp 0 false [(.dat (.list (.pair (.int .u8) (.pair (.int .i64) (.int .i64)))))]), (.tmp 1 false [(.dat (.list (.pair (.int .u8) (.pair (.int .i64) (.int .i64)))))])], [(.tmp 0 false [(.dat .bool)])], dialtoneref23_SameActs⟩ :=
  tree_ok (plan := planOf plan14) (eg := egNo) KK tabL_ok (conOf_ok cons14_ok) Try.func14 (by kernel_rfl) (by kernel_rfl) 10000 (fun a r h => Eq.trans (show _ = dialtoneref23_SameActs a from by kernel_rfl) h)
def plan12 : List (Nat × PL) := [(68853957121, (.carry [.mix 7 [(.own 10000003 49 (.pair .str (.pair (.int .i64) (.pair (.int .u8) (.int .i64))))), (.dat (.int .i64)), (.dat .bool), (.dat .bool), (.dat .bool)]])), (9241421688456087558, (.carry [.tmp 6 false [(.dat (.int .i64))], .mix 7 [(.own 10000002 49 (.pair .str (.pair (.int .i64) (.pair (.int .u8) (.int .i64))))), (.dat (.int .i64)), (.dat .bool), (.dat .bool), (.dat .bool)]])), (2422583247098632616804865, (.carry [.drop 9, .tmp 8 false [(.dat (.int .i64))], .tmp 7 false [(.dat (.int .i64))], .mix 7 [(.own 10000001 49 (.pair .str (.pair (.int .i64) (.pair (.int .u8) (.int .i64))))), (.dat (.int .i64)), (.dat .bool), (.dat .bool), (.dat .bool)]])), (635065662727423948699694270465, (.carry [])), (166478653090017823607932654836777473, (.carry [.tmp 8 false [(.dat (.int .i64))], .tmp 7 false [(.dat (.int .i64))]])), (22344386578242371764161483709200483133687814, (.carry [.tmp 8 false [(.dat (.int .i64))], .tmp 7 false [(.dat (.int .i64))]]))]
noncomputable def dialtoneref23_New : (List ((List UInt8) × Int)) → Option (((List ((List UInt8) × (Int × (Int × Int)))) × (Int × (Bool × (Bool × Bool)))) × ((List (Int × (Int × Int))) × Int)) := fun a1 =>
 bif (decide ((((List.length a1) : Nat) : Int) > (16 : Int))) then
 some ((([] : List ((List UInt8) × (Int × (Int × Int)))), ((0 : Int), (Bool.false, (Bool.false, Bool.false)))), (([] : List (Int × (Int × Int))), (4 : Int)))
 else
 joinO (loopO (fun (v2, (v3, (v4, (v5, (v6, v7))))) =>
 bif (decide (v2 < (((List.length a1) : Nat) : Int))) then
 joinO (joinO (bif (decide (((0 : Int) ≤ v2) ∧ (v2 < (((List.length a1) : Nat) : Int)))) then 
 bindO a1[(Int.toNat v2)]? fun x8 =>
 bif (decide (x8.1 = ([] : List UInt8))) then
 outO (outO (outO (outO (some ((([] : List ((List UInt8) × (Int × (Int × Int)))), ((0 : Int), (Bool.false, (Bool.false, Bool.false)))), (([] : List (Int × (Int × Int))), (2 : Int)))))))
 else
 bif (decide (((0 : Int) ≤ v2) ∧ (v2 < (((List.length a1) : Nat) : Int)))) then 
 bindO a1[(Int.toNat v2)]? fun x9 =>
 bif (decide (x9.2 < (0 : Int))) then
 outO (outO (outO (outO (some ((([] : List ((List UInt8) × (Int × (Int × Int)))), ((0 : Int), (Bool.false, (Bool.false, Bool.false)))), (([] : List (Int × (Int × Int))), (2 : Int)))))))
 else
 bif (decide (((0 : Int) ≤ v2) ∧ (v2 < (((List.length a1) : Nat) : Int)))) then 
 bindO a1[(Int.toNat v2)]? fun x10 =>
 bif (decide (x10.2 > (1000 : Int))) then
 outO (outO (outO (outO (some ((([] : List ((List UInt8) × (Int × (Int × Int)))), ((0 : Int), (Bool.false, (Bool.false, Bool.false)))), (([] : List (Int × (Int × Int))), (2 : Int)))))))
 else
 some (Sum.inl ())
 else none
 else none
 else none) fun _ =>
 joinO (loopO (fun (v11, v12) =>
 bif (decide (v11 < (((List.length v3) : Nat) : Int))) then
 bif (decide (((0 : Int) ≤ v11) ∧ (v11 < (((List.length v3) : Nat) : Int)))) then 
 bindO v3[(Int.toNat v11)]? fun x13 =>
 bif (decide (((0 : Int) ≤ v2) ∧ (v2 < (((List.length a1) : Nat) : Int)))) then 
 bindO a1[(Int.toNat v2)]? fun x14 =>
 bif (decide (x13.1 = x14.1)) then
 outO (outO (outO (outO (outO (some ((([] : List ((List UInt8) × (Int × (Int × Int)))), ((0 : Int), (Bool.false, (Bool.false, Bool.false)))), (([] : List (Int × (Int × Int))), (7 : Int))))))))
 else
 bif (decide (((0 : Int) ≤ v11) ∧ (v11 < (((List.length v3) : Nat) : Int)))) then 
 bindO v3[(Int.toNat v11)]? fun x15 =>
 bif (decide (((0 : Int) ≤ v2) ∧ (v2 < (((List.length a1) : Nat) : Int)))) then 
 bindO a1[(Int.toNat v2)]? fun x16 =>
 bif (decide (x15.2.1 ≥ x16.2)) then
 some (Sum.inl ((Go.IntKind.wrap .i64 (v11 + (1 : Int))), (Go.IntKind.wrap .i64 (v11 + (1 : Int)))))
 else
 some (Sum.inl ((Go.IntKind.wrap .i64 (v11 + (1 : Int))), v12))
 else none
 else none
 else none
 else none
 else
 outO (some (Sum.inl (v11, v12)))) ((0 : Int), (0 : Int))) fun (v20, v21) =>
 bif (decide (((0 : Int) ≤ v21) ∧ (v21 ≤ (((List.length v3) : Nat) : Int)))) then 
 bif (decide ((Int.toNat v21) ≤ (List.length v3))) then 
 bif (decide (((List.length (List.take (Int.toNat v21) v3)) * 40) ≤ 140737488355328)) then 
 bindO (some (List.take (Int.toNat v21) v3)) fun x22 =>
 bif (decide (((0 : Int) ≤ v2) ∧ (v2 < (((List.length a1) : Nat) : Int)))) then 
 bindO a1[(Int.toNat v2)]? fun x23 =>
 bif (decide (((0 : Int) ≤ v2) ∧ (v2 < (((List.length a1) : Nat) : Int)))) then 
 bindO a1[(Int.toNat v2)]? fun x24 =>
 bif (decide ((List.length x22) ≤ (List.length x22))) then 
 bif (decide (((List.length ((List.take (List.length x22) x22) ++ ((x23.1, (x24.2, ((0 : Int), (0 : Int)))) :: ([] : List ((List UInt8) × (Int × (Int × Int))))))) * 40) ≤ 140737488355328)) then 
 bindO (some ((List.take (List.length x22) x22) ++ ((x23.1, (x24.2, ((0 : Int), (0 : Int)))) :: ([] : List ((List UInt8) × (Int × (Int × Int))))))) fun x25 =>
 bif (decide (((0 : Int) ≤ v21) ∧ (v21 ≤ (((List.length v3) : Nat) : Int)))) then 
 bif ((decide (((Int.toNat v21) + ((List.length v3) - (Int.toNat v21))) ≤ (List.length v3))) && (decide ((List.length x25) ≤ (List.length x25)))) then 
 bif (decide (((List.length ((List.take (List.length x25) x25) ++ (List.take ((List.length v3) - (Int.toNat v21)) (List.drop (Int.toNat v21) v3)))) * 40) ≤ 140737488355328)) then 
 bindO (some ((List.take (List.length x25) x25) ++ (List.take ((List.length v3) - (Int.toNat v21)) (List.drop (Int.toNat v21) v3)))) fun x26 =>
 bif (decide ((List.length x26) ≤ (List.length x26))) then 
 some (Sum.inl (v20, (v21, ((List.take (List.length x26) x26), (v4, (v5, (v6, v7)))))))
 else none
 else none
 else none
 else none
 else none
 else none
 else none
 else none
 else none
 else none
 else none) fun (v27, (v28, (v29, (v30, (v31, (v32, v33)))))) =>
 bif (decide ((List.length v29) ≤ (List.length v29))) then 
 some (Sum.inl ((Go.IntKind.wrap .i64 (v2 + (1 : Int))), ((List.take (List.length v29) v29), (v30, (v31, (v32, v33))))))
 else none
 else
 outO (bif (decide ((List.length v3) ≤ (List.length v3))) then 
 some (Sum.inl ((List.take (List.length v3) v3), (v4, (v5, (v6, v7)))))
 else none)) ((0 : Int), (([] : List ((List UInt8) × (Int × (Int × Int)))), ((-1 : Int), (Bool.false, (Bool.false, Bool.false)))))) fun (v35, (v36, (v37, (v38, v39)))) =>
 bif (decide ((List.length v35) ≤ (List.length v35))) then 
 bindO (dialtoneref23_goOn ((List.take (List.length v35) v35), (v36, (v37, (v38, v39))))) fun ((x41, (x42, (x43, (x44, x45)))), x46) =>
 some ((x41, (x42, (x43, (x44, x45)))), (x46, (0 : Int)))
 else none
noncomputable def cons12 : List (Nat × CE) := (14, ⟨[(.tmp 0 false [(.dat (.list (.pair (.int .u8) (.pair (.int .i64) (.int .i64)))))]), (.tmp 1 false [(.dat (.list (.pair (.int .u8) (.pair (.int .i64) (.int .i64)))))])], [(.tmp 0 false [(.dat .bool)])], dialtoneref23_SameActs⟩) :: cons14
theorem cons12_ok : ConL Try.prog cons12 := ⟨con14, cons14_ok⟩
theorem con12 : ConOk Try.prog 12 ⟨[(.tmp 0 false [(.dat (.list (.pair .str (.int .i64))))])], [(.tmp 0 true [(.dat (.list (.pair .str (.pair (.int .i64) (.pair (.int .u8) (.int .i64)))))), (.dat (.int .i64)), (.dat .bool), (.dat .bool), (.dat .bool)]), (.tmp 1 false [(.dat (.list (.pair (.int .u8) (.pair (.int .i64) (.int .i64)))))]), (.tmp 2 false [(.dat (.int .u8))])], dialtoneref23_New⟩ :=
  tree_ok (plan := planOf plan12) (eg := egNo) KK tabL_ok (conOf_ok cons12_ok) Try.func12 (by kernel_rfl) (by kernel_rfl) 10000 (fun a r h => Eq.trans (show _ = dialtoneref23_New a from by kernel_rfl) h)
def plan21 : List (Nat × PL) := [(635065662736647179655866221586, (.carry [.tmp 0 true [(.own 10000001 49 (.pair .str (.pair (.int .i64) (.pair (.int .u8) (.int .i64))))), (.dat (.int .i64)), (.dat .bool), (.dat .bool), (.dat .bool)], .tmp 1 false [(.dat (.list (.pair (.int .u8) (.pair (.int .i64) (.int .i64)))))], .dead 20])), (166478653092435638263707394921202709, (.carry [.tmp 0 true [(.dat (.list (.pair .str (.pair (.int .i64) (.pair (.int .u8) (.int .i64)))))), (.dat (.int .i64)), (.dat .bool), (.dat .bool), (.dat .bool)], .tmp 1 false [(.own 10000002 53 (.pair (.int .u8) (.pair (.int .i64) (.int .i64))))], .dead 20])), (43641380036263447957001311334223891923987, (.carry [.tmp 0 true [(.dat (.list (.pair .str (.pair (.int .i64) (.pair (.int .u8) (.int .i64)))))), (.dat (.int .i64)), (.dat .bool), (.dat .bool), (.dat .bool)], .tmp 1 false [(.own 10000003 53 (.pair (.int .u8) (.pair (.int .i64) (.int .i64))))], .dead 20])), (43641380036263447957001311300207482503681, (.carry [.row 20 49 (.pair .str (.pair (.int .i64) (.pair (.int .u8) (.int .i64))))])), (5857446875251837594234957700300162106572881003009, (.carry [.tmp 8 false [(.own 10000004 53 (.pair (.int .u8) (.pair (.int .i64) (.int .i64))))], .mix 43 [(.dat (.list (.pair .str (.pair (.int .i64) (.pair (.int .u8) (.int .i64)))))), (.dat (.int .i64)), (.dat .bool), (.dat .bool), (.dat .bool)], .dead 20])), (1535494553666017714303128751387490233183131167409570305, (.carry [])), (1535494553666017714303128751387485695265441317652531201, (.carry [.tmp 25 false [(.dat .bool)]])), (402520684276224547698279383403722239687558736749414397773825, (.carry [.tmp 25 false [(.dat .bool)]]))]
noncomputable def dialtoneref23_Step : (((List ((List UInt8) × (Int × (Int × Int)))) × (Int × (Bool × (Bool × Bool)))) × (Int × (Int × Int))) → Option (((List ((List UInt8) × (Int × (Int × Int)))) × (Int × (Bool × (Bool × Bool)))) × ((List (Int × (Int × Int))) × Int)) := fun ((a1, (a2, (a3, (a4, a5)))), (a6, (a7, a8))) =>
 bindO (dialtoneref23_wrong ((a1, (a2, (a3, (a4, a5)))), (a6, (a7, a8)))) fun x9 =>
 bif (decide (x9 ≠ (0 : Int))) then
 some ((([] : List ((List UInt8) × (Int × (Int × Int)))), ((0 : Int), (Bool.false, (Bool.false, Bool.false)))), (([] : List (Int × (Int × Int))), x9))
 else
 bif (decide (((List.length a1) * 40) ≤ 140737488355328)) then 
 bif (decide (a6 = (1 : Int))) then
 joinO (bif (decide (((0 : Int) ≤ a7) ∧ (a7 < (((List.length a1) : Nat) : Int)))) then 
 bindO a1[(Int.toNat a7)]? fun x11 =>
 bif (decide (x11.2.2.1 = (3 : Int))) then
 bindO a1[(Int.toNat a7)]? fun x12 =>
 bif ((decide ((List.length a1) ≤ (List.length (List.set a1 (Int.toNat a7) (x12.1, (x12.2.1, ((4 : Int), x12.2.2.2))))))) && Bool.true) then 
 some (Sum.inl (((List.take (List.length a1) (List.set a1 (Int.toNat a7) (x12.1, (x12.2.1, ((4 : Int), x12.2.2.2))))), (a2, (a3, (a4, a5)))), (((2 : Int), (a7, (0 : Int))) :: ([] : List (Int × (Int × Int))))))
 else none
 else
 joinO (bindO a1[(Int.toNat a7)]? fun x13 =>
 bif (decide (x13.2.2.1 = (1 : Int))) then
 bindO a1[(Int.toNat a7)]? fun x14 =>
 some (Sum.inl (List.set a1 (Int.toNat a7) (x14.1, (x14.2.1, ((2 : Int), x14.2.2.2)))))
 else
 some (Sum.inl a1)) fun v15 =>
 bindO v15[(Int.toNat a7)]? fun x16 =>
 bif (decide (x16.2.2.1 = (2 : Int))) then
 bif (decide (a8 > (100 : Int))) then
 bif ((decide ((List.length a1) ≤ (List.length v15))) && Bool.true) then 
 some (Sum.inl (((List.take (List.length a1) v15), (a2, (a3, (a4, a5)))), (((3 : Int), (a7, a8)) :: ([] : List (Int × (Int × Int))))))
 else none
 else
 bif (decide ((List.length a1) ≤ (List.length v15))) then 
 some (Sum.inl (((List.take (List.length a1) v15), (a2, (a3, (a4, a5)))), ([] : List (Int × (Int × Int)))))
 else none
 else
 bif (decide ((List.length a1) ≤ (List.length v15))) then 
 some (Sum.inl (((List.take (List.length a1) v15), (a2, (a3, (a4, a5)))), ([] : List (Int × (Int × Int)))))
 else none
 else none) fun ((v17, (v18, (v19, (v20, v21)))), v22) =>
 bif (decide ((List.length v17) ≤ (List.length v17))) then 
 some (((List.take (List.length v17) v17), (v18, (v19, (v20, v21)))), (v22, (0 : Int)))
 else none
 else
 bif (decide (a6 = (2 : Int))) then
 joinO (bif (decide (((0 : Int) ≤ a7) ∧ (a7 < (((List.length a1) : Nat) : Int)))) then 
 bindO a1[(Int.toNat a7)]? fun x23 =>
 bif (decide (((0 : Int) ≤ a7) ∧ (a7 < (((List.length a1) : Nat) : Int)))) then 
 bindO (List.set a1 (Int.toNat a7) (x23.1, (x23.2.1, ((5 : Int), x23.2.2.2))))[(Int.toNat a7)]? fun x24 =>
 joinO (joinO (bif (decide (a8 < (300 : Int))) then
 bif (!a5) then
 some (Sum.inl (!a3))
 else
 some (Sum.inl Bool.false)
 else
 some (Sum.inl Bool.false)) fun v25 =>
 bif v25 then
 bif (decide ((List.length a1) ≤ (List.length (List.set (List.set a1 (Int.toNat a7) (x23.1, (x23.2.1, ((5 : Int), x23.2.2.2)))) (Int.toNat a7) (x24.1, (x24.2.1, (x24.2.2.1, a8))))))) then 
 bindO (dialtoneref23_stop ((List.take (List.length a1) (List.set (List.set a1 (Int.toNat a7) (x23.1, (x23.2.1, ((5 : Int), x23.2.2.2)))) (Int.toNat a7) (x24.1, (x24.2.1, (x24.2.2.1, a8))))), (a7, (a3, (Bool.true, Bool.true))))) fun ((x27, (x28, (x29, (x30, x31)))), x32) =>
 bindO (some (((4 : Int), (a7, a8)) :: ([] : List (Int × (Int × Int))))) fun x33 =>
 bindO (dialtoneref23_skip (x27, (x28, (x29, (x30, x31))))) fun (x35, (x36, (x37, (x38, x39)))) =>
 bif (decide ((List.length x33) ≤ (List.length x33))) then 
 bif (decide (((List.length ((List.take (List.length x33) x33) ++ x32)) * 24) ≤ 140737488355328)) then 
 bindO (some ((List.take (List.length x33) x33) ++ x32)) fun x40 =>
 outO (bif (decide ((List.length x40) ≤ (List.length x40))) then 
 some (Sum.inl ((x35, (x36, (x37, (x38, x39)))), (List.take (List.length x40) x40)))
 else none)
 else none
 else none
 else none
 else
 bif (decide (a8 < (300 : Int))) then
 bindO (some (((5 : Int), (a7, a8)) :: ([] : List (Int × (Int × Int))))) fun x41 =>
 bif ((decide ((List.length x41) ≤ (List.length x41))) && (decide ((List.length a1) ≤ (List.length (List.set (List.set a1 (Int.toNat a7) (x23.1, (x23.2.1, ((5 : Int), x23.2.2.2)))) (Int.toNat a7) (x24.1, (x24.2.1, (x24.2.2.1, a8)))))))) then 
 some (Sum.inl ((List.take (List.length x41) x41), ((List.take (List.length a1) (List.set (List.set a1 (Int.toNat a7) (x23.1, (x23.2.1, ((5 : Int), x23.2.2.2)))) (Int.toNat a7) (x24.1, (x24.2.1, (x24.2.2.1, a8))))), (a2, (a3, (a4, a5))))))
 else none
 else
 bif (decide (a8 ≥ (600 : Int))) then
 bif (decide ((List.length a1) ≤ (List.length (List.set (List.set a1 (Int.toNat a7) (x23.1, (x23.2.1, ((5 : Int), x23.2.2.2)))) (Int.toNat a7) (x24.1, (x24.2.1, (x24.2.2.1, a8))))))) then 
 bindO (dialtoneref23_stop ((List.take (List.length a1) (List.set (List.set a1 (Int.toNat a7) (x23.1, (x23.2.1, ((5 : Int), x23.2.2.2)))) (Int.toNat a7) (x24.1, (x24.2.1, (x24.2.2.1, a8))))), (a2, (a3, (Bool.true, a5))))) fun ((x43, (x44, (x45, (x46, x47)))), x48) =>
 bif (decide (((List.length x48) * 24) ≤ 140737488355328)) then 
 bif (decide ((List.length x48) ≤ (List.length x48))) then 
 some (Sum.inl ((List.take (List.length x48) x48), (x43, (x44, (x45, (x46, x47))))))
 else none
 else none
 else none
 else
 bif (decide ((List.length a1) ≤ (List.length (List.set (List.set a1 (Int.toNat a7) (x23.1, (x23.2.1, ((5 : Int), x23.2.2.2)))) (Int.toNat a7) (x24.1, (x24.2.1, (x24.2.2.1, a8))))))) then 
 some (Sum.inl (([] : List (Int × (Int × Int))), ((List.take (List.length a1) (List.set (List.set a1 (Int.toNat a7) (x23.1, (x23.2.1, ((5 : Int), x23.2.2.2)))) (Int.toNat a7) (x24.1, (x24.2.1, (x24.2.2.1, a8))))), (a2, (a3, (a4, a5))))))
 else none) fun (v50, (v51, (v52, (v53, (v54, v55))))) =>
 bindO (dialtoneref23_goOn (v51, (v52, (v53, (v54, v55))))) fun ((x57, (x58, (x59, (x60, x61)))), x62) =>
 bif (decide ((List.length v50) ≤ (List.length v50))) then 
 bif (decide (((List.length ((List.take (List.length v50) v50) ++ x62)) * 24) ≤ 140737488355328)) then 
 bindO (some ((List.take (List.length v50) v50) ++ x62)) fun x63 =>
 bif (decide ((List.length x63) ≤ (List.length x63))) then 
 some (Sum.inl ((x57, (x58, (x59, (x60, x61)))), (List.take (List.length x63) x63)))
 else none
 else none
 else none
 else none
 else none) fun ((v64, (v65, (v66, (v67, v68)))), v69) =>
 bif (decide ((List.length v69) ≤ (List.length v69))) then 
 some ((v64, (v65, (v66, (v67, v68)))), ((List.take (List.length v69) v69), (0 : Int)))
 else none
 else
 bif (decide (a6 = (3 : Int))) then
 joinO (bif (decide (((0 : Int) ≤ a7) ∧ (a7 < (((List.length a1) : Nat) : Int)))) then 
 bindO a1[(Int.toNat a7)]? fun x70 =>
 bif (decide (((0 : Int) ≤ a7) ∧ (a7 < (((List.length a1) : Nat) : Int)))) then 
 bindO (List.set a1 (Int.toNat a7) (x70.1, (x70.2.1, ((5 : Int), x70.2.2.2))))[(Int.toNat a7)]? fun x71 =>
 joinO (joinO (some (Sum.inl Bool.false)) fun v72 =>
 bif v72 then
 bif (decide ((List.length a1) ≤ (List.length (List.set (List.set a1 (Int.toNat a7) (x70.1, (x70.2.1, ((5 : Int), x70.2.2.2)))) (Int.toNat a7) (x71.1, (x71.2.1, (x71.2.2.1, (408 : Int)))))))) then 
 bindO (dialtoneref23_stop ((List.take (List.length a1) (List.set (List.set a1 (Int.toNat a7) (x70.1, (x70.2.1, ((5 : Int), x70.2.2.2)))) (Int.toNat a7) (x71.1, (x71.2.1, (x71.2.2.1, (408 : Int)))))), (a7, (a3, (Bool.true, Bool.true))))) fun ((x74, (x75, (x76, (x77, x78)))), x79) =>
 bindO (some (((4 : Int), (a7, (408 : Int))) :: ([] : List (Int × (Int × Int))))) fun x80 =>
 bindO (dialtoneref23_skip (x74, (x75, (x76, (x77, x78))))) fun (x82, (x83, (x84, (x85, x86)))) =>
 bif (decide ((List.length x80) ≤ (List.length x80))) then 
 bif (decide (((List.length ((List.take (List.length x80) x80) ++ x79)) * 24) ≤ 140737488355328)) then 
 bindO (some ((List.take (List.length x80) x80) ++ x79)) fun x87 =>
 outO (bif (decide ((List.length x87) ≤ (List.length x87))) then 
 some (Sum.inl ((x82, (x83, (x84, (x85, x86)))), (List.take (List.length x87) x87)))
 else none)
 else none
 else none
 else none
 else
 some (Sum.inl ())) fun _ =>
 bif (decide ((List.length a1) ≤ (List.length (List.set (List.set a1 (Int.toNat a7) (x70.1, (x70.2.1, ((5 : Int), x70.2.2.2)))) (Int.toNat a7) (x71.1, (x71.2.1, (x71.2.2.1, (408 : Int)))))))) then 
 bindO (dialtoneref23_goOn ((List.take (List.length a1) (List.set (List.set a1 (Int.toNat a7) (x70.1, (x70.2.1, ((5 : Int), x70.2.2.2)))) (Int.toNat a7) (x71.1, (x71.2.1, (x71.2.2.1, (408 : Int)))))), (a2, (a3, (a4, a5))))) fun ((x89, (x90, (x91, (x92, x93)))), x94) =>
 bif (decide (((List.length x94) * 24) ≤ 140737488355328)) then 
 bif (decide ((List.length x94) ≤ (List.length x94))) then 
 some (Sum.inl ((x89, (x90, (x91, (x92, x93)))), (List.take (List.length x94) x94)))
 else none
 else none
 else none
 else none
 else none) fun ((v96, (v97, (v98, (v99, v100)))), v101) =>
 bif (decide ((List.length v101) ≤ (List.length v101))) then 
 some ((v96, (v97, (v98, (v99, v100)))), ((List.take (List.length v101) v101), (0 : Int)))
 else none
 else
 bif (decide (a6 = (4 : Int))) then
 bif (decide ((List.length a1) ≤ (List.length a1))) then 
 bindO (dialtoneref23_stop ((List.take (List.length a1) a1), (a2, (Bool.true, (Bool.true, a5))))) fun ((x103, (x104, (x105, (x106, x107)))), x108) =>
 some ((x103, (x104, (x105, (x106, x107)))), (x108, (0 : Int)))
 else none
 else
 bif (decide ((List.length a1) ≤ (List.length a1))) then 
 some (((List.take (List.length a1) a1), (a2, (a3, (a4, a5)))), (([] : List (Int × (Int × Int))), (0 : Int)))
 else none
 else none
noncomputable def cons21 : List (Nat × CE) := (12, ⟨[(.tmp 0 false [(.dat (.list (.pair .str (.int .i64))))])], [(.tmp 0 true [(.dat (.list (.pair .str (.pair (.int .i64) (.pair (.int .u8) (.int .i64)))))), (.dat (.int .i64)), (.dat .bool), (.dat .bool), (.dat .bool)]), (.tmp 1 false [(.dat (.list (.pair (.int .u8) (.pair (.int .i64) (.int .i64)))))]), (.tmp 2 false [(.dat (.int .u8))])], dialtoneref23_New⟩) :: cons12
theorem cons21_ok : ConL Try.prog cons21 := ⟨con12, cons12_ok⟩
theorem con21 : ConOk Try.prog 21 ⟨[(.tmp 0 true [(.dat (.list (.pair .str (.pair (.int .i64) (.pair (.int .u8) (.int .i64)))))), (.dat (.int .i64)), (.dat .bool), (.dat .bool), (.dat .bool)]), (.tmp 1 true [(.dat (.int .u8)), (.dat (.int .i64)), (.dat (.int .i64))])], [(.tmp 0 true [(.dat (.list (.pair .str (.pair (.int .i64) (.pair (.int .u8) (.int .i64)))))), (.dat (.int .i64)), (.dat .bool), (.dat .bool), (.dat .bool)]), (.tmp 1 false [(.dat (.list (.pair (.int .u8) (.pair (.int .i64) (.int .i64)))))]), (.tmp 2 false [(.dat (.int .u8))])], dialtoneref23_Step⟩ :=
  tree_ok (plan := planOf plan21) (eg := egNo) KK tabL_ok (conOf_ok cons21_ok) Try.func21 (by kernel_rfl) (by kernel_rfl) 10000 (fun a r h => Eq.trans (show _ = dialtoneref23_Step a from by kernel_rfl) h)
end Go.Proofs.Ytheicchelhjcjaa
