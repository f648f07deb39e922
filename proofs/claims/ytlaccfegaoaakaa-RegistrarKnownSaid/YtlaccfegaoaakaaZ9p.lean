import Derived.Test.YtlaccfegaoaakaaFp
import Derived.Test.YtlaccfegaoaakaaXBp
import Derived.Test.YtlaccfegaoaakaaZ1p
set_option linter.unusedVariables false
set_option maxRecDepth 1000000
set_option maxHeartbeats 0
namespace Go.Proofs.Ytlaccfegaoaakaa
open Go.RowKit
def plan94 : List (Nat × PL) := [(134480385, (.carry [.tmp 3 false [(.dat (.int .u32))]])), (18049651601311750, (.carry [.tmp 9 false [(.dat (.int .i64))], .tmp 3 false [(.dat (.int .u32))]])), (2422583229119624904966657, (.carry [.tmp 3 false [(.dat (.int .u32))], .tmp 5 false [(.dat (.int .u8))]])), (43641379711748622625774587972117695039494, (.carry [.tmp 17 false [(.dat (.int .i64))], .tmp 3 false [(.dat (.int .u32))]]))]
noncomputable def journal_Check : (List Int) → Option Int := fun a1 =>
 joinO (loopO (fun (v2, v3) =>
 bif (decide (v2 < (((List.length a1) : Nat) : Int))) then
 joinO (bif (decide (((0 : Int) ≤ v2) ∧ (v2 < (((List.length a1) : Nat) : Int)))) then 
 bindO a1[(Int.toNat v2)]? fun x4 =>
 loopO (fun (v7, v8) =>
 bif (decide (v7 < (8 : Int))) then
 bindO (some (Go.IntKind.wrap .u32 (Int.tdiv v8 (2 : Int)))) fun x10 =>
 bif (decide ((Go.IntKind.wrap .u32 (((BitVec.toNat ((BitVec.ofInt 32 v8) &&& (BitVec.ofInt 32 (1 : Int)))) : Nat) : Int)) = (1 : Int))) then
 some (Sum.inl ((Go.IntKind.wrap .i64 (v7 + (1 : Int))), (Go.IntKind.wrap .u32 (((BitVec.toNat ((BitVec.ofInt 32 x10) ^^^ (BitVec.ofInt 32 (3988292384 : Int)))) : Nat) : Int))))
 else
 some (Sum.inl ((Go.IntKind.wrap .i64 (v7 + (1 : Int))), x10))
 else
 outO (some (Sum.inl (v8, x4)))) ((0 : Int), (Go.IntKind.wrap .u32 (((BitVec.toNat ((BitVec.ofInt 32 v3) ^^^ (BitVec.ofInt 32 (Go.IntKind.wrap .u32 x4)))) : Nat) : Int)))
 else none) fun (v14, v15) =>
 some (Sum.inl ((Go.IntKind.wrap .i64 (v2 + (1 : Int))), v14))
 else
 outO (some (Sum.inl v3))) ((0 : Int), (4294967295 : Int))) fun v17 =>
 some (Go.IntKind.wrap .u32 (((BitVec.toNat ((BitVec.ofInt 32 (4294967295 : Int)) ^^^ (BitVec.ofInt 32 v17))) : Nat) : Int))
noncomputable def cons94 : List (Nat × CE) := [(9, ⟨[], riB, (fun _ => some true)⟩), (34, ⟨[(.tmp 0 false [(.dat (.int .i64))]), (.tmp 1 false [(.dat (.int .i64))]), (.tmp 2 false [(.dat (.int .i64))])], [(.tmp 0 false [(.dat .bool)])], registrar_within⟩), (10, ⟨[(.tmp 0 true [(.dat (.int .i64)), (.dat (.int .i64)), (.dat (.int .i64)), (.dat (.int .i64))])], [(.tmp 0 false [(.dat .bool)])], registrar_Valid⟩), (12, ⟨[(.tmp 0 true [(.dat .str), (.dat .str), (.dat (.int .i64)), (.dat .bool), (.dat (.list (.pair .str (.pair (.int .i64) (.int .i64))))), (.dat (.int .i64)), (.dat .str), (.dat (.int .i64)), (.dat (.list .str))])], [(.tmp 0 false [(.dat .bool)])], registrar_Formed⟩), (33, ⟨[(.tmp 0 false [(.dat (.int .i64))]), (.tmp 1 false [(.dat (.int .i64))]), (.tmp 2 false [(.dat (.int .i64))])], [(.tmp 0 false [(.dat .bool)])], dialtoneref22_within⟩), (11, ⟨[(.tmp 0 true [(.dat (.int .i64)), (.dat (.int .i64)), (.dat (.int .i64)), (.dat (.int .i64))])], [(.tmp 0 false [(.dat .bool)])], dialtoneref22_Valid⟩), (39, ⟨[(.tmp 0 true [(.dat .str), (.dat .str), (.dat (.int .i64)), (.dat .bool), (.dat (.list (.pair .str (.pair (.int .i64) (.int .i64))))), (.dat (.int .i64)), (.dat .str), (.dat (.int .i64)), (.dat (.list .str))])], [(.tmp 0 false [(.dat .bool)])], dialtoneref22_contacts⟩), (13, ⟨[(.tmp 0 true [(.dat .str), (.dat .str), (.dat (.int .i64)), (.dat .bool), (.dat (.list (.pair .str (.pair (.int .i64) (.int .i64))))), (.dat (.int .i64)), (.dat .str), (.dat (.int .i64)), (.dat (.list .str))])], [(.tmp 0 false [(.dat .bool)])], dialtoneref22_Formed⟩), (8, ⟨[(.tmp 0 true [(.dat .str), (.dat .str), (.dat (.int .i64)), (.dat .bool), (.dat (.list (.pair .str (.pair (.int .i64) (.int .i64))))), (.dat (.int .i64)), (.dat .str), (.dat (.int .i64)), (.dat (.list .str))])], [(.tmp 0 false [(.dat .bool)])], dialtonelaw22_few⟩), (3, ⟨[(.tmp 0 true [(.dat (.int .i64)), (.dat (.int .i64)), (.dat (.int .i64)), (.dat (.int .i64))]), (.tmp 1 true [(.dat .str), (.dat .str), (.dat (.int .i64)), (.dat .bool), (.dat (.list (.pair .str (.pair (.int .i64) (.int .i64))))), (.dat (.int .i64)), (.dat .str), (.dat (.int .i64)), (.dat (.list .str))])], [(.tmp 0 false [(.dat .bool)])], dialtonelaw22_RegistrarForms⟩)]
theorem cons94_ok : ConL Try.prog cons94 := ⟨con_true (by kernel_rfl) lives_o, con34, con10, con12, con33, con11, con39, con13, con8, con3, trivial⟩
theorem con94 : ConOk Try.prog 94 ⟨[(.tmp 0 false [(.dat (.list (.int .u8)))])], [(.tmp 0 false [(.dat (.int .u32))])], journal_Check⟩ :=
  tree_ok (plan := planOf plan94) (eg := egNo) KK tabL_ok (conOf_ok cons94_ok) Try.func94 (by kernel_rfl) (by kernel_rfl) 10000 (fun a r h => Eq.trans (show _ = journal_Check a from by kernel_rfl) h)
end Go.Proofs.Ytlaccfegaoaakaa
