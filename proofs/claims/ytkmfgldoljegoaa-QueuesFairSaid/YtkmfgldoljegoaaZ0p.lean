import Derived.Test.YtkmfgldoljegoaaFp
import Derived.Test.YtkmfgldoljegoaaXBp
import Derived.Test.YtkmfgldoljegoaaLp
set_option linter.unusedVariables false
set_option maxRecDepth 1000000
set_option maxHeartbeats 0
namespace Go.Proofs.Ytkmfgldoljegoaa
open Go.RowKit
def plan57 : List (Nat × PL) := []
noncomputable def queues_within : (Int × (Int × Int)) → Option Bool := fun (a1, (a2, a3)) =>
 bif (decide (a1 ≥ a2)) then
 some (decide (a1 ≤ a3))
 else
 some Bool.false
noncomputable def cons57 : List (Nat × CE) := (14, ⟨[], riB, (fun _ => some true)⟩) :: []
theorem cons57_ok : ConL Try.prog cons57 := ⟨con_true (by kernel_rfl) works_o, trivial⟩
theorem con57 : ConOk Try.prog 57 ⟨[(.tmp 0 false [(.dat (.int .i64))]), (.tmp 1 false [(.dat (.int .i64))]), (.tmp 2 false [(.dat (.int .i64))])], [(.tmp 0 false [(.dat .bool)])], queues_within⟩ :=
  tree_ok (plan := planOf plan57) (eg := egNo) KK tabL_ok (conOf_ok cons57_ok) Try.func57 (by kernel_rfl) (by kernel_rfl) 10000 (fun a r h => Eq.trans (show _ = queues_within a from by kernel_rfl) h)
def plan87 : List (Nat × PL) := []
noncomputable def dialtoneref36_id : Int → Option Bool := fun a1 =>
 bif (decide (a1 ≥ (1 : Int))) then
 some (decide (a1 ≤ (2147483647 : Int)))
 else
 some Bool.false
noncomputable def cons87 : List (Nat × CE) := (57, ⟨[(.tmp 0 false [(.dat (.int .i64))]), (.tmp 1 false [(.dat (.int .i64))]), (.tmp 2 false [(.dat (.int .i64))])], [(.tmp 0 false [(.dat .bool)])], queues_within⟩) :: cons57
theorem cons87_ok : ConL Try.prog cons87 := ⟨con57, cons57_ok⟩
theorem con87 : ConOk Try.prog 87 ⟨[(.tmp 0 false [(.dat (.int .i64))])], [(.tmp 0 false [(.dat .bool)])], dialtoneref36_id⟩ :=
  tree_ok (plan := planOf plan87) (eg := egNo) KK tabL_ok (conOf_ok cons87_ok) Try.func87 (by kernel_rfl) (by kernel_rfl) 10000 (fun a r h => Eq.trans (show _ = dialtoneref36_id a from by kernel_rfl) h)
def plan74 : List (Nat × PL) := []
noncomputable def dialtoneref36_from : (Int × (Int × Int)) → Option Bool := fun (a1, (a2, a3)) =>
 bif (decide (a1 ≥ a2)) then
 some (decide (a1 ≤ a3))
 else
 some Bool.false
noncomputable def cons74 : List (Nat × CE) := (87, ⟨[(.tmp 0 false [(.dat (.int .i64))])], [(.tmp 0 false [(.dat .bool)])], dialtoneref36_id⟩) :: cons87
theorem cons74_ok : ConL Try.prog cons74 := ⟨con87, cons87_ok⟩
theorem con74 : ConOk Try.prog 74 ⟨[(.tmp 0 false [(.dat (.int .i64))]), (.tmp 1 false [(.dat (.int .i64))]), (.tmp 2 false [(.dat (.int .i64))])], [(.tmp 0 false [(.dat .bool)])], dialtoneref36_from⟩ :=
  tree_ok (plan := planOf plan74) (eg := egNo) KK tabL_ok (conOf_ok cons74_ok) Try.func74 (by kernel_rfl) (by kernel_rfl) 10000 (fun a r h => Eq.trans (show _ = dialtoneref36_from a from by kernel_rfl) h)
end Go.Proofs.Ytkmfgldoljegoaa
