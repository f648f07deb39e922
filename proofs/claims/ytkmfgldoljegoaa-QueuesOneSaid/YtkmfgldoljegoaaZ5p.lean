import Derived.Test.YtkmfgldoljegoaaFp
import Derived.Test.YtkmfgldoljegoaaXBp
import Derived.Test.YtkmfgldoljegoaaZ3p
import Derived.Test.YtkmfgldoljegoaaR1p
set_option linter.unusedVariables false
set_option maxRecDepth 1000000
set_option maxHeartbeats 0
namespace Go.Proofs.Ytkmfgldoljegoaa
open Go.RowKit
noncomputable def dialtoneref36_Advance : (((List Ca) × ((List Se) × Se)) × Int) → Option (((List Ca) × ((List Se) × Se)) × ((List Ac) × Int)) := fun ((a1, (a2, (a3, (a4, (a5, (a6, a7)))))), a8) => dbegB a1 a2 a3 a4 a5 a6 a7 1 a8 (dAdvanceR a8)
noncomputable def dialtoneref36_Join : (((List Ca) × ((List Se) × Se)) × (Int × (Int × Int))) → Option (((List Ca) × ((List Se) × Se)) × ((List Ac) × Int)) := fun ((a1, (a2, (a3, (a4, (a5, (a6, a7)))))), (a8, (a9, a10))) => dbegB a1 a2 a3 a4 a5 a6 a7 a8 a10 (dJoinR a8 a9 a10)
noncomputable def dialtoneref36_Leave : (((List Ca) × ((List Se) × Se)) × (Int × Int)) → Option (((List Ca) × ((List Se) × Se)) × ((List Ac) × Int)) := fun ((a1, (a2, (a3, (a4, (a5, (a6, a7)))))), (a8, a9)) => dbegB a1 a2 a3 a4 a5 a6 a7 a8 a9 (dLeaveR a8 a9)
noncomputable def dialtoneref36_Login : (((List Ca) × ((List Se) × Se)) × (Int × Int)) → Option (((List Ca) × ((List Se) × Se)) × ((List Ac) × Int)) := fun ((a1, (a2, (a3, (a4, (a5, (a6, a7)))))), (a8, a9)) => dbegB a1 a2 a3 a4 a5 a6 a7 a8 a9 (dLoginR a8 a9)
noncomputable def dialtoneref36_Logout : (((List Ca) × ((List Se) × Se)) × (Int × Int)) → Option (((List Ca) × ((List Se) × Se)) × ((List Ac) × Int)) := fun ((a1, (a2, (a3, (a4, (a5, (a6, a7)))))), (a8, a9)) => dbegB a1 a2 a3 a4 a5 a6 a7 a8 a9 (dLogoutR a8 a9)
noncomputable def dialtoneref36_Accept : (((List Ca) × ((List Se) × Se)) × (Int × Int)) → Option (((List Ca) × ((List Se) × Se)) × ((List Ac) × Int)) := fun ((a1, (a2, (a3, (a4, (a5, (a6, a7)))))), (a8, a9)) => dbegB a1 a2 a3 a4 a5 a6 a7 a8 a9 (dAcceptR a8 a9)
noncomputable def dialtoneref36_Refuse : (((List Ca) × ((List Se) × Se)) × (Int × Int)) → Option (((List Ca) × ((List Se) × Se)) × ((List Ac) × Int)) := fun ((a1, (a2, (a3, (a4, (a5, (a6, a7)))))), (a8, a9)) => dbegB a1 a2 a3 a4 a5 a6 a7 a8 a9 (dRefuseR a8 a9)
noncomputable def dialtoneref36_Done : (((List Ca) × ((List Se) × Se)) × (Int × Int)) → Option (((List Ca) × ((List Se) × Se)) × ((List Ac) × Int)) := fun ((a1, (a2, (a3, (a4, (a5, (a6, a7)))))), (a8, a9)) => dbegB a1 a2 a3 a4 a5 a6 a7 a8 a9 (dDoneR a8 a9)
theorem dLeave_eq (a1 : List Ca) (a2 : List Se) (a3 a4 a5 a6 a7 a8 a9 : Int) : dialtoneref36_Leave ((a1, (a2, (a3, (a4, (a5, (a6, a7)))))), (a8, a9)) = dbegB a1 a2 a3 a4 a5 a6 a7 a8 a9 (dLeaveR a8 a9) := rfl
theorem dAdvance_eq (a1 : List Ca) (a2 : List Se) (a3 a4 a5 a6 a7 a8 : Int) : dialtoneref36_Advance ((a1, (a2, (a3, (a4, (a5, (a6, a7)))))), a8) = dbegB a1 a2 a3 a4 a5 a6 a7 1 a8 (dAdvanceR a8) := rfl
theorem dJoin_eq (a1 : List Ca) (a2 : List Se) (a3 a4 a5 a6 a7 a8 a9 a10 : Int) : dialtoneref36_Join ((a1, (a2, (a3, (a4, (a5, (a6, a7)))))), (a8, (a9, a10))) = dbegB a1 a2 a3 a4 a5 a6 a7 a8 a10 (dJoinR a8 a9 a10) := rfl
theorem dLogin_eq (a1 : List Ca) (a2 : List Se) (a3 a4 a5 a6 a7 a8 a9 : Int) : dialtoneref36_Login ((a1, (a2, (a3, (a4, (a5, (a6, a7)))))), (a8, a9)) = dbegB a1 a2 a3 a4 a5 a6 a7 a8 a9 (dLoginR a8 a9) := rfl
theorem dLogout_eq (a1 : List Ca) (a2 : List Se) (a3 a4 a5 a6 a7 a8 a9 : Int) : dialtoneref36_Logout ((a1, (a2, (a3, (a4, (a5, (a6, a7)))))), (a8, a9)) = dbegB a1 a2 a3 a4 a5 a6 a7 a8 a9 (dLogoutR a8 a9) := rfl
theorem dAccept_eq (a1 : List Ca) (a2 : List Se) (a3 a4 a5 a6 a7 a8 a9 : Int) : dialtoneref36_Accept ((a1, (a2, (a3, (a4, (a5, (a6, a7)))))), (a8, a9)) = dbegB a1 a2 a3 a4 a5 a6 a7 a8 a9 (dAcceptR a8 a9) := rfl
theorem dRefuse_eq (a1 : List Ca) (a2 : List Se) (a3 a4 a5 a6 a7 a8 a9 : Int) : dialtoneref36_Refuse ((a1, (a2, (a3, (a4, (a5, (a6, a7)))))), (a8, a9)) = dbegB a1 a2 a3 a4 a5 a6 a7 a8 a9 (dRefuseR a8 a9) := rfl
theorem dDone_eq (a1 : List Ca) (a2 : List Se) (a3 a4 a5 a6 a7 a8 a9 : Int) : dialtoneref36_Done ((a1, (a2, (a3, (a4, (a5, (a6, a7)))))), (a8, a9)) = dbegB a1 a2 a3 a4 a5 a6 a7 a8 a9 (dDoneR a8 a9) := rfl
end Go.Proofs.Ytkmfgldoljegoaa
