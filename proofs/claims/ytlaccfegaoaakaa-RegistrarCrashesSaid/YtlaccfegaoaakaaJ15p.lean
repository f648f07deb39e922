import Derived.Test.YtlaccfegaoaakaaJ14p
import Derived.Test.YtlaccfegaoaakaaB4p
import Derived.Test.YtlaccfegaoaakaaXBp
import Derived.Test.YtlaccfegaoaakaaZ2p
import Derived.Test.YtlaccfegaoaakaaJ10p
set_option linter.unusedSectionVars false
set_option linter.unusedSimpArgs false
set_option linter.unusedVariables false
set_option maxRecDepth 100000
set_option maxHeartbeats 4000000
namespace Go.Proofs.Ytlaccfegaoaakaa
open Go.RowKit
theorem enc_ends (now:Int) (a1 a2:Tx) (a3:Int) (a4:Bool) (a5:List Ct) (a6:Int) (a7:Tx) (a8:Int) (a9:List Tx):∃E e,registrar_EncodeAct (now,(a1,(a2,(a3,(a4,(a5,(a6,(a7,(a8,a9)))))))))=some (E,e)∧encR (now,(a1,(a2,(a3,(a4,(a5,(a6,(a7,(a8,a9)))))))))=some (E,e)∧(e=0→EOK now a1 a2 a3 a4 a5 a6 a7 a8 a9∧E=ENC now a1 a2 a3 a4 a5 a6 a7 a8 a9∧E.length≤4096)∧(EOK now a1 a2 a3 a4 a5 a6 a7 a8 a9→e=4∨(e=0∧E=ENC now a1 a2 a3 a4 a5 a6 a7 a8 a9)):=by
 by_cases h:EOK now a1 a2 a3 a4 a5 a6 a7 a8 a9
 ·by_cases g:((ENC now a1 a2 a3 a4 a5 a6 a7 a8 a9).length:Int) > 4096
  ·exact ⟨[],4,by rw [encP_j h,if_pos g],by rw [encR_j h,if_pos g],fun q=>absurd q (by decide),fun _ => .inl rfl⟩
  ·exact ⟨_,0,by rw [encP_j h,if_neg g],by rw [encR_j h,if_neg g],fun _=>⟨h,rfl,by omega⟩,fun _ => .inr ⟨rfl,rfl⟩⟩
 ·exact ⟨[],2,encP_no h,encR_no h,fun q=>absurd q (by decide),fun q=>absurd q h⟩
end Go.Proofs.Ytlaccfegaoaakaa
