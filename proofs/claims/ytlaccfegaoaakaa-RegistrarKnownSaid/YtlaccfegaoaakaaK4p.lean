import Derived.Test.YtlaccfegaoaakaaK2p
import Derived.Test.YtlaccfegaoaakaaZ9p
import Derived.Test.YtlaccfegaoaakaaH38p
set_option linter.unusedVariables false
set_option maxRecDepth 1000000
set_option maxHeartbeats 0
namespace Go.Proofs.Ytlaccfegaoaakaa
open Go.RowKit
def journal_Check_F : (List Int) → Option Int := fun a1 =>
  joinO (loopF (fun (v2, v3) =>
    bif (decide (v2 < (((List.length a1) : Nat) : Int))) then
     joinO (bif (decide (((0 : Int) ≤ v2) ∧ (v2 < (((List.length a1) : Nat) : Int)))) then 
       bindO a1[(Int.toNat v2)]? fun x4 =>
       loopF (fun (v7, v8) =>
        bif (decide (v7 < (8 : Int))) then
         bindO (some (Go.IntKind.wrap .u32 (Int.tdiv v8 (2 : Int)))) fun x10 =>
         bif (decide ((Go.IntKind.wrap .u32 (((BitVec.toNat ((BitVec.ofInt 32 v8) &&& (BitVec.ofInt 32 (1 : Int)))) : Nat) : Int)) = (1 : Int))) then
          some (Sum.inl ((Go.IntKind.wrap .i64 (v7 + (1 : Int))), (Go.IntKind.wrap .u32 (((BitVec.toNat ((BitVec.ofInt 32 x10) ^^^ (BitVec.ofInt 32 (3988292384 : Int)))) : Nat) : Int))))
         else
          some (Sum.inl ((Go.IntKind.wrap .i64 (v7 + (1 : Int))), x10))
        else
         outO (some (Sum.inl (v8, x4)))) 100000 ((0 : Int), (Go.IntKind.wrap .u32 (((BitVec.toNat ((BitVec.ofInt 32 v3) ^^^ (BitVec.ofInt 32 (Go.IntKind.wrap .u32 x4)))) : Nat) : Int)))
      else none) fun (v14, v15) =>
     some (Sum.inl ((Go.IntKind.wrap .i64 (v2 + (1 : Int))), v14))
    else
     outO (some (Sum.inl v3))) 100000 ((0 : Int), (4294967295 : Int))) fun v17 =>
  some (Go.IntKind.wrap .u32 (((BitVec.toNat ((BitVec.ofInt 32 (4294967295 : Int)) ^^^ (BitVec.ofInt 32 v17))) : Nat) : Int))
theorem journal_Check_le (x : _) : LeO (journal_Check_F x) (journal_Check x) := by
  unfold journal_Check_F journal_Check
  repeat' (first | (with_reducible first | exact LeO.refl _ | apply LeO.bind | apply LeO.join | apply LeO.out | apply LeO.cond | apply LeO.loop) | (intro p; first | (obtain ⟨a, q⟩ : Prod _ _ := p; revert q) | skip) | dsimp only)
def aiK : List IT := [(.tmp 0 false [(.dat (.list (.int .u8)))])]
def riK : List IT := [(.tmp 0 false [(.dat (.int .u32))])]
def ck0 : List Int := [167, 1, 0, 0, 0, 0, 0, 49, 255, 206, 0, 0, 0, 0, 0, 0, 3, 232, 0, 1, 97, 0, 1, 99, 0, 0, 0, 1, 0, 255, 255, 255, 255, 0, 0, 0, 0, 0, 0, 2, 0, 1, 120, 1, 244, 255, 255, 255, 255, 0, 1, 121, 0, 0, 0, 0, 0, 60, 0]
theorem ckv0 : journal_Check ck0 = some (662608537 : Int) := journal_Check_le _ _ (by kernel_rfl)
def ck1 : List Int := [167, 1, 0, 0, 0, 1, 0, 40, 255, 215, 0, 0, 0, 0, 0, 0, 238, 72, 0, 1, 97, 0, 1, 99, 0, 0, 0, 2, 0, 255, 255, 255, 255, 0, 0, 0, 0, 0, 0, 1, 0, 1, 122, 2, 188, 0, 0, 39, 15, 0]
theorem ckv1 : journal_Check ck1 = some (2242930193 : Int) := journal_Check_le _ _ (by kernel_rfl)
def ck2 : List Int := [167, 1, 0, 0, 0, 2, 0, 31, 255, 224, 0, 0, 0, 0, 0, 0, 242, 48, 0, 1, 97, 0, 1, 99, 0, 0, 0, 3, 1, 0, 0, 0, 0, 0, 0, 0, 0, 0, 0, 0, 0]
theorem ckv2 : journal_Check ck2 = some (3242409302 : Int) := journal_Check_le _ _ (by kernel_rfl)
def ckL : List (Nat × List AV × AV) := [(94, (aTs aiK ck0).map (·.2), oneOrTupA ((aTs riK (662608537 : Int)).map (·.2))), (94, (aTs aiK ck1).map (·.2), oneOrTupA ((aTs riK (2242930193 : Int)).map (·.2))), (94, (aTs aiK ck2).map (·.2), oneOrTupA ((aTs riK (3242409302 : Int)).map (·.2)))]
theorem ckL_ok : LitOk Try.prog (fun _ => none) ckL := ⟨⟨con94.1, con94.2 _ _ ckv0, by kernel_rfl⟩, ⟨con94.1, con94.2 _ _ ckv1, by kernel_rfl⟩, ⟨con94.1, con94.2 _ _ ckv2, by kernel_rfl⟩, trivial⟩
def knownD : ConK := orC knownC (orC (litC ckL) (sliceF ckL))
theorem knownD_ok : ∀ f args rd v us rds, knownD f args rd = some (v, us, rds) → fnOk Try.prog f = true ∧ Does Try.prog (fun _ => none) f args rds v us rd := orC_ok knownC_ok (orC_ok (litC_ok ckL_ok) (sliceF_ok ckL_ok))
end Go.Proofs.Ytlaccfegaoaakaa
