import Derived.Test.YtlaccfegaoaakaaK1p
import Derived.Test.YtlaccfegaoaakaaLp
import Derived.Test.YtlaccfegaoaakaaH37p
namespace Go.Proofs.Ytlaccfegaoaakaa
open Go.RowKit
set_option maxRecDepth 1000000
set_option maxHeartbeats 0
def act0 : List Int := [0, 0, 0, 0, 0, 0, 3, 232, 0, 1, 97, 0, 1, 99, 0, 0, 0, 1, 0, 255, 255, 255, 255, 0, 0, 0, 0, 0, 0, 2, 0, 1, 120, 1, 244, 255, 255, 255, 255, 0, 1, 121, 0, 0, 0, 0, 0, 60, 0]
def got0 : (Int × (((List UInt8) × ((List UInt8) × (Int × (Bool × ((List ((List UInt8) × (Int × Int))) × (Int × ((List UInt8) × (Int × (List (List UInt8)))))))))) × Int)) := (1000, ([97],[99],1,false,[([120],500,-1),([121],0,60)],-1,[],0,[]), 0)
theorem dec0 : registrar_DecodeAct act0 = some got0 := registrar_DecodeAct_le _ _ (by kernel_rfl)
def act1 : List Int := [0, 0, 0, 0, 0, 0, 238, 72, 0, 1, 97, 0, 1, 99, 0, 0, 0, 2, 0, 255, 255, 255, 255, 0, 0, 0, 0, 0, 0, 1, 0, 1, 122, 2, 188, 0, 0, 39, 15, 0]
def got1 : (Int × (((List UInt8) × ((List UInt8) × (Int × (Bool × ((List ((List UInt8) × (Int × Int))) × (Int × ((List UInt8) × (Int × (List (List UInt8)))))))))) × Int)) := (61000, ([97],[99],2,false,[([122],700,9999)],-1,[],0,[]), 0)
theorem dec1 : registrar_DecodeAct act1 = some got1 := registrar_DecodeAct_le _ _ (by kernel_rfl)
def act2 : List Int := [0, 0, 0, 0, 0, 0, 242, 48, 0, 1, 97, 0, 1, 99, 0, 0, 0, 3, 1, 0, 0, 0, 0, 0, 0, 0, 0, 0, 0, 0, 0]
def got2 : (Int × (((List UInt8) × ((List UInt8) × (Int × (Bool × ((List ((List UInt8) × (Int × Int))) × (Int × ((List UInt8) × (Int × (List (List UInt8)))))))))) × Int)) := (62000, ([97],[99],3,true,[],0,[],0,[]), 0)
theorem dec2 : registrar_DecodeAct act2 = some got2 := registrar_DecodeAct_le _ _ (by kernel_rfl)
def aiD : List IT := [(.tmp 0 false [(.dat (.list (.int .u8)))])]
def riD : List IT := [(.tmp 0 false [(.dat (.int .i64))]), (.tmp 1 true [(.dat .str), (.dat .str), (.dat (.int .i64)), (.dat .bool), (.dat (.list (.pair .str (.pair (.int .i64) (.int .i64))))), (.dat (.int .i64)), (.dat .str), (.dat (.int .i64)), (.dat (.list .str))]), (.tmp 2 false [(.dat (.int .u8))])]
def actL : List (Nat × List AV × AV) := [(24, (aTs aiD act0).map (·.2), oneOrTupA ((aTs riD got0).map (·.2))), (24, (aTs aiD act1).map (·.2), oneOrTupA ((aTs riD got1).map (·.2))), (24, (aTs aiD act2).map (·.2), oneOrTupA ((aTs riD got2).map (·.2)))]
theorem actL_ok : LitOk Try.prog (fun _ => none) actL := ⟨⟨con24.1, con24.2 _ _ dec0, by kernel_rfl⟩, ⟨con24.1, con24.2 _ _ dec1, by kernel_rfl⟩, ⟨con24.1, con24.2 _ _ dec2, by kernel_rfl⟩, trivial⟩
def livesC : ConK := closedC [(9, aBool true)]
theorem livesC_ok : ∀ f args rd v us rds, livesC f args rd = some (v, us, rds) → fnOk Try.prog f = true ∧ Does Try.prog (fun _ => none) f args rds v us rd := closedC_ok ⟨⟨by kernel_rfl, lives_o⟩, trivial⟩
def knownC : ConK := orC livesC (orC (litC actL) (orC (sliceC actL) cloneC))
theorem knownC_ok : ∀ f args rd v us rds, knownC f args rd = some (v, us, rds) → fnOk Try.prog f = true ∧ Does Try.prog (fun _ => none) f args rds v us rd := orC_ok livesC_ok (orC_ok (litC_ok actL_ok) (orC_ok (sliceC_ok actL_ok) cloneC_ok))
end Go.Proofs.Ytlaccfegaoaakaa
