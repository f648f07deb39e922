/-
  BillingOnce: whatever acts, crashes and recoveries happen, a number that is given out twice has the same record both times; in the end each number was given out, with exactly one record, and each synced answer has its record.
-/
import Derived.Test.YtkpijdndakljjaaM10p
import Derived.Test.YtkpijdndakljjaaXBp
import Derived.Test.YtkpijdndakljjaaChecked
import Derived.Test.YtkpijdndakljjaaRows
import Derived.WalkKit
import Derived.ProofKit
import Derived.OpenShut
import Derived.ShutString
import Derived.ChangeOld
import Derived.Below
set_option linter.unusedSimpArgs false
set_option linter.unusedVariables false
namespace Go.Proofs.Ytkpijdndakljjaa.billingOnce
open Go.ChangeShapes Go.WideShapes Go.ChangeAt Go.RowKit
open Go.ChangeMaps (open_string shut_string)
theorem own : ownKnob Try.prog.godebug = none := by kernel_rfl
theorem laidOut : laidOutB Try.prog = true := by kernel_rfl
set_option maxRecDepth 100000 in
theorem lifted (os : Os) (started : os.Started) (H : Type) (enc : TypeId × Value -> H) :
    ReturnsInHanded {} Try.checked os 7 .any (Rows.billingOnceSpec.pre6 enc Try.prog Try.f7 Rows.billingOnceRow.domain false) (Rows.billingOnceSpec.post enc Try.prog Try.f7 false true false false) := by
  refine returnsInHanded_of_change (C := Try.checked) own started (by kernel_rfl) Try.func7
    (ChangeSpec.witness6 (enc := enc) (C := Try.checked) false ⟨#[], #[.slice none 0 0], []⟩ 8 (by kernel_rfl) (by kernel_rfl) (by kernel_rfl) (by kernel_rfl)) ?_
  intro W base args ds gs before hval0 hW hcnd _;have hval : ∀ (j : Nat) t v, Try.f7.params[j]? = some t -> args[j]? = some v -> Value.okWide Try.prog W .any base t v := hval0;have hW' := hW;obtain ⟨p, q, hA0, hV, rfl, hfz, hnd⟩ := hW;have hA : DataW.TrodAll enc Try.prog W 0 (fun _ => true) true Try.f7.params.toList args.toList ds p := hA0;rw [Try.params7] at hA hval;obtain ⟨v0, vs0, d0, ds0, p0, q0, hargs, rfl, rfl, h0, r0⟩ := trodAll_cons hA;obtain ⟨rfl, rfl, rfl⟩ := trodAll_nil r0;obtain rfl : args = #[v0] := by cases args; simp_all
  obtain ⟨rfl, rfl⟩ := trodVars_none hV;have lt0 : ∀ x ∈ p0, x.block < W.heap.size := by obtain ⟨m, hm⟩ := h0; exact DataW.trod_lt m _ _ _ hm
  obtain ⟨a, wf, hr⟩ : ∃ a : (bZ [(.tmp 0 false [(.dat (.list (.pair (.int .u8) (.pair (.int .u8) (.pair (.int .u16) (.int .u16))))))])]).T, WZ [(.tmp 0 false [(.dat (.list (.pair (.int .u8) (.pair (.int .u8) (.pair (.int .u16) (.int .u16))))))])] a /\ aP (E0 W) ((lU [(.tmp 0 false [(.dat (.list (.pair (.int .u8) (.pair (.int .u8) (.pair (.int .u16) (.int .u16))))))])] a).map (·.2)) [v0] := (aa6 (open_arg (T := xw (aS Try.prog) yC) (j := 0) KK.hT (by kernel_rfl) (by kernel_rfl) (hval 0 54 v0 rfl rfl) h0) aee)
  clear hA0 hval0;refine (aj8 (W := W) (vs := #[v0]) (ag1 (arl) (ach a wf)) hr).mono fun e W' ⟨he, bel⟩ => ?_;subst he;exact ⟨_, rfl, _, _, _, [], _, [], hW', trodAll_mk1 (shut_bool Try.underlying4 _), (trodAll_cons_mk (Below.trod laidOut (by kernel_rfl) (of_decide_eq_true (by kernel_rfl)) h0 bel lt0) trodAll_mk0), rfl, bel.frame _, fun h => by cases h⟩
theorem over : Rows.billingOnceRow.holds Try.pinned (OpenSpec.ofChange Rows.billingOnceSpec) :=
  OpenClaim.holds_of_wide 7 Try.f7 rfl rfl rfl rfl rfl rfl rfl ⟨rfl, rfl, rfl, rfl, rfl⟩ rfl rfl rfl rfl rfl (by kernel_rfl) Try.func7 (by kernel_rfl)
    (of_decide_eq_true (by kernel_rfl)) (by unfold Func.isWrapper; first | (rw [if_pos (by decide +kernel)]; kernel_rfl) | (rw [if_neg (by decide +kernel)]; exact ⟨rfl, rfl⟩))
    (fun os started H enc _ => lifted os started H enc)
theorem proved : Rows.BillingOnceSaid := over
#print axioms proved
end Go.Proofs.Ytkpijdndakljjaa.billingOnce
