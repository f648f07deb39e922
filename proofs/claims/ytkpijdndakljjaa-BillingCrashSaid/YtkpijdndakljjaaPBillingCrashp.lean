/-
  BillingCrash: after a crash that keeps any number of bytes, at least the synced ones, Recover gives the ledger after the acts whose records are kept whole, with the open calls ended at their last marks.
-/
import Derived.Test.YtkpijdndakljjaaM7p
import Derived.Test.YtkpijdndakljjaaXBp
import Derived.Test.YtkpijdndakljjaaChecked
import Derived.Test.YtkpijdndakljjaaRows
import Derived.WalkKit
import Derived.ProofKit
import Derived.OpenShut
import Derived.ShutString
import Derived.ChangeOld
import Derived.Below
set_option linter.unusedSimpArgs false
set_option linter.unusedVariables false
namespace Go.Proofs.Ytkpijdndakljjaa.billingCrash
open Go.ChangeShapes Go.WideShapes Go.ChangeAt Go.RowKit
open Go.ChangeMaps (open_string shut_string)
theorem own : ownKnob Try.prog.godebug = none := by kernel_rfl
theorem laidOut : laidOutB Try.prog = true := by kernel_rfl
set_option maxRecDepth 100000 in
theorem lifted (os : Os) (started : os.Started) (H : Type) (enc : TypeId × Value -> H) :
    ReturnsInHanded {} Try.checked os 6 .any (Rows.billingCrashSpec.pre6 enc Try.prog Try.f6 Rows.billingCrashRow.domain false) (Rows.billingCrashSpec.post enc Try.prog Try.f6 false true false false) := by
  refine returnsInHanded_of_change (C := Try.checked) own started (by kernel_rfl) Try.func6
    (ChangeSpec.witness6 (enc := enc) (C := Try.checked) false ⟨#[], #[.slice none 0 0, .int .u16 0], []⟩ 8 (by kernel_rfl) (by kernel_rfl) (by kernel_rfl) (by kernel_rfl)) ?_
  intro W base args ds gs before hval0 hW hcnd _;have hval : ∀ (j : Nat) t v, Try.f6.params[j]? = some t -> args[j]? = some v -> Value.okWide Try.prog W .any base t v := hval0;have hW' := hW;obtain ⟨p, q, hA0, hV, rfl, hfz, hnd⟩ := hW;have hA : DataW.TrodAll enc Try.prog W 0 (fun _ => true) true Try.f6.params.toList args.toList ds p := hA0;rw [Try.params6] at hA hval;obtain ⟨v0, vs0, d0, ds0, p0, q0, hargs, rfl, rfl, h0, r0⟩ := trodAll_cons hA;obtain ⟨v1, vs1, d1, ds1, p1, q1, rfl, rfl, rfl, h1, r1⟩ := trodAll_cons r0;obtain ⟨rfl, rfl, rfl⟩ := trodAll_nil r1;obtain rfl : args = #[v0, v1] := by cases args; simp_all
  obtain ⟨rfl, rfl⟩ := trodVars_none hV;have lt0 : ∀ x ∈ p0, x.block < W.heap.size := by obtain ⟨m, hm⟩ := h0; exact DataW.trod_lt m _ _ _ hm
  have lt1 : ∀ x ∈ p1, x.block < W.heap.size := by obtain ⟨m, hm⟩ := h1; exact DataW.trod_lt m _ _ _ hm
  obtain ⟨a, wf, hr⟩ : ∃ a : (cu [(.tmp 0 false [(.dat (.list (.pair (.int .u8) (.pair (.int .u8) (.pair (.int .u16) (.int .u16))))))]), (.tmp 1 false [(.dat (.int .u16))])]).T, WM [(.tmp 0 false [(.dat (.list (.pair (.int .u8) (.pair (.int .u8) (.pair (.int .u16) (.int .u16))))))]), (.tmp 1 false [(.dat (.int .u16))])] a /\ aP (E0 W) ((lS [(.tmp 0 false [(.dat (.list (.pair (.int .u8) (.pair (.int .u8) (.pair (.int .u16) (.int .u16))))))]), (.tmp 1 false [(.dat (.int .u16))])] a).map (·.2)) [v0, v1] := (O5 (open_arg (T := vY (aQ Try.prog) wo) (j := 0) KK.hT (by kernel_rfl) (by kernel_rfl) (hval 0 54 v0 rfl rfl) h0) (O5 (open_arg (T := vY (aQ Try.prog) wo) (j := 1) KK.hT (by kernel_rfl) (by kernel_rfl) (hval 1 55 v1 rfl rfl) h1) adN))
  clear hA0 hval0;refine (ajy (W := W) (vs := #[v0, v1]) (agB (aqu) (Xu a wf)) hr).mono fun e W' ⟨he, bel⟩ => ?_;subst he;exact ⟨_, rfl, _, _, _, [], _, [], hW', trodAll_mk1 (shut_bool Try.underlying4 _), (trodAll_cons_mk (Below.trod laidOut (by kernel_rfl) (of_decide_eq_true (by kernel_rfl)) h0 bel lt0) (trodAll_cons_mk (Below.trod laidOut (by kernel_rfl) (of_decide_eq_true (by kernel_rfl)) h1 bel lt1) trodAll_mk0)), rfl, bel.frame _, fun h => by cases h⟩
theorem over : Rows.billingCrashRow.holds Try.pinned (OpenSpec.ofChange Rows.billingCrashSpec) :=
  OpenClaim.holds_of_wide 6 Try.f6 rfl rfl rfl rfl rfl rfl rfl ⟨rfl, rfl, rfl, rfl, rfl⟩ rfl rfl rfl rfl rfl (by kernel_rfl) Try.func6 (by kernel_rfl)
    (of_decide_eq_true (by kernel_rfl)) (by unfold Func.isWrapper; first | (rw [if_pos (by decide +kernel)]; kernel_rfl) | (rw [if_neg (by decide +kernel)]; exact ⟨rfl, rfl⟩))
    (fun os started H enc _ => lifted os started H enc)
theorem proved : Rows.BillingCrashSaid := over
#print axioms proved
end Go.Proofs.Ytkpijdndakljjaa.billingCrash
