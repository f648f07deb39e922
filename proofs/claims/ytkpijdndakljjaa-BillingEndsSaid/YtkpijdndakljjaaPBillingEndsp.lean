/-
  BillingEnds: End, Next, Given and Sync return what the document defines.
-/
import Derived.Test.YtkpijdndakljjaaJ13p
import Derived.Test.YtkpijdndakljjaaXBp
import Derived.Test.YtkpijdndakljjaaChecked
import Derived.Test.YtkpijdndakljjaaRows
import Derived.WalkKit
import Derived.ProofKit
import Derived.OpenShut
import Derived.ShutString
import Derived.ChangeOld
import Derived.Below
set_option linter.unusedSimpArgs false
set_option linter.unusedVariables false
namespace Go.Proofs.Ytkpijdndakljjaa.billingEnds
open Go.ChangeShapes Go.WideShapes Go.ChangeAt Go.RowKit
open Go.ChangeMaps (open_string shut_string)
theorem own : ownKnob Try.prog.godebug = none := by kernel_rfl
theorem laidOut : laidOutB Try.prog = true := by kernel_rfl
set_option maxRecDepth 100000 in
theorem lifted (os : Os) (started : os.Started) (H : Type) (enc : TypeId × Value → H) :
    ReturnsInHanded {} Try.checked os 4 .any (Rows.billingEndsSpec.pre6 enc Try.prog Try.f4 Rows.billingEndsRow.domain false) (Rows.billingEndsSpec.post enc Try.prog Try.f4 false true false false) := by
  refine returnsInHanded_of_change (C := Try.checked) own started (by kernel_rfl) Try.func4
    (ChangeSpec.witness6 (enc := enc) (C := Try.checked) false ⟨#[], #[.agg #[.slice none 0 0, .int .i64 0, .int .i64 0, .slice none 0 0, .int .i64 0, .int .i64 0], .agg #[.slice none 0 0, .int .i64 0], .agg #[.string ByteArray.empty, .string ByteArray.empty, .string ByteArray.empty, .int .i64 0, .int .i64 0, .int .i64 0, .int .i64 0, .int .i64 0, .int .i64 0, .bool false]], []⟩ 8 (by kernel_rfl) (by kernel_rfl) (by kernel_rfl) (by kernel_rfl)) ?_
  intro W base args ds gs before hval0 hW hcnd _
  have hval : ∀ (j : Nat) t v, Try.f4.params[j]? = some t → args[j]? = some v → Value.okWide Try.prog W .any base t v := hval0
  have hW' := hW
  obtain ⟨p, q, hA0, hV, rfl, hfz, hnd⟩ := hW
  have hA : DataW.TrodAll enc Try.prog W 0 (fun _ => true) true Try.f4.params.toList args.toList ds p := hA0
  rw [Try.params4] at hA hval
  obtain ⟨v0, vs0, d0, ds0, p0, q0, hargs, rfl, rfl, h0, r0⟩ := trodAll_cons hA
  obtain ⟨v1, vs1, d1, ds1, p1, q1, rfl, rfl, rfl, h1, r1⟩ := trodAll_cons r0
  obtain ⟨v2, vs2, d2, ds2, p2, q2, rfl, rfl, rfl, h2, r2⟩ := trodAll_cons r1
  obtain ⟨rfl, rfl, rfl⟩ := trodAll_nil r2
  obtain rfl : args = #[v0, v1, v2] := by cases args; simp_all
  obtain ⟨rfl, rfl⟩ := trodVars_none hV
  have lt0 : ∀ x ∈ p0, x.block < W.heap.size := by obtain ⟨m, hm⟩ := h0; exact DataW.trod_lt m _ _ _ hm
  have lt1 : ∀ x ∈ p1, x.block < W.heap.size := by obtain ⟨m, hm⟩ := h1; exact DataW.trod_lt m _ _ _ hm
  have lt2 : ∀ x ∈ p2, x.block < W.heap.size := by obtain ⟨m, hm⟩ := h2; exact DataW.trod_lt m _ _ _ hm
  obtain ⟨a, wf, hr⟩ : ∃ a : (uIs [(.tmp 0 true [(.dat (.list (.int .u8))), (.dat (.int .i64)), (.dat (.int .i64)), (.dat (.list (.pair .str (.pair .str (.pair .str (.pair (.int .i64) (.pair (.int .i64) (.pair (.int .i64) (.pair (.int .i64) (.pair (.int .i64) (.pair (.int .i64) .bool))))))))))), (.dat (.int .i64)), (.dat (.int .i64))]), (.tmp 1 true [(.dat (.list (.pair .str (.pair (.int .i64) (.pair (.int .i64) (.pair (.int .i64) (.list (.pair (.pair (.int .u8) (.pair (.int .i64) (.int .i64))) (.pair (.int .i64) (.int .i64)))))))))), (.dat (.int .i64))]), (.tmp 2 true [(.dat .str), (.dat .str), (.dat .str), (.dat (.int .i64)), (.dat (.int .i64)), (.dat (.int .i64)), (.dat (.int .i64)), (.dat (.int .i64)), (.dat (.int .i64)), (.dat .bool)])]).T, WfIs [(.tmp 0 true [(.dat (.list (.int .u8))), (.dat (.int .i64)), (.dat (.int .i64)), (.dat (.list (.pair .str (.pair .str (.pair .str (.pair (.int .i64) (.pair (.int .i64) (.pair (.int .i64) (.pair (.int .i64) (.pair (.int .i64) (.pair (.int .i64) .bool))))))))))), (.dat (.int .i64)), (.dat (.int .i64))]), (.tmp 1 true [(.dat (.list (.pair .str (.pair (.int .i64) (.pair (.int .i64) (.pair (.int .i64) (.list (.pair (.pair (.int .u8) (.pair (.int .i64) (.int .i64))) (.pair (.int .i64) (.int .i64)))))))))), (.dat (.int .i64))]), (.tmp 2 true [(.dat .str), (.dat .str), (.dat .str), (.dat (.int .i64)), (.dat (.int .i64)), (.dat (.int .i64)), (.dat (.int .i64)), (.dat (.int .i64)), (.dat (.int .i64)), (.dat .bool)])] a ∧ RelL (E0 W) ((aTs [(.tmp 0 true [(.dat (.list (.int .u8))), (.dat (.int .i64)), (.dat (.int .i64)), (.dat (.list (.pair .str (.pair .str (.pair .str (.pair (.int .i64) (.pair (.int .i64) (.pair (.int .i64) (.pair (.int .i64) (.pair (.int .i64) (.pair (.int .i64) .bool))))))))))), (.dat (.int .i64)), (.dat (.int .i64))]), (.tmp 1 true [(.dat (.list (.pair .str (.pair (.int .i64) (.pair (.int .i64) (.pair (.int .i64) (.list (.pair (.pair (.int .u8) (.pair (.int .i64) (.int .i64))) (.pair (.int .i64) (.int .i64)))))))))), (.dat (.int .i64))]), (.tmp 2 true [(.dat .str), (.dat .str), (.dat .str), (.dat (.int .i64)), (.dat (.int .i64)), (.dat (.int .i64)), (.dat (.int .i64)), (.dat (.int .i64)), (.dat (.int .i64)), (.dat .bool)])] a).map (·.2)) [v0, v1, v2] := (args_cons (open_arg (T := tabF (tiOf Try.prog) tyRows) (j := 0) KK.hT (by kernel_rfl) (by kernel_rfl) (hval 0 27 v0 rfl rfl) h0) (args_cons (open_arg (T := tabF (tiOf Try.prog) tyRows) (j := 1) KK.hT (by kernel_rfl) (by kernel_rfl) (hval 1 40 v1 rfl rfl) h1) (args_cons (open_arg (T := tabF (tiOf Try.prog) tyRows) (j := 2) KK.hT (by kernel_rfl) (by kernel_rfl) (hval 2 29 v2 rfl rfl) h2) args_nil)))
  clear hA0 hval0
  refine (law_of (W := W) (vs := #[v0, v1, v2]) (law_con (con4) (ends_main a wf)) hr).mono fun e W' ⟨he, bel⟩ => ?_
  subst he
  exact ⟨_, rfl, _, _, _, [], _, [], hW', trodAll_mk1 (shut_bool Try.underlying4 _), (trodAll_cons_mk (Below.trod laidOut (by kernel_rfl) (of_decide_eq_true (by kernel_rfl)) h0 bel lt0) (trodAll_cons_mk (Below.trod laidOut (by kernel_rfl) (of_decide_eq_true (by kernel_rfl)) h1 bel lt1) (trodAll_cons_mk (Below.trod laidOut (by kernel_rfl) (of_decide_eq_true (by kernel_rfl)) h2 bel lt2) trodAll_mk0))), rfl, bel.frame _, fun h => by cases h⟩
theorem over : Rows.billingEndsRow.holds Try.pinned (OpenSpec.ofChange Rows.billingEndsSpec) :=
  OpenClaim.holds_of_wide 4 Try.f4 rfl rfl rfl rfl rfl rfl rfl ⟨rfl, rfl, rfl, rfl, rfl⟩ rfl rfl rfl rfl rfl (by kernel_rfl) Try.func4 (by kernel_rfl)
    (of_decide_eq_true (by kernel_rfl)) (by unfold Func.isWrapper; first | (rw [if_pos (by decide +kernel)]; kernel_rfl) | (rw [if_neg (by decide +kernel)]; exact ⟨rfl, rfl⟩))
    (fun os started H enc _ => lifted os started H enc)
theorem proved : Rows.BillingEndsSaid := over
#print axioms proved
end Go.Proofs.Ytkpijdndakljjaa.billingEnds
