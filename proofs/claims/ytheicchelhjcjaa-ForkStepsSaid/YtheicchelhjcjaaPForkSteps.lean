/-
  For every fork, valid or not, and every input, Valid, Best and Step return what the chapter specifies. No condition.
-/
import Derived.Test.YtheicchelhjcjaaJ9
import Derived.Test.YtheicchelhjcjaaXB
import Derived.Test.YtheicchelhjcjaaChecked
import Derived.Test.YtheicchelhjcjaaRows
import Derived.WalkKit
import Derived.ProofKit
import Derived.OpenShut
import Derived.ShutString
import Derived.ChangeOld
import Derived.Below
import Derived.SizedLaws
namespace Go.Proofs.Ytheicchelhjcjaa.forkSteps
open Go.ChangeShapes Go.WideShapes Go.ChangeAt Go.RowKit
open Go.ChangeMaps (open_string shut_string)
set_option linter.unusedVariables false
set_option linter.unusedSimpArgs false

theorem own : ownKnob Try.prog.godebug = none := by kernel_rfl
theorem laidOut : laidOutB Try.prog = true := by kernel_rfl

set_option maxRecDepth 100000 in
theorem lifted (os : Os) (started : os.Started) (H : Type) (enc : TypeId × Value → H) :
    ReturnsInHanded {} Try.checked os 4 .any (Rows.forkStepsSpec.pre6 enc Try.prog Try.f4 Rows.forkStepsRow.domain false) (Rows.forkStepsSpec.post enc Try.prog Try.f4 false true false false) := by
  refine returnsInHanded_of_change_sized (C := Try.checked) own started (by kernel_rfl) Try.func4
    (ChangeSpec.witness6 (enc := enc) (C := Try.checked) false ⟨#[], #[.agg #[.slice none 0 0, .int .i64 0, .bool false, .bool false, .bool false], .agg #[.int .u8 0, .int .i64 0, .int .i64 0]], []⟩ 8 (by kernel_rfl) (by kernel_rfl) (by kernel_rfl) (by kernel_rfl)) ?_
  intro W base args ds gs before hval0 hW hcnd hsz _
  have hval : ∀ (j : Nat) t v, Try.f4.params[j]? = some t → args[j]? = some v → Value.okWide Try.prog W .any base t v := hval0
  have hW' := hW
  obtain ⟨p, q, hA0, hV, rfl, hfz, hnd⟩ := hW
  have hA : DataW.TrodAll enc Try.prog W 0 (fun _ => true) true Try.f4.params.toList args.toList ds p := hA0
  rw [Try.params4] at hA hval
  obtain ⟨v0, vs0, d0, ds0, p0, q0, hargs, rfl, rfl, h0, r0⟩ := trodAll_cons hA
  obtain ⟨v1, vs1, d1, ds1, p1, q1, rfl, rfl, rfl, h1, r1⟩ := trodAll_cons r0
  obtain ⟨rfl, rfl, rfl⟩ := trodAll_nil r1
  obtain rfl : args = #[v0, v1] := by cases args; simp_all
  obtain ⟨rfl, rfl⟩ := trodVars_none hV
  have lt0 : ∀ x ∈ p0, x.block < W.heap.size := by obtain ⟨m, hm⟩ := h0; exact DataW.trod_lt m _ _ _ hm
  have lt1 : ∀ x ∈ p1, x.block < W.heap.size := by obtain ⟨m, hm⟩ := h1; exact DataW.trod_lt m _ _ _ hm
  obtain ⟨a, wf, hr⟩ : ∃ a : (uIs [(.tmp 0 true [(.dat (.list (.pair .str (.pair (.int .i64) (.pair (.int .u8) (.int .i64)))))), (.dat (.int .i64)), (.dat .bool), (.dat .bool), (.dat .bool)]), (.tmp 1 true [(.dat (.int .u8)), (.dat (.int .i64)), (.dat (.int .i64))])]).T, WfIs [(.tmp 0 true [(.dat (.list (.pair .str (.pair (.int .i64) (.pair (.int .u8) (.int .i64)))))), (.dat (.int .i64)), (.dat .bool), (.dat .bool), (.dat .bool)]), (.tmp 1 true [(.dat (.int .u8)), (.dat (.int .i64)), (.dat (.int .i64))])] a ∧ RelL (E0 W) ((aTs [(.tmp 0 true [(.dat (.list (.pair .str (.pair (.int .i64) (.pair (.int .u8) (.int .i64)))))), (.dat (.int .i64)), (.dat .bool), (.dat .bool), (.dat .bool)]), (.tmp 1 true [(.dat (.int .u8)), (.dat (.int .i64)), (.dat (.int .i64))])] a).map (·.2)) [v0, v1] := (args_cons (open_arg (T := tabF (tiOf Try.prog) tyRows) (j := 0) KK.hT (by kernel_rfl) (by kernel_rfl) (hval 0 25 v0 rfl rfl) h0) (args_cons (open_arg (T := tabF (tiOf Try.prog) tyRows) (j := 1) KK.hT (by kernel_rfl) (by kernel_rfl) (hval 1 38 v1 rfl rfl) h1) args_nil))
  clear hA0 hval0
  have hlen : a.1.1.length ≤ 10000000000000 := by
    have hr' : RelL (E0 W) (.agg (.d (.dl (encL (.pair .str (.pair (.int .i64) (.pair (.int .u8) (.int .i64)))) a.1.1) a.1.1.length none) :: _) :: _) [v0, v1] := hr
    rw [RelL] at hr'
    obtain ⟨u0, us, eu, ru, _⟩ := hr'
    cases eu
    have hz := reach_fld0 Try.underlying25 rfl rfl (by exact Try.underlying23) (by kernel_rfl) h0 ru (fun x hx => by
      have := List.all_eq_true.1 hsz x (DataW.weights_mem_each (j := 0) (t := 25) rfl rfl x hx)
      simpa using this)
    have hb : Try.prog.bytesOf 49 = 40 := by kernel_rfl
    rw [hb] at hz
    have hr2 : reachBytes = 140737488351232 := rfl
    omega
  refine (law_of (W := W) (vs := #[v0, v1]) (law_con (con4) (steps_main a hlen)) hr).mono fun e W' ⟨he, bel⟩ => ?_
  subst he
  exact ⟨_, rfl, _, _, _, [], _, [], hW', trodAll_mk1 (shut_bool Try.underlying4 _), (trodAll_cons_mk (Below.trod laidOut (by kernel_rfl) (of_decide_eq_true (by kernel_rfl)) h0 bel lt0) (trodAll_cons_mk (Below.trod laidOut (by kernel_rfl) (of_decide_eq_true (by kernel_rfl)) h1 bel lt1) trodAll_mk0)), rfl, bel.frame _, fun h => by cases h⟩

theorem over : Rows.forkStepsRow.holds Try.pinned (OpenSpec.ofChange Rows.forkStepsSpec) :=
  OpenClaim.holds_of_wide 4 Try.f4 rfl rfl rfl rfl rfl rfl rfl ⟨rfl, rfl, rfl, rfl, rfl⟩ rfl rfl rfl rfl rfl (by kernel_rfl) Try.func4 (by kernel_rfl)
    (of_decide_eq_true (by kernel_rfl)) (by unfold Func.isWrapper; first | (rw [if_pos (by decide +kernel)]; kernel_rfl) | (rw [if_neg (by decide +kernel)]; exact ⟨rfl, rfl⟩))
    (fun os started H enc _ => lifted os started H enc)

theorem proved : Rows.ForkStepsSaid := over
#print axioms proved
end Go.Proofs.Ytheicchelhjcjaa.forkSteps
