/-
  Whatever is sent and received, one call after the other, each result and what can be seen of the state is that which the chapter specifies; a copy that was made before is unchanged. No condition.
-/
import Derived.Test.YtkhdpjlpahammaaS22p
import Derived.Test.YtkhdpjlpahammaaXBp
import Derived.Test.YtkhdpjlpahammaaChecked
import Derived.Test.YtkhdpjlpahammaaRows
import Derived.WalkKit
import Derived.ProofKit
import Derived.OpenShut
import Derived.ShutString
import Derived.ChangeOld
import Derived.Below
import Derived.SizedLaws
namespace Go.Proofs.Ytkhdpjlpahammaa.carrierPlays
open Go.ChangeShapes Go.WideShapes Go.ChangeAt Go.RowKit
open Go.ChangeMaps (open_string shut_string)
set_option linter.unusedVariables false
set_option linter.unusedSimpArgs false
theorem own : ownKnob Try.prog.godebug = none := by kernel_rfl
theorem laidOut : laidOutB Try.prog = true := by kernel_rfl
set_option maxRecDepth 100000 in
theorem lifted (os : Os) (started : os.Started) (H : Type) (enc : TypeId × Value → H) :
    ReturnsInHanded {} Try.checked os 6 .any (Rows.carrierPlaysSpec.pre6 enc Try.prog Try.f6 Rows.carrierPlaysRow.domain false) (Rows.carrierPlaysSpec.post enc Try.prog Try.f6 false true false false) := by
  refine returnsInHanded_of_change_sized (C := Try.checked) own started (by kernel_rfl) Try.func6
    (ChangeSpec.witness6 (enc := enc) (C := Try.checked) false ⟨#[], #[.slice none 0 0, .slice none 0 0], []⟩ 8 (by kernel_rfl) (by kernel_rfl) (by kernel_rfl) (by kernel_rfl)) ?_
  intro W base args ds gs before hval0 hW hcnd hsz _
  have hval : ∀ (j : Nat) t v, Try.f6.params[j]? = some t → args[j]? = some v → Value.okWide Try.prog W .any base t v := hval0
  have hW' := hW
  obtain ⟨p, q, hA0, hV, rfl, hfz, hnd⟩ := hW
  have hA : DataW.TrodAll enc Try.prog W 0 (fun _ => true) true Try.f6.params.toList args.toList ds p := hA0
  rw [Try.params6] at hA hval
  obtain ⟨v0, vs0, d0, ds0, p0, q0, hargs, rfl, rfl, h0, r0⟩ := trodAll_cons hA
  obtain ⟨v1, vs1, d1, ds1, p1, q1, rfl, rfl, rfl, h1, r1⟩ := trodAll_cons r0
  obtain ⟨rfl, rfl, rfl⟩ := trodAll_nil r1
  obtain rfl : args = #[v0, v1] := by cases args; simp_all
  obtain ⟨rfl, rfl⟩ := trodVars_none hV
  have lt0 : ∀ x ∈ p0, x.block < W.heap.size := by obtain ⟨m, hm⟩ := h0; exact DataW.trod_lt m _ _ _ hm
  have lt1 : ∀ x ∈ p1, x.block < W.heap.size := by obtain ⟨m, hm⟩ := h1; exact DataW.trod_lt m _ _ _ hm
  obtain ⟨a, wf, hr⟩ : ∃ a : (uIs [(.tmp 0 false [(.dat (.list (.pair .bool (.pair (.int .i64) (.pair .bool (.int .i64))))))]), (.tmp 1 false [(.dat (.list (.pair (.int .u8) (.pair (.int .i64) (.pair .str (.pair .str (.list (.int .u8))))))))])]).T, WfIs [(.tmp 0 false [(.dat (.list (.pair .bool (.pair (.int .i64) (.pair .bool (.int .i64))))))]), (.tmp 1 false [(.dat (.list (.pair (.int .u8) (.pair (.int .i64) (.pair .str (.pair .str (.list (.int .u8))))))))])] a ∧ RelL (E0 W) ((aTs [(.tmp 0 false [(.dat (.list (.pair .bool (.pair (.int .i64) (.pair .bool (.int .i64))))))]), (.tmp 1 false [(.dat (.list (.pair (.int .u8) (.pair (.int .i64) (.pair .str (.pair .str (.list (.int .u8))))))))])] a).map (·.2)) [v0, v1] := (args_cons (open_arg (T := tabF (tiOf Try.prog) tyRows) (j := 0) KK.hT (by kernel_rfl) (by kernel_rfl) (hval 0 22 v0 rfl rfl) h0) (args_cons (open_arg (T := tabF (tiOf Try.prog) tyRows) (j := 1) KK.hT (by kernel_rfl) (by kernel_rfl) (hval 1 49 v1 rfl rfl) h1) args_nil))
  clear hA0 hval0
  have hd : ∀ x ∈ (show List AcT from (show List FtT × List AcT from a).2), x.2.2.2.2.length ≤ 140737488355328 := fun x hx => by
    obtain ⟨i, hi, rfl⟩ := List.getElem_of_mem hx
    have hr' : RelL (E0 W) (_ :: .d (.dl (encL (.pair (.int .u8) (.pair (.int .i64) (.pair .str (.pair .str (.list (.int .u8)))))) (show List FtT × List AcT from a).2) (show List FtT × List AcT from a).2.length none) :: []) [v0, v1] := hr
    rw [RelL] at hr'
    obtain ⟨u0, us, eu, _, ru⟩ := hr'
    cases eu
    rw [RelL] at ru
    obtain ⟨u1, us1, eu1, ru1, _⟩ := ru
    cases eu1
    have hz := reach_rows (k := 4) (sz := 5) Try.underlying49 Try.underlying56 rfl (by exact Try.underlying23) (by kernel_rfl) (by kernel_rfl) (by decide) h1 ru1 (fun x hx => by
      have := List.all_eq_true.1 hsz x (DataW.weights_mem_each (j := 1) (t := 49) rfl rfl x hx)
      simpa using this) hi (encL_cell (.pair (.int .u8) (.pair (.int .i64) (.pair .str (.pair .str (.list (.int .u8)))))) (List.getElem?_eq_getElem hi) (o := 4) (by decide))
    have hb : Try.prog.bytesOf 5 = 1 := by kernel_rfl
    rw [hb] at hz
    have hr2 : reachBytes = 140737488351232 := rfl
    omega
  refine (law_of (W := W) (vs := #[v0, v1]) (law_con (con6) (plays_main a hd)) hr).mono fun e W' ⟨he, bel⟩ => ?_
  subst he
  exact ⟨_, rfl, _, _, _, [], _, [], hW', trodAll_mk1 (shut_bool Try.underlying4 _), (trodAll_cons_mk (Below.trod laidOut (by kernel_rfl) (of_decide_eq_true (by kernel_rfl)) h0 bel lt0) (trodAll_cons_mk (Below.trod laidOut (by kernel_rfl) (of_decide_eq_true (by kernel_rfl)) h1 bel lt1) trodAll_mk0)), rfl, bel.frame _, fun h => by cases h⟩
theorem over : Rows.carrierPlaysRow.holds Try.pinned (OpenSpec.ofChange Rows.carrierPlaysSpec) :=
  OpenClaim.holds_of_wide 6 Try.f6 rfl rfl rfl rfl rfl rfl rfl ⟨rfl, rfl, rfl, rfl, rfl⟩ rfl rfl rfl rfl rfl (by kernel_rfl) Try.func6 (by kernel_rfl)
    (of_decide_eq_true (by kernel_rfl)) (by unfold Func.isWrapper; first | (rw [if_pos (by decide +kernel)]; kernel_rfl) | (rw [if_neg (by decide +kernel)]; exact ⟨rfl, rfl⟩))
    (fun os started H enc _ => lifted os started H enc)
theorem proved : Rows.CarrierPlaysSaid := over
#print axioms proved
end Go.Proofs.Ytkhdpjlpahammaa.carrierPlays
