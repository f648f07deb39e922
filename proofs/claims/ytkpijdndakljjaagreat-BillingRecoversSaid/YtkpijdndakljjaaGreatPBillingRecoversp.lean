/-
  BillingRecovers: Recover returns what the document defines, for the bytes and for what is left of them if the last ones are missing.
-/
import Derived.Test.YtkpijdndakljjaaGreatD5p
import Derived.Test.YtkpijdndakljjaaGreatXBp
import Derived.Test.YtkpijdndakljjaaGreatChecked
import Derived.Test.YtkpijdndakljjaaGreatRows
import Derived.WalkKit
import Derived.ProofKit
import Derived.OpenShut
import Derived.ShutString
import Derived.ChangeOld
import Derived.Below
set_option linter.unusedSimpArgs false
set_option linter.unusedVariables false
namespace Go.Proofs.YtkpijdndakljjaaGreat.billingRecovers
open Go.ChangeShapes Go.WideShapes Go.ChangeAt Go.RowKit
open Go.ChangeMaps (open_string shut_string)
theorem own : ownKnob Tryz.prog.godebug = none := by kernel_rfl
theorem laidOut : laidOutB Tryz.prog = true := by kernel_rfl
set_option maxRecDepth 100000 in
theorem lifted (os : Os) (started : os.Started) (H : Type) (enc : TypeId × Value -> H) :
    ReturnsInHanded {} Tryz.checked os 3 .any (Rows.billingRecoversSpec.pre6 enc Tryz.prog Tryz.f3 Rows.billingRecoversRow.domain false) (Rows.billingRecoversSpec.post enc Tryz.prog Tryz.f3 false true false false) := by
  refine returnsInHanded_of_change (C := Tryz.checked) own started (by kernel_rfl) Tryz.func3
    (ChangeSpec.witness6 (enc := enc) (C := Tryz.checked) false ⟨#[], #[.slice none 0 0, .agg #[.slice none 0 0, .int .i64 0], .int .i64 0], []⟩ 8 (by kernel_rfl) (by kernel_rfl) (by kernel_rfl) (by kernel_rfl)) ?_
  intro W base args ds gs before hval0 hW hcnd _;have hval : ∀ (j : Nat) t v, Tryz.f3.params[j]? = some t -> args[j]? = some v -> Value.okWide Tryz.prog W .any base t v := hval0;have hW' := hW;obtain ⟨p, q, hA0, hV, rfl, hfz, hnd⟩ := hW;have hA : DataW.TrodAll enc Tryz.prog W 0 (fun _ => true) true Tryz.f3.params.toList args.toList ds p := hA0;rw [Tryz.params3] at hA hval;obtain ⟨v0, vs0, d0, ds0, p0, q0, hargs, rfl, rfl, h0, r0⟩ := trodAll_cons hA;obtain ⟨v1, vs1, d1, ds1, p1, q1, rfl, rfl, rfl, h1, r1⟩ := trodAll_cons r0;obtain ⟨v2, vs2, d2, ds2, p2, q2, rfl, rfl, rfl, h2, r2⟩ := trodAll_cons r1;obtain ⟨rfl, rfl, rfl⟩ := trodAll_nil r2;obtain rfl : args = #[v0, v1, v2] := by cases args; simp_all
  obtain ⟨rfl, rfl⟩ := trodVars_none hV;have lt0 : ∀ x ∈ p0, x.block < W.heap.size := by obtain ⟨m, hm⟩ := h0; exact DataW.trod_lt m _ _ _ hm
  have lt1 : ∀ x ∈ p1, x.block < W.heap.size := by obtain ⟨m, hm⟩ := h1; exact DataW.trod_lt m _ _ _ hm
  have lt2 : ∀ x ∈ p2, x.block < W.heap.size := by obtain ⟨m, hm⟩ := h2; exact DataW.trod_lt m _ _ _ hm
  obtain ⟨a, wf, hr⟩ : ∃ a : (dF [(.tmp 0 false [(.dat (.list (.int .u8)))]), (.tmp 1 true [(.dat (.list (.pair .str (.pair (.int .i64) (.pair (.int .i64) (.pair (.int .i64) (.list (.pair (.pair (.int .u8) (.pair (.int .i64) (.int .i64))) (.pair (.int .i64) (.int .i64)))))))))), (.dat (.int .i64))]), (.tmp 2 false [(.dat (.int .i64))])]).T, VY [(.tmp 0 false [(.dat (.list (.int .u8)))]), (.tmp 1 true [(.dat (.list (.pair .str (.pair (.int .i64) (.pair (.int .i64) (.pair (.int .i64) (.list (.pair (.pair (.int .u8) (.pair (.int .i64) (.int .i64))) (.pair (.int .i64) (.int .i64)))))))))), (.dat (.int .i64))]), (.tmp 2 false [(.dat (.int .i64))])] a /\ aW (E0 W) ((lT [(.tmp 0 false [(.dat (.list (.int .u8)))]), (.tmp 1 true [(.dat (.list (.pair .str (.pair (.int .i64) (.pair (.int .i64) (.pair (.int .i64) (.list (.pair (.pair (.int .u8) (.pair (.int .i64) (.int .i64))) (.pair (.int .i64) (.int .i64)))))))))), (.dat (.int .i64))]), (.tmp 2 false [(.dat (.int .i64))])] a).map (·.2)) [v0, v1, v2] := (Gp (open_arg (T := vw (aX Tryz.prog) uM) (j := 0) KK.hT (by kernel_rfl) (by kernel_rfl) (hval 0 22 v0 rfl rfl) h0) (Gp (open_arg (T := vw (aX Tryz.prog) uM) (j := 1) KK.hT (by kernel_rfl) (by kernel_rfl) (hval 1 25 v1 rfl rfl) h1) (Gp (open_arg (T := vw (aX Tryz.prog) uM) (j := 2) KK.hT (by kernel_rfl) (by kernel_rfl) (hval 2 3 v2 rfl rfl) h2) adk)))
  clear hA0 hval0;refine (ai2 (W := W) (vs := #[v0, v1, v2]) (agd (aqZ) (Nu a wf)) hr).mono fun e W' ⟨he, bel⟩ => ?_;subst he;exact ⟨_, rfl, _, _, _, [], _, [], hW', trodAll_mk1 (shut_bool Tryz.underlying4 _), (trodAll_cons_mk (Below.trod laidOut (by kernel_rfl) (of_decide_eq_true (by kernel_rfl)) h0 bel lt0) (trodAll_cons_mk (Below.trod laidOut (by kernel_rfl) (of_decide_eq_true (by kernel_rfl)) h1 bel lt1) (trodAll_cons_mk (Below.trod laidOut (by kernel_rfl) (of_decide_eq_true (by kernel_rfl)) h2 bel lt2) trodAll_mk0))), rfl, bel.frame _, fun h => by cases h⟩
theorem over : Rows.billingRecoversRow.holds Tryz.pinned (OpenSpec.ofChange Rows.billingRecoversSpec) :=
  OpenClaim.holds_of_wide 3 Tryz.f3 rfl rfl rfl rfl rfl rfl rfl ⟨rfl, rfl, rfl, rfl, rfl⟩ rfl rfl rfl rfl rfl (by kernel_rfl) Tryz.func3 (by kernel_rfl)
    (of_decide_eq_true (by kernel_rfl)) (by unfold Func.isWrapper; first | (rw [if_pos (by decide +kernel)]; kernel_rfl) | (rw [if_neg (by decide +kernel)]; exact ⟨rfl, rfl⟩))
    (fun os started H enc _ => lifted os started H enc)
theorem proved : Rows.BillingRecoversSaid := over
#print axioms proved
end Go.Proofs.YtkpijdndakljjaaGreat.billingRecovers
