/-
  Proves VoiceConverts: whatever line between two codecs, buffer, fates and loudness are given, the call that VoiceConverts describes has the result true: the listener plays what decoding of encoding with its codec gives for what decoding the speaker's packets gives, and over a carrier that delivers at once each frame is played Least after it was said. Conditions: none beyond the statement's own.
-/
import Derived.Test.YtigfeinnobfflaaGreatJ32p
import Derived.Test.YtigfeinnobfflaaGreatXBp
import Derived.Test.YtigfeinnobfflaaGreatChecked
import Derived.Test.YtigfeinnobfflaaGreatRows
import Derived.WalkKit
import Derived.ProofKit
import Derived.OpenShut
import Derived.ShutString
import Derived.ChangeOld
import Derived.Below
set_option linter.unusedSimpArgs false
set_option linter.unusedVariables false
namespace Go.Proofs.YtigfeinnobfflaaGreat.voiceConverts
open Go.ChangeShapes Go.WideShapes Go.ChangeAt Go.RowKit
open Go.ChangeMaps (open_string shut_string)
theorem own : ownKnob Tryz.prog.godebug = none := by kernel_rfl
theorem laidOut : laidOutB Tryz.prog = true := by kernel_rfl
set_option maxRecDepth 100000 in
theorem lifted (os : Os) (started : os.Started) (H : Type) (enc : TypeId × Value -> H) :
    ReturnsInHanded {} Tryz.checked os 4 .any (Rows.voiceConvertsSpec.pre6 enc Tryz.prog Tryz.f4 Rows.voiceConvertsRow.domain false) (Rows.voiceConvertsSpec.post enc Tryz.prog Tryz.f4 false true false false) := by
  refine returnsInHanded_of_change (C := Tryz.checked) own started (by kernel_rfl) Tryz.func4
    (ChangeSpec.witness6 (enc := enc) (C := Tryz.checked) false ⟨#[], #[.agg #[.int .u8 0, .int .u8 0, .int .i64 0, .int .i64 0, .slice none 0 0], .slice none 0 0], []⟩ 8 (by kernel_rfl) (by kernel_rfl) (by kernel_rfl) (by kernel_rfl)) ?_
  intro W base args ds gs before hval0 hW hcnd _;have hval : ∀ (j : Nat) t v, Tryz.f4.params[j]? = some t -> args[j]? = some v -> Value.okWide Tryz.prog W .any base t v := hval0;have hW' := hW;obtain ⟨p, q, hA0, hV, rfl, hfz, hnd⟩ := hW;have hA : DataW.TrodAll enc Tryz.prog W 0 (fun _ => true) true Tryz.f4.params.toList args.toList ds p := hA0;rw [Tryz.params4] at hA hval;obtain ⟨v0, vs0, d0, ds0, p0, q0, hargs, rfl, rfl, h0, r0⟩ := trodAll_cons hA;obtain ⟨v1, vs1, d1, ds1, p1, q1, rfl, rfl, rfl, h1, r1⟩ := trodAll_cons r0;obtain ⟨rfl, rfl, rfl⟩ := trodAll_nil r1;obtain rfl : args = #[v0, v1] := by cases args; simp_all
  obtain ⟨rfl, rfl⟩ := trodVars_none hV;have lt0 : ∀ x ∈ p0, x.block < W.heap.size := by obtain ⟨m, hm⟩ := h0; exact DataW.trod_lt m _ _ _ hm
  have lt1 : ∀ x ∈ p1, x.block < W.heap.size := by obtain ⟨m, hm⟩ := h1; exact DataW.trod_lt m _ _ _ hm
  obtain ⟨a, wf, hr⟩ : ∃ a : (bQ [(.tmp 0 true [(.dat (.int .u8)), (.dat (.int .u8)), (.dat (.int .i64)), (.dat (.int .i64)), (.dat (.list (.pair .bool (.pair (.int .i64) (.pair .bool (.int .i64))))))]), (.tmp 1 false [(.dat (.list (.int .u16)))])]).T, Qz [(.tmp 0 true [(.dat (.int .u8)), (.dat (.int .u8)), (.dat (.int .i64)), (.dat (.int .i64)), (.dat (.list (.pair .bool (.pair (.int .i64) (.pair .bool (.int .i64))))))]), (.tmp 1 false [(.dat (.list (.int .u16)))])] a /\ aG (E0 W) ((jJ [(.tmp 0 true [(.dat (.int .u8)), (.dat (.int .u8)), (.dat (.int .i64)), (.dat (.int .i64)), (.dat (.list (.pair .bool (.pair (.int .i64) (.pair .bool (.int .i64))))))]), (.tmp 1 false [(.dat (.list (.int .u16)))])] a).map (·.2)) [v0, v1] := (Jr (open_arg (T := yP (aO Tryz.prog) KJ) (j := 0) KK.hT (by kernel_rfl) (by kernel_rfl) (hval 0 26 v0 rfl rfl) h0) (Jr (open_arg (T := yP (aO Tryz.prog) KJ) (j := 1) KK.hT (by kernel_rfl) (by kernel_rfl) (hval 1 27 v1 rfl rfl) h1) Zp))
  clear hA0 hval0;refine (aeQ (W := W) (vs := #[v0, v1]) (aaS aly yT (Ij a wf)) hr).mono fun e W' ⟨he, bel⟩ => ?_;subst he;exact ⟨_, rfl, _, _, _, [], _, [], hW', trodAll_mk1 (shut_bool Tryz.underlying4 _), (trodAll_cons_mk (Below.trod laidOut (by kernel_rfl) (of_decide_eq_true (by kernel_rfl)) h0 bel lt0) (trodAll_cons_mk (Below.trod laidOut (by kernel_rfl) (of_decide_eq_true (by kernel_rfl)) h1 bel lt1) trodAll_mk0)), rfl, bel.frame _, fun h => by cases h⟩
theorem over : Rows.voiceConvertsRow.holds Tryz.pinned (OpenSpec.ofChange Rows.voiceConvertsSpec) :=
  OpenClaim.holds_of_wide 4 Tryz.f4 rfl rfl rfl rfl rfl rfl rfl ⟨rfl, rfl, rfl, rfl, rfl⟩ rfl rfl rfl rfl rfl (by kernel_rfl) Tryz.func4 (by kernel_rfl)
    (of_decide_eq_true (by kernel_rfl)) (by unfold Func.isWrapper; first | (rw [if_pos (by decide +kernel)]; kernel_rfl) | (rw [if_neg (by decide +kernel)]; exact ⟨rfl, rfl⟩))
    (fun os started H enc _ => lifted os started H enc)
theorem proved : Rows.VoiceConvertsSaid := over
#print axioms proved
end Go.Proofs.YtigfeinnobfflaaGreat.voiceConverts
