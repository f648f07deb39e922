/- The functions that the run enters. -/
import Derived.Test.YtohhpcggahlpjaaT
namespace Go.Proofs.Ytohhpcggahlpjaa
open Go.RowKit
noncomputable def tabL : List (Nat × Func) := [(3, Try.f3), (4, Try.f4), (5, Try.f5), (6, Try.f6), (7, Try.f7), (8, Try.f8), (9, Try.f9), (10, Try.f10), (11, Try.f11), (12, Try.f12), (13, Try.f13), (14, Try.f14), (15, Try.f15), (16, Try.f16), (17, Try.f17), (18, Try.f18), (19, Try.f19), (20, Try.f20), (21, Try.f21), (22, Try.f22), (23, Try.f23), (24, Try.f24), (25, Try.f25), (26, Try.f26), (27, Try.f27), (28, Try.f28), (29, Try.f29), (30, Try.f30), (31, Try.f31), (32, Try.f32), (33, Try.f33), (34, Try.f34), (35, Try.f35)]
theorem tabL_ok : TabOk Try.prog tabL := ⟨Try.func3, by kernel_rfl, Try.func4, by kernel_rfl, Try.func5, by kernel_rfl, Try.func6, by kernel_rfl, Try.func7, by kernel_rfl, Try.func8, by kernel_rfl, Try.func9, by kernel_rfl, Try.func10, by kernel_rfl, Try.func11, by kernel_rfl, Try.func12, by kernel_rfl, Try.func13, by kernel_rfl, Try.func14, by kernel_rfl, Try.func15, by kernel_rfl, Try.func16, by kernel_rfl, Try.func17, by kernel_rfl, Try.func18, by kernel_rfl, Try.func19, by kernel_rfl, Try.func20, by kernel_rfl, Try.func21, by kernel_rfl, Try.func22, by kernel_rfl, Try.func23, by kernel_rfl, Try.func24, by kernel_rfl, Try.func25, by kernel_rfl, Try.func26, by kernel_rfl, Try.func27, by kernel_rfl, Try.func28, by kernel_rfl, Try.func29, by kernel_rfl, Try.func30, by kernel_rfl, Try.func31, by kernel_rfl, Try.func32, by kernel_rfl, Try.func33, by kernel_rfl, Try.func34, by kernel_rfl, Try.func35, by kernel_rfl, trivial⟩
/-- No contract. -/
def noC : ConK := fun _ _ _ => none
theorem noC_ok : ∀ f args rd v us rds, noC f args rd = some (v, us, rds) → fnOk Try.prog f = true ∧ Does Try.prog (fun _ => none) f args rds v us rd := fun _ _ _ _ _ _ h => by cases h
end Go.Proofs.Ytohhpcggahlpjaa
