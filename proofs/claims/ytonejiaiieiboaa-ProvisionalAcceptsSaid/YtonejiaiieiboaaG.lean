/- Chapter 18: arguments, opened. -/
import Derived.Test.YtonejiaiieiboaaT
import Derived.Test.YtonejiaiieiboaaHB
set_option linter.unusedVariables false
set_option linter.unusedSimpArgs false
namespace Go.Proofs.Ytonejiaiieiboaa
open Go.RowKit
section
variable {H : Type} {ec : TypeId × Value → H} {W : World} {base : Nat} {spare : Nat → Bool} {held : Bool} {v : Value} {d : DataW H} {ps : List MemPlace}
theorem arg_int {b0 : Nat} (hv : v.okWide Try.prog W .any b0 3) (h : DataW.Trod ec Try.prog W base spare held 3 v d ps) : ∃ n : Int, True ∧ Rel (E0 W) (aInt .i64 n) v := by
  obtain ⟨x, h1, h2⟩ := open_one (m := 1) KK.hT (by kernel_rfl) (by kernel_rfl) hv h
  obtain ⟨n, rfl, _⟩ := Sh.int h1 rfl rfl
  exact ⟨n, trivial, h2⟩
end
end Go.Proofs.Ytonejiaiieiboaa
