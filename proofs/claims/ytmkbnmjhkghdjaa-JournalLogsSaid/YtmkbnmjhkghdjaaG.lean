/- Chapter 20: arguments, opened. -/
import Derived.Test.YtmkbnmjhkghdjaaT
import Derived.Test.YtmkbnmjhkghdjaaHB
set_option linter.unusedVariables false
set_option linter.unusedSimpArgs false
namespace Go.Proofs.Ytmkbnmjhkghdjaa
open Go.RowKit
section
variable {F : Ty}
theorem sh_bytes {m : Nat} {x : DV} (h : Sh (tabF F tyRows) (m + 2) 22 [x]) : ∃ l : List UInt8, x = bD l ∧ l.length ≤ maxLen := Sh.bytes h (e := 5) rfl rfl rfl rfl rfl
def recD (k : Nat) (l : List UInt8) : List DV := [.val (.int .u8 k), bD l]
theorem sh_rec {m : Nat} {ds : List DV} (h : Sh (tabF F tyRows) (m + 3) 24 ds) : ∃ (k : Nat) (l : List UInt8), ds = recD k l ∧ k < 256 ∧ l.length ≤ maxLen := by
  obtain ⟨h1, h2⟩ := Sh.fld h rfl rfl
  have a0 := Sh.at (o := 0) (ft := 5) h2 rfl rfl
  have a1 := Sh.at (o := 1) (ft := 22) h2 rfl rfl
  match ds, h1 with
  | [x, y], _ =>
    obtain ⟨n, e1, hn⟩ := Sh.int (x := x) a0 rfl rfl
    obtain ⟨l, e2, hl⟩ := sh_bytes (x := y) a1
    have := wf_u8 hn
    subst e1 e2
    refine ⟨n.toNat, l, ?_, by omega, hl⟩
    unfold recD
    rw [show ((n.toNat : Nat) : Int) = n from by omega]
end
section
variable {H : Type} {ec : TypeId × Value → H} {W : World} {base : Nat} {spare : Nat → Bool} {held : Bool} {v : Value} {d : DataW H} {ps : List MemPlace}
theorem arg_int {b0 : Nat} (hv : v.okWide Try.prog W .any b0 3) (h : DataW.Trod ec Try.prog W base spare held 3 v d ps) : ∃ n : Int, True ∧ Rel (E0 W) (aInt .i64 n) v := by
  obtain ⟨x, h1, h2⟩ := open_one (m := 1) KK.hT (by kernel_rfl) (by kernel_rfl) hv h
  obtain ⟨n, rfl, _⟩ := Sh.int h1 rfl rfl
  exact ⟨n, trivial, h2⟩
theorem arg_bytes {b0 : Nat} (hv : v.okWide Try.prog W .any b0 22) (h : DataW.Trod ec Try.prog W base spare held 22 v d ps) : ∃ l : List UInt8, l.length ≤ maxLen ∧ Rel (E0 W) (.d (bD l)) v := by
  obtain ⟨x, h1, h2⟩ := open_one (m := 2) KK.hT (by kernel_rfl) (by kernel_rfl) hv h
  obtain ⟨l, rfl, hl⟩ := sh_bytes (m := 0) h1
  exact ⟨l, hl, h2⟩
theorem arg_rec {b0 : Nat} (hv : v.okWide Try.prog W .any b0 24) (h : DataW.Trod ec Try.prog W base spare held 24 v d ps) : ∃ r : Nat × List UInt8, (r.1 < 256 ∧ r.2.length ≤ maxLen) ∧ Rel (E0 W) (.agg [aInt .u8 r.1, .d (bD r.2)]) v := by
  obtain ⟨ds, h1, h2⟩ := open_agg (m := 3) KK.hT (by kernel_rfl) (by kernel_rfl) hv h
  obtain ⟨k, l, rfl, hk, hl⟩ := sh_rec (m := 0) h1
  exact ⟨(k, l), ⟨hk, hl⟩, h2⟩
end
end Go.Proofs.Ytmkbnmjhkghdjaa
