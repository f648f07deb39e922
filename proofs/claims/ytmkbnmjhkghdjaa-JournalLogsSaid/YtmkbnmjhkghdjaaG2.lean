/- Chapter 20: a log as an argument. -/
import Derived.Test.YtmkbnmjhkghdjaaG
set_option linter.unusedVariables false
set_option linter.unusedSimpArgs false
namespace Go.Proofs.Ytmkbnmjhkghdjaa
open Go.RowKit
theorem sh_log {F : Ty} {m : Nat} {ds : List DV} (h : Sh (tabF F tyRows) (m + 3) 36 ds) : ∃ (l : List UInt8) (s t : Int), ds = [bD l, .val (.int .i64 s), .val (.int .i64 t)] := by
  obtain ⟨h1, h2⟩ := Sh.fld h rfl rfl
  have a0 := Sh.at (o := 0) (ft := 22) h2 rfl rfl
  have a1 := Sh.at (o := 1) (ft := 3) h2 rfl rfl
  have a2 := Sh.at (o := 2) (ft := 3) h2 rfl rfl
  match ds, h1 with
  | [x, y, z], _ =>
    obtain ⟨l, e1, hl⟩ := sh_bytes (x := x) a0
    obtain ⟨n, e2, hn⟩ := Sh.int (x := y) a1 rfl rfl
    obtain ⟨k, e3, hk⟩ := Sh.int (x := z) a2 rfl rfl
    exact ⟨l, n, k, by rw [e1, e2, e3]⟩
theorem arg_log {H : Type} {ec : TypeId × Value → H} {W : World} {base b0 : Nat} {spare : Nat → Bool} {held : Bool} {v : Value} {d : DataW H} {ps : List MemPlace} (hv : v.okWide Try.prog W .any b0 36) (h : DataW.Trod ec Try.prog W base spare held 36 v d ps) : ∃ r : List UInt8 × Int × Int, True ∧ Rel (E0 W) (.agg [.d (bD r.1), aInt .i64 r.2.1, aInt .i64 r.2.2]) v := by
  obtain ⟨ds, h1, h2⟩ := open_agg (m := 3) KK.hT (by kernel_rfl) (by kernel_rfl) hv h
  obtain ⟨l, s, t, rfl⟩ := sh_log (m := 0) h1
  exact ⟨(l, s, t), trivial, h2⟩
end Go.Proofs.Ytmkbnmjhkghdjaa
