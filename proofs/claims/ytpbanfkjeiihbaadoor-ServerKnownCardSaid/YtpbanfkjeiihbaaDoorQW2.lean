/- Joins the plain laws and works. -/
import Derived.Test.YtpbanfkjeiihbaaDoorQ
import Derived.Test.YtpbanfkjeiihbaaDoorW2
set_option linter.unusedVariables false
set_option linter.unusedSimpArgs false
namespace Go.Proofs.YtpbanfkjeiihbaaDoor
open Go.RowKit
theorem At_.drewN {w : World} {g : Nat} {v : Value} {s : Sim} (h : At_ w g v s) (n : Nat) : At_ (w.drewN n) g v s := ⟨h.blk, h.log, h.due⟩
theorem Gl.drewN {w : World} (h : Gl w) (n : Nat) : Gl (w.drewN n) := h
/-- The last looks of a law: the log's end, and the examples. -/
theorem closed_t (w : World) (g : Nat) (v : Value) (s : Sim) (d : Int) (h : At_ w g v s) (hi : Inv s d) (hlen : s.log.length ≤ 1000000000) :
    Calls Tryd.prog 20 #[.pointer (some ⟨g, 0, none⟩)] w fun e w' => e = .returned (.bool true) ∧ ∃ n, w' = w.drewN n :=
  (closed_any w g v s h hlen).mono fun e w' ⟨h1, h2⟩ => ⟨by rw [h1, hi.closed], h2⟩
end Go.Proofs.YtpbanfkjeiihbaaDoor
