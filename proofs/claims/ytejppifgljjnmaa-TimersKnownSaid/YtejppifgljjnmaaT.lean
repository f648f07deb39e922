/- The timers as data. -/
import Derived.Test.YtejppifgljjnmaaB
set_option linter.unusedVariables false
set_option linter.unusedSimpArgs false
namespace Go.Proofs.Ytejppifgljjnmaa
open Go.RowKit

structure Tm where
  at_ : Int
  owner : Int
  kind : Int
  deriving DecidableEq
def Tm.enc (t : Tm) : List Value := [.int .i64 t.at_, .int .i64 t.owner, .int .i64 t.kind]
theorem Tm.enc_length (t : Tm) : t.enc.length = 3 := rfl
abbrev cellsT (ts : List Tm) : List Value := ts.flatMap Tm.enc
theorem cellsT_length (ts : List Tm) : (cellsT ts).length = ts.length * 3 := flat_length _ _ Tm.enc_length ts

theorem RdT {w : World} {A : Option Addr} {ts : List Tm} (h : Rd w A (cellsT ts)) {k : Nat} {t : Tm} (ht : ts[k]? = some t) :
    ∃ b o, A = some ⟨b, o, none⟩ ∧ w.cell? ⟨b, o + k * 3, none⟩ = some (.int .i64 t.at_) ∧ w.cell? ⟨b, o + k * 3 + 1, none⟩ = some (.int .i64 t.owner) ∧ w.cell? ⟨b, o + k * 3 + 2, none⟩ = some (.int .i64 t.kind) := by
  have hk := (List.getElem?_eq_some_iff.1 ht).1
  obtain ⟨b, o, hA, hc⟩ := h.at_ (j := k * 3) (by rw [cellsT_length]; omega)
  refine ⟨b, o, hA, hc _ _ ?_, ?_, ?_⟩
  · exact flat_get Tm.enc 3 Tm.enc_length ts k t ht 0 (by omega)
  · rw [Nat.add_assoc]; exact hc _ _ (flat_get Tm.enc 3 Tm.enc_length ts k t ht 1 (by omega))
  · rw [Nat.add_assoc]; exact hc _ _ (flat_get Tm.enc 3 Tm.enc_length ts k t ht 2 (by omega))

theorem Tm.enc_one (t : Tm) : ∀ u ∈ t.enc, u.oneCell' = true := by
  intro u hu
  simp [Tm.enc] at hu
  rcases hu with rfl | rfl | rfl <;> rfl
theorem ET28 : ElemTy Try.prog 23 28 3 24 := by
  refine ⟨Try.underlying23, ?_, by omega⟩
  have h : (Try.prog.info? 28).map (fun i => (i.zero, i.size, i.bytes)) = some (some (.agg #[.int .i64 0, .int .i64 0, .int .i64 0]), 3, 24) := by kernel_rfl
  obtain ⟨i, a, b, c, d⟩ := info_parts h
  exact ⟨i, _, a, b, c, d, rfl⟩
abbrev IsT (w : World) (v : Value) (l : List Tm) : Prop := IsL Tm.enc w v l
abbrev OwnT (w : World) (base : Nat) (v : Value) (l : List Tm) : Prop := OwnL Tm.enc 28 3 w base v l
end Go.Proofs.Ytejppifgljjnmaa
