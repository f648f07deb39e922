/- Chapter 20: write and Check, handed own rows. -/
import Derived.Test.YtmkbnmjhkghdjaaA7
set_option linter.unusedVariables false
set_option linter.unusedSimpArgs false
namespace Go.Proofs.Ytmkbnmjhkghdjaa
open Go.RowKit
set_option maxHeartbeats 2000000
/-- write(b, ..), b and the fields own rows. -/
theorem write_row {rd : Nat → Option AO} {r r2 q n m : Nat} {cap : Option Nat} {cells cb : List DV} {wr : Bool} (l : List UInt8) (fs : List (Nat × Nat)) (hr : rd r = some (.data 5 1 cb true)) (hq : rd q = some (.data 62 2 cells wr)) (h2 : rd r2 = none) (h3 : (decide (r ≠ q) && decide (r2 ≠ 1 ∧ r ≠ 2)) = true) (hb : cb = bytesD l) (hn : n = l.length) (hc : cells = fieldsD fs) (hm : m = fs.length) (hf : ∀ f ∈ fs, f.1 < 4294967296 ∧ f.2 ≤ 4) (hl : l.length + 8 * fs.length ≤ 1000000000) {c1 : List DV} {n1 : Nat} (hc1 : bytesD (l ++ enc fs) = c1) (hn1 : (l ++ enc fs).length = n1) :
    Does Try.prog (fun _ => none) 33 [.sl r 0 n none, .sl q 0 m cap] [r, r2, q] (.sl r2 0 n1 none) ([(r2, .data 5 1 c1 true), (r, .dead)] ++ [(q, .data 62 2 cells false)]) rd := by
  subst hc1 hn1
  simp only [Bool.and_eq_true, decide_eq_true_eq] at h3
  obtain ⟨hrq, hr21, hr2⟩ := h3
  have hrr2 : r ≠ r2 := by rintro rfl; rw [h2] at hr; cases hr
  have hqr2 : q ≠ r2 := by rintro rfl; rw [h2] at hq; cases hq
  have W := does_sw [(1, r), (2, r2)] (write_o l fs hf hl)
  have s1 : sw [(1, r), (2, r2)] 1 = r := by simp [sw, hr2, hrr2]
  have s2 : sw [(1, r), (2, r2)] 2 = r2 := by simp [sw, Ne.symm hr2]
  simp only [renL, renV, renH, renO, s1, s2] at W
  rw [← hc, ← hm, ← hn, ← hb] at W
  have hlen : cells.length = m * 2 := by rw [hc, hm]; unfold fieldsD; clear hc hm W hf hl; induction fs with | nil => rfl | cons a l ih => simp only [List.flatMap_cons, List.length_append, ih, List.length_cons, List.length_nil]; omega
  have u1 : updF rd [(q, .data 62 2 cells false)] r = some (.data 5 1 cb true) := by simp [updF, look, Ne.symm hrq, hr]
  have u2 : updF rd [(q, .data 62 2 cells false)] r2 = none := by simp [updF, look, hqr2, h2]
  refine does_freeze (F := [(q, .data 62 2 cells false)]) (args' := [.sl r 0 n none, .d (.dl cells m none)])
    (does_of_O W ?_ rfl ?_ ?_ ?_) ⟨by simp, ⟨_, _, _, _, hq, rfl⟩, trivial⟩ ?_
  · intro x hx
    rcases List.mem_singleton.1 hx with rfl
    exact ⟨by simp, u1⟩
  · simp [refsB, AV.refs, AV.refs.refsL, look]
  · intro x hx
    rcases List.mem_cons.1 hx with rfl | hx
    · exact ⟨by simp, .inl u2⟩
    · rcases List.mem_singleton.1 hx with rfl
      exact ⟨by simp, .inr (by simp [look])⟩
  · simp [look, Ne.symm hrr2]
  · rw [TdL]
    refine ⟨_, _, rfl, ?_, ?_⟩
    · rw [TdV]
    · rw [TdL]
      refine ⟨_, _, rfl, ?_, by rw [TdL]⟩
      rw [TdV]
      unfold TdD lookF look
      simp only [if_true]
      refine .inl ?_
      rw [List.drop_zero, List.take_of_length_le (by omega)]
/-- Check of an own row. -/
theorem check_row {rd : Nat → Option AO} {r n : Nat} {cap : Option Nat} {cb : List DV} {wr : Bool} (l : List UInt8) (hr : rd r = some (.data 5 1 cb wr)) (hb : cb = bytesD l) (hn : n = l.length) (hl : l.length ≤ 1000000000) {c : Int} (hc : (crc l : Int) = c) :
    Does Try.prog (fun _ => none) 14 [.sl r 0 n cap] [r] (aInt .u32 c) [] rd := by
  subst hc
  have W := check_o l (Nat.le_trans hl (by show _ ≤ 9223372036854775807; omega))
  unfold bD at W
  rw [← hb, ← hn] at W
  refine does_lend W rfl (F := [(r, .data 5 1 cb false)]) ⟨by simp, ⟨_, _, _, _, hr, rfl⟩, trivial⟩ ?_ rfl
  rw [TdL]
  refine ⟨_, _, rfl, ?_, by rw [TdL]⟩
  rw [TdV]
  unfold TdD lookF look
  simp only [if_true]
  refine .inl ?_
  rw [List.drop_zero, List.take_of_length_le (by rw [hb, bytesD_length]; omega)]
end Go.Proofs.Ytmkbnmjhkghdjaa
