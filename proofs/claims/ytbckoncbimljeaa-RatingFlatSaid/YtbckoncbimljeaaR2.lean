/- The rounds of rating.Cost's loop: the iterator. -/
import Derived.Test.YtbckoncbimljeaaR1
import Derived.RangeFuncKeeps
import Derived.RangeFuncLeaves
import Derived.Shelf.Abstract
import Derived.WalkKit
import Derived.OwnWalkIn
import Derived.TacticsInMore
import Derived.LoopNIn
import Derived.LoopIn
import Derived.Test.YtbckoncbimljeaaProg
set_option linter.unusedVariables false
set_option linter.unusedSimpArgs false
namespace Go.Proofs.Ytbckoncbimljeaa
open Go.RowKit Go.Shelf
attribute [local go_sem] Oper.semAt_some

/-- When the k-th piece begins. -/
def begN (at0 first step : Int) : Nat → Int
  | 0 => at0
  | k + 1 => wrap64 (begN at0 first step k + wrap64 (1000 * (if k = 0 then first else step)))
set_option maxRecDepth 100000 in
set_option maxHeartbeats 1000000 in
theorem iter_in (m l ba bn br : Nat) (at0 first step : Int) (n : Nat) (hn : (n : Int) ≤ 4000000000000000000) (I : Nat → World → Prop)
    (hc : ∀ k W, I k W → W.cell? ⟨ba, 0, none⟩ = some (.int .i64 at0) ∧ W.cell? ⟨bn, 0, none⟩ = some (.int .i64 n) ∧ W.cell? ⟨br, 2, none⟩ = some (.int .i64 first) ∧ W.cell? ⟨br, 3, none⟩ = some (.int .i64 step))
    (hY : ∀ k W, k < n → I k W → YieldAt Fence.wide (m - 1) Try.prog l #[.int .i64 k, .int .i64 (begN at0 first step k)] W fun e W' => e = .returned (.bool true) ∧ I (k + 1) W')
    (W : World) (h0 : I 0 W) : CallsIn Fence.wide m Try.prog 40 #[.func (.yield l) #[] #[], .pointer (some ⟨ba, 0, none⟩), .pointer (some ⟨bn, 0, none⟩), .pointer (some ⟨br, 0, none⟩)] W fun e W' => (∃ v, e = .returned v) ∧ I n W' := by
  refine callsIn_of_wp Try.func40 rfl trivial ?_ rfl
  simp only [Try.ntmps40, List.size_toArray, List.length_cons, List.length_nil, Nat.reduceAdd, Nat.reduceSub, Array.replicate_succ, Array.replicate_zero, List.push_toArray, List.append_toArray, List.nil_append, List.cons_append]
  obtain ⟨c1, c2, c3, c4⟩ := hc 0 W h0
  gi_wp2
  gi_loopw [5, 9] (fun p5 p9 wr => ∃ k : Nat, p5 = .int .i64 (begN at0 first step k) ∧ p9 = .int .i64 k ∧ k ≤ n ∧ I k wr)
    (fun p5 p9 wr => n - (intOf p9).toNat)
  case atStart =>
    exact ⟨0, rfl, rfl, Nat.zero_le _, h0⟩
  case round =>
    obtain ⟨k, rfl, rfl, hk, hI⟩ := hrel
    obtain ⟨c1, c2, c3, c4⟩ := hc k wr hI
    by_cases hlt : k < n
    · have hlt' : (k : Int) < (n : Int) := by omega
      obtain ⟨fn, tmps, assign, body, hy, hR⟩ := hY k wr hlt hI
      gi_wp2
      refine ⟨fun g => (by cases g), hR.mono ?_⟩
      rintro e W3 ⟨rfl, hI3⟩
      obtain ⟨d1, d2, d3, d4⟩ := hc (k + 1) W3 hI3
      gi_wp2
      · rename_i hb
        have hk0 : k = 0 := by simpa using hb
        exact ⟨⟨k + 1, by rw [begN, if_pos hk0], rfl, by omega, hI3⟩, by simp only [intOf]; omega⟩
      · rename_i hb
        have hk0 : ¬ k = 0 := by simpa using hb
        exact ⟨⟨k + 1, by rw [begN, if_neg hk0], rfl, by omega, hI3⟩, by simp only [intOf]; omega⟩
    · have hge : (n : Int) ≤ (k : Int) := by omega
      gi_wp2
      go_end0
      exact ⟨⟨_, rfl⟩, by rw [show n = k from by omega]; exact hI⟩
end Go.Proofs.Ytbckoncbimljeaa
