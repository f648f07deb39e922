/- start, play. -/
import Derived.Test.YtpbanfkjeiihbaaDoorS7
set_option linter.unusedVariables false
set_option linter.unusedSimpArgs false
namespace Go.Proofs.YtpbanfkjeiihbaaDoor
open Go.RowKit

theorem untilL_now (f : StepF) (t : Int) : ∀ n s, (untilL f t n s).now ≤ max s.now t
  | 0, s => by simp [untilL]; omega
  | n + 1, s => by
    unfold untilL
    split
    · omega
    · rename_i h
      have h1 := firstS_due s.due t 14 (by omega)
      refine Int.le_trans (untilL_now f t n _) ?_
      unfold fireS
      rw [giveS_now]
      show max (s.due.getD _ 0) t ≤ _
      omega
theorem untilS_now (f : StepF) (s : Sim) (t : Int) : (untilS f s t).now ≤ max s.now t := by
  have := untilL_now f t 200 s
  unfold untilS endS
  show max _ t ≤ _
  omega
def startS : Sim := takeS zeroS m0 l0
def half (k : Nat) : Sim := ⟨⟨0, 0, 0⟩, List.replicate k (-1) ++ List.replicate (14 - k) 0, 0, []⟩
theorem half_step {k : Nat} (hk : k < 14) : (half k).due.set k (-1) = (half (k + 1)).due := by
  unfold half
  simp only
  rw [List.set_append_right _ _ (by simp), List.length_replicate, Nat.sub_self, show 14 - k = (14 - (k + 1)) + 1 by omega, List.replicate_succ, List.set_cons_zero, List.replicate_succ', List.append_assoc]
  rfl
theorem l0_ok : l0.length ≤ 3 ∧ ∀ o ∈ l0, okOut o := by
  refine ⟨by decide, ?_⟩
  simp [l0, okOut]
set_option maxRecDepth 100000 in
set_option maxHeartbeats 4000000 in
theorem start_sim (w : World) (hG : Gl w) :
    Calls Tryd.prog 15 #[] w fun e w' => ∃ v, e = .returned (.pointer (some ⟨w.heap.size, 0, none⟩)) ∧ At_ w' w.heap.size v startS ∧ Gl w' ∧ Below w.heap.size w w' := by
  have hA : At_ (w.alloc (.cells (simC (half 0) (.slice none 0 0)) 44)) w.heap.size (.slice none 0 0) (half 0) := ⟨Blk.new w _ _, OwnL.nil _ _, rfl⟩
  have hb : Below w.heap.size w (w.alloc (.cells (simC (half 0) (.slice none 0 0)) 44)) := (Below.refl _ _).alloc (Nat.le_refl _) _
  have hw : w.alloc (.cells (simC (half 0) (.slice none 0 0)) 44) = w.alloc (.cells #[.int .u8 0, .int .i64 0, .int .i64 0, .int .i64 0, .int .i64 0, .int .i64 0, .int .i64 0, .int .i64 0, .int .i64 0, .int .i64 0, .int .i64 0, .int .i64 0, .int .i64 0, .int .i64 0, .int .i64 0, .int .i64 0, .int .i64 0, .int .i64 0, .slice none 0 0] 44) := rfl
  have hg : 0 < w.heap.size := hG.1
  have hG1 := hG.keep hb hg
  have HW := Lib.hid hw; clear hw
  go_enter Tryd.func15, Tryd.ntmps15
  go_wp2_with fail
  rw [← HW.out]
  go_loopw [2] (fun i wr => ∃ k : Nat, k ≤ 14 ∧ i = .int .i64 k ∧ At_ wr w.heap.size (.slice none 0 0) (half k) ∧ Gl wr ∧ Below w.heap.size w wr) (fun i _ => 14 - (intOf i).toNat)
  case atStart => exact ⟨0, by omega, rfl, hA, hG1, hb⟩
  case round =>
    clear hA hb hG1 HW
    obtain ⟨k, hk, rfl, hA, hG1, hb⟩ := hrel
    by_cases hlt : k < 14
    · obtain ⟨d, hd⟩ := get_lt (show k < (half k).due.length by rw [hA.due]; exact hlt)
      have cd := hA.cd hd
      have fz := hA.fz
      have hA1 := hA.setDue hlt (-1)
      have e : (⟨(half k).m, (half k).due.set k (-1), (half k).now, (half k).log⟩ : Sim) = half (k + 1) := by rw [half_step hlt]; rfl
      rw [e] at hA1
      have hb1 := below_set hb (Nat.le_refl w.heap.size) (3 + k) (.int .i64 (-1))
      have hG2 := hG.keep hb1 hg
      clear hd e
      go_wp2
      go_roundw
      case rel => exact ⟨k + 1, by omega, by go_num, hA1, hG2, hb1⟩
      case measure => simp [intOf]; omega
    · have hk14 : k = 14 := by omega
      subst hk14
      go_wp2_with fail
      refine (start_any _).mono ?_
      rintro e w3 ⟨vl, rfl, hown, hb3⟩
      have hA3 := (hA.below hb3).alloc (.cells #[.int .u8 m0.st, .int .i64 m0.wait, .int .i64 m0.code] 24)
      have hap : Apart (.slice none 0 0) vl := Apart.nil _
      have hb4 := (hb.trans (hb3.mono hb.size)).alloc (Nat.le_trans hb.size hb3.size) (.cells #[.int .u8 m0.st, .int .i64 m0.wait, .int .i64 m0.code] 24)
      have hB4 := Blk.new w3 24 #[.int .u8 m0.st, .int .i64 m0.wait, .int .i64 m0.code]
      have hc4 := hB4.cell
      have hown4 := hown.alloc (.cells #[.int .u8 m0.st, .int .i64 m0.wait, .int .i64 m0.code] 24)
      have hz := hA.lt
      go_wp2_with fail
      refine (take_any _ w.heap.size wr.heap.size _ vl (half 14) m0 l0 hA3 hown4 hap hz (by decide) (fun o ho => okO_of (l0_ok.2 o ho)) (by have := l0_ok.1; show 0 + _ ≤ _; omega)).mono ?_
      rintro e w5 ⟨rfl, v5, hA5, hb5⟩
      have hb6 := hb4.trans hb5
      have hG6 := hG.keep hb6 hg
      have hA6 : At_ w5 w.heap.size v5 startS := hA5
      clear hA5 hb5 hc4 hB4
      go_wp2
      go_ret
      exact ⟨v5, rfl, hA6, hG6, hb6⟩
end Go.Proofs.YtpbanfkjeiihbaaDoor
