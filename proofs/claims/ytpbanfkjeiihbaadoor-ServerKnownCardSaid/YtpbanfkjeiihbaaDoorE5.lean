/- Chapter 15: the reference's Step, the other cases. -/
import Derived.Test.YtpbanfkjeiihbaaDoorE4
set_option linter.unusedVariables false
set_option linter.unusedSimpArgs false
namespace Go.Proofs.YtpbanfkjeiihbaaDoor
open Go.RowKit

set_option maxRecDepth 100000 in
set_option maxHeartbeats 4000000 in
theorem refStep_h (w : World) (wt c kd cd tm : Int) (hm : mayB ⟨2, wt, c⟩ = true) (e4 : (kd == 4) = false) : Calls Tryd.prog 23 #[(⟨2, wt, c⟩ : Mc).val, (⟨kd, cd, tm⟩ : Tin).val] w fun e w' =>
    ∃ v, e = .returned (.tuple #[(stepS ⟨2, wt, c⟩ ⟨kd, cd, tm⟩).1.val, v]) ∧ OwnO w' w.heap.size v (stepS ⟨2, wt, c⟩ ⟨kd, cd, tm⟩).2 ∧ Below w.heap.size w w' := by
  have hb0 : Below w.heap.size w (((w.alloc (.cells #[.int .u8 2, .int .i64 wt, .int .i64 c] 24)).alloc (.cells #[.int .u8 kd, .int .i64 cd, .int .u8 tm] 28)).alloc (.cells #[.int .u8 0, .int .i64 0, .int .i64 0] 24)) :=
    (((Below.refl _ _).alloc (Nat.le_refl _) _).alloc (by simp) _).alloc (by simp; omega) _
  have b0 : Blk (((w.alloc (.cells #[.int .u8 2, .int .i64 wt, .int .i64 c] 24)).alloc (.cells #[.int .u8 kd, .int .i64 cd, .int .u8 tm] 28)).alloc (.cells #[.int .u8 0, .int .i64 0, .int .i64 0] 24)) w.heap.size 24 #[.int .u8 2, .int .i64 wt, .int .i64 c] := ((Blk.new w _ _).alloc _).alloc _
  have b1 : Blk (((w.alloc (.cells #[.int .u8 2, .int .i64 wt, .int .i64 c] 24)).alloc (.cells #[.int .u8 kd, .int .i64 cd, .int .u8 tm] 28)).alloc (.cells #[.int .u8 0, .int .i64 0, .int .i64 0] 24)) (w.heap.size + 1) 28 #[.int .u8 kd, .int .i64 cd, .int .u8 tm] := (blk_new (by simp) _ _ _ rfl).alloc _
  have b2 : Blk (((w.alloc (.cells #[.int .u8 2, .int .i64 wt, .int .i64 c] 24)).alloc (.cells #[.int .u8 kd, .int .i64 cd, .int .u8 tm] 28)).alloc (.cells #[.int .u8 0, .int .i64 0, .int .i64 0] 24)) (w.heap.size + 1 + 1) 24 #[.int .u8 0, .int .i64 0, .int .i64 0] := blk_new (by simp) _ _ _ rfl
  have s0 : w.heap.size + 3 = (((w.alloc (.cells #[.int .u8 2, .int .i64 wt, .int .i64 c] 24)).alloc (.cells #[.int .u8 kd, .int .i64 cd, .int .u8 tm] 28)).alloc (.cells #[.int .u8 0, .int .i64 0, .int .i64 0] 24)).heap.size := by simp
  go_enter Tryd.func23, Tryd.ntmps23
  go_wp2_with fail
  generalize (((w.alloc (.cells #[.int .u8 2, .int .i64 wt, .int .i64 c] 24)).alloc (.cells #[.int .u8 kd, .int .i64 cd, .int .u8 tm] 28)).alloc (.cells #[.int .u8 0, .int .i64 0, .int .i64 0] 24)) = w1 at *
  refine (refMay_any _ ⟨2, wt, c⟩).mono ?_
  rw [hm]
  have hm' := Lib.hid hm; clear hm
  rintro e w2 ⟨rfl, hb2⟩
  have hz : w.heap.size + 3 ≤ w2.heap.size := by rw [s0]; exact hb2.size
  have B0 := b0.ext hb2
  have B1 := b1.ext hb2
  have B2 := b2.ext hb2
  have hbw := hb0.trans (hb2.mono (by omega))
  clear s0 b0 b1 b2 hb2 hb0
  obtain ⟨N, hN⟩ : ∃ N, N = w.heap.size := ⟨_, rfl⟩
  rw [← hN] at hz B0 B1 B2 hbw ⊢
  have HN := Lib.hid hN
  clear hN
  have c0 := B0.cell
  have c1 := B1.cell
  have c2 := B2.cell
  have f2 := B2.frozen
  have hz0 : N < w2.heap.size := by omega
  have hz1 : N + 1 < w2.heap.size := by omega
  have hz2 : N + 1 + 1 < w2.heap.size := by omega
  have R : Ready w w2 N ⟨2, wt, c⟩ ⟨kd, cd, tm⟩ := ⟨HN.out, B0, B1, B2, hbw⟩
  clear B0 B1 B2 hbw
  have hf : True := trivial
  go_upto_block 0 with (fail)
  have R5 := (R.alloc (.cells #[.int .u8 7, .int .i64 0, .int .i64 c] 24)).alloc (.cells #[.int .u8 1, .int .i64 cd, .int .u8 0, .int .i64 0] 53)
  have B8 := (Blk.new w2 24 #[.int .u8 7, .int .i64 0, .int .i64 c]).alloc (.cells #[.int .u8 1, .int .i64 cd, .int .u8 0, .int .i64 0] 53)
  have B9 : Blk ((w2.alloc (.cells #[.int .u8 7, .int .i64 0, .int .i64 c] 24)).alloc (.cells #[.int .u8 1, .int .i64 cd, .int .u8 0, .int .i64 0] 53)) (w2.heap.size + 1) 53 #[.int .u8 1, .int .i64 cd, .int .u8 0, .int .i64 0] := blk_new (by simp) _ _ _ rfl
  clear R c0 c1 c2 f2 hz hz0 hz1
  generalize (w2.alloc (.cells #[.int .u8 7, .int .i64 0, .int .i64 c] 24)).alloc (.cells #[.int .u8 1, .int .i64 cd, .int .u8 0, .int .i64 0] 53) = w5 at *
  generalize w2.heap.size = P at *
  have c00 : w5.cell? ⟨N, 0, none⟩ = some (.int .u8 2) := R5.b0.cell 0
  have c01 : w5.cell? ⟨N, 1, none⟩ = some (.int .i64 wt) := R5.b0.cell 1
  have c02 : w5.cell? ⟨N, 2, none⟩ = some (.int .i64 c) := R5.b0.cell 2
  have c10 : w5.cell? ⟨N + 1, 0, none⟩ = some (.int .u8 kd) := R5.b1.cell 0
  have c11 : w5.cell? ⟨N + 1, 1, none⟩ = some (.int .i64 cd) := R5.b1.cell 1
  have c12 : w5.cell? ⟨N + 1, 2, none⟩ = some (.int .u8 tm) := R5.b1.cell 2
  have c20 : w5.cell? ⟨N + 1 + 1, 0, none⟩ = some (.int .u8 0) := R5.b2.cell 0
  have c21 : w5.cell? ⟨N + 1 + 1, 1, none⟩ = some (.int .i64 0) := R5.b2.cell 1
  have c22 : w5.cell? ⟨N + 1 + 1, 2, none⟩ = some (.int .i64 0) := R5.b2.cell 2
  have f20 := R5.b2.frozen 0
  have f21 := R5.b2.frozen 1
  have f22 := R5.b2.frozen 2
  have c80 : w5.cell? ⟨P, 0, none⟩ = some (.int .u8 7) := B8.cell 0
  have c81 : w5.cell? ⟨P, 1, none⟩ = some (.int .i64 0) := B8.cell 1
  have c82 : w5.cell? ⟨P, 2, none⟩ = some (.int .i64 c) := B8.cell 2
  have c90 : w5.cell? ⟨P + 1, 0, none⟩ = some (.int .u8 1) := B9.cell 0
  have c91 : w5.cell? ⟨P + 1, 1, none⟩ = some (.int .i64 cd) := B9.cell 1
  have c92 : w5.cell? ⟨P + 1, 2, none⟩ = some (.int .u8 0) := B9.cell 2
  have c93 : w5.cell? ⟨P + 1, 3, none⟩ = some (.int .i64 0) := B9.cell 3
  have z0 := R5.b0.lt
  have z1 := R5.b1.lt
  have z2 := R5.b2.lt
  have z8 := B8.lt
  have z9 := B9.lt
  have y0 : ¬ (N = N + 1 + 1) := by omega
  have y1 : ¬ (N + 1 + 1 = N) := by omega
  have y2 : ¬ (P = N + 1 + 1) := by omega
  have y3 : ¬ (P + 1 = N + 1 + 1) := by omega
  have y4 : ¬ (N + 1 + 1 = P) := by omega
  have y5 : ¬ (N + 1 + 1 = P + 1) := by omega
  clear B8 B9
  have HS := Lib.hid (stepS_none (m := ⟨2, wt, c⟩) (i := ⟨kd, cd, tm⟩) hm'.out (by intro h; simp at h ⊢ <;> grind) (by intro h; simp at h ⊢ <;> grind) (by intro h; simp at h ⊢ <;> grind))
  go_wp2_with (go_at_call 29; refine (from_any _ _ _ _).mono ?_; rintro e w' ⟨rfl, rfl⟩)
  obtain ⟨hc0, hp, _, _⟩ := R5.fin ⟨2, wt, c⟩
  have hc := hc0.cell
  exact bodyPost_ret (v := .tuple #[(⟨2, wt, c⟩ : Mc).val, .slice none 0 0]) (by simp [results, Tryd.results23, go_sem, hc]) rfl ⟨.slice none 0 0, by rw [HS.out], by rw [HS.out]; exact OwnL.nil _ _, hp⟩
set_option maxRecDepth 100000 in
set_option maxHeartbeats 4000000 in
theorem refStep_i (w : World) (wt c kd cd tm : Int) (hm : mayB ⟨3, wt, c⟩ = true) (e1 : (kd == 1) = false) (e4 : (kd == 4) = false) (e6 : (kd == 6) = false) : Calls Tryd.prog 23 #[(⟨3, wt, c⟩ : Mc).val, (⟨kd, cd, tm⟩ : Tin).val] w fun e w' =>
    ∃ v, e = .returned (.tuple #[(stepS ⟨3, wt, c⟩ ⟨kd, cd, tm⟩).1.val, v]) ∧ OwnO w' w.heap.size v (stepS ⟨3, wt, c⟩ ⟨kd, cd, tm⟩).2 ∧ Below w.heap.size w w' := by
  have hb0 : Below w.heap.size w (((w.alloc (.cells #[.int .u8 3, .int .i64 wt, .int .i64 c] 24)).alloc (.cells #[.int .u8 kd, .int .i64 cd, .int .u8 tm] 28)).alloc (.cells #[.int .u8 0, .int .i64 0, .int .i64 0] 24)) :=
    (((Below.refl _ _).alloc (Nat.le_refl _) _).alloc (by simp) _).alloc (by simp; omega) _
  have b0 : Blk (((w.alloc (.cells #[.int .u8 3, .int .i64 wt, .int .i64 c] 24)).alloc (.cells #[.int .u8 kd, .int .i64 cd, .int .u8 tm] 28)).alloc (.cells #[.int .u8 0, .int .i64 0, .int .i64 0] 24)) w.heap.size 24 #[.int .u8 3, .int .i64 wt, .int .i64 c] := ((Blk.new w _ _).alloc _).alloc _
  have b1 : Blk (((w.alloc (.cells #[.int .u8 3, .int .i64 wt, .int .i64 c] 24)).alloc (.cells #[.int .u8 kd, .int .i64 cd, .int .u8 tm] 28)).alloc (.cells #[.int .u8 0, .int .i64 0, .int .i64 0] 24)) (w.heap.size + 1) 28 #[.int .u8 kd, .int .i64 cd, .int .u8 tm] := (blk_new (by simp) _ _ _ rfl).alloc _
  have b2 : Blk (((w.alloc (.cells #[.int .u8 3, .int .i64 wt, .int .i64 c] 24)).alloc (.cells #[.int .u8 kd, .int .i64 cd, .int .u8 tm] 28)).alloc (.cells #[.int .u8 0, .int .i64 0, .int .i64 0] 24)) (w.heap.size + 1 + 1) 24 #[.int .u8 0, .int .i64 0, .int .i64 0] := blk_new (by simp) _ _ _ rfl
  have s0 : w.heap.size + 3 = (((w.alloc (.cells #[.int .u8 3, .int .i64 wt, .int .i64 c] 24)).alloc (.cells #[.int .u8 kd, .int .i64 cd, .int .u8 tm] 28)).alloc (.cells #[.int .u8 0, .int .i64 0, .int .i64 0] 24)).heap.size := by simp
  go_enter Tryd.func23, Tryd.ntmps23
  go_wp2_with fail
  generalize (((w.alloc (.cells #[.int .u8 3, .int .i64 wt, .int .i64 c] 24)).alloc (.cells #[.int .u8 kd, .int .i64 cd, .int .u8 tm] 28)).alloc (.cells #[.int .u8 0, .int .i64 0, .int .i64 0] 24)) = w1 at *
  refine (refMay_any _ ⟨3, wt, c⟩).mono ?_
  rw [hm]
  have hm' := Lib.hid hm; clear hm
  rintro e w2 ⟨rfl, hb2⟩
  have hz : w.heap.size + 3 ≤ w2.heap.size := by rw [s0]; exact hb2.size
  have B0 := b0.ext hb2
  have B1 := b1.ext hb2
  have B2 := b2.ext hb2
  have hbw := hb0.trans (hb2.mono (by omega))
  clear s0 b0 b1 b2 hb2 hb0
  obtain ⟨N, hN⟩ : ∃ N, N = w.heap.size := ⟨_, rfl⟩
  rw [← hN] at hz B0 B1 B2 hbw ⊢
  have HN := Lib.hid hN
  clear hN
  have c0 := B0.cell
  have c1 := B1.cell
  have c2 := B2.cell
  have f2 := B2.frozen
  have hz0 : N < w2.heap.size := by omega
  have hz1 : N + 1 < w2.heap.size := by omega
  have hz2 : N + 1 + 1 < w2.heap.size := by omega
  have R : Ready w w2 N ⟨3, wt, c⟩ ⟨kd, cd, tm⟩ := ⟨HN.out, B0, B1, B2, hbw⟩
  clear B0 B1 B2 hbw
  have hf : True := trivial
  go_upto_block 0 with (fail)
  have R5 := (R.alloc (.cells #[.int .u8 7, .int .i64 0, .int .i64 c] 24)).alloc (.cells #[.int .u8 1, .int .i64 cd, .int .u8 0, .int .i64 0] 53)
  have B8 := (Blk.new w2 24 #[.int .u8 7, .int .i64 0, .int .i64 c]).alloc (.cells #[.int .u8 1, .int .i64 cd, .int .u8 0, .int .i64 0] 53)
  have B9 : Blk ((w2.alloc (.cells #[.int .u8 7, .int .i64 0, .int .i64 c] 24)).alloc (.cells #[.int .u8 1, .int .i64 cd, .int .u8 0, .int .i64 0] 53)) (w2.heap.size + 1) 53 #[.int .u8 1, .int .i64 cd, .int .u8 0, .int .i64 0] := blk_new (by simp) _ _ _ rfl
  clear R c0 c1 c2 f2 hz hz0 hz1
  generalize (w2.alloc (.cells #[.int .u8 7, .int .i64 0, .int .i64 c] 24)).alloc (.cells #[.int .u8 1, .int .i64 cd, .int .u8 0, .int .i64 0] 53) = w5 at *
  generalize w2.heap.size = P at *
  have c00 : w5.cell? ⟨N, 0, none⟩ = some (.int .u8 3) := R5.b0.cell 0
  have c01 : w5.cell? ⟨N, 1, none⟩ = some (.int .i64 wt) := R5.b0.cell 1
  have c02 : w5.cell? ⟨N, 2, none⟩ = some (.int .i64 c) := R5.b0.cell 2
  have c10 : w5.cell? ⟨N + 1, 0, none⟩ = some (.int .u8 kd) := R5.b1.cell 0
  have c11 : w5.cell? ⟨N + 1, 1, none⟩ = some (.int .i64 cd) := R5.b1.cell 1
  have c12 : w5.cell? ⟨N + 1, 2, none⟩ = some (.int .u8 tm) := R5.b1.cell 2
  have c20 : w5.cell? ⟨N + 1 + 1, 0, none⟩ = some (.int .u8 0) := R5.b2.cell 0
  have c21 : w5.cell? ⟨N + 1 + 1, 1, none⟩ = some (.int .i64 0) := R5.b2.cell 1
  have c22 : w5.cell? ⟨N + 1 + 1, 2, none⟩ = some (.int .i64 0) := R5.b2.cell 2
  have f20 := R5.b2.frozen 0
  have f21 := R5.b2.frozen 1
  have f22 := R5.b2.frozen 2
  have c80 : w5.cell? ⟨P, 0, none⟩ = some (.int .u8 7) := B8.cell 0
  have c81 : w5.cell? ⟨P, 1, none⟩ = some (.int .i64 0) := B8.cell 1
  have c82 : w5.cell? ⟨P, 2, none⟩ = some (.int .i64 c) := B8.cell 2
  have c90 : w5.cell? ⟨P + 1, 0, none⟩ = some (.int .u8 1) := B9.cell 0
  have c91 : w5.cell? ⟨P + 1, 1, none⟩ = some (.int .i64 cd) := B9.cell 1
  have c92 : w5.cell? ⟨P + 1, 2, none⟩ = some (.int .u8 0) := B9.cell 2
  have c93 : w5.cell? ⟨P + 1, 3, none⟩ = some (.int .i64 0) := B9.cell 3
  have z0 := R5.b0.lt
  have z1 := R5.b1.lt
  have z2 := R5.b2.lt
  have z8 := B8.lt
  have z9 := B9.lt
  have y0 : ¬ (N = N + 1 + 1) := by omega
  have y1 : ¬ (N + 1 + 1 = N) := by omega
  have y2 : ¬ (P = N + 1 + 1) := by omega
  have y3 : ¬ (P + 1 = N + 1 + 1) := by omega
  have y4 : ¬ (N + 1 + 1 = P) := by omega
  have y5 : ¬ (N + 1 + 1 = P + 1) := by omega
  clear B8 B9
  have HS := Lib.hid (stepS_none (m := ⟨3, wt, c⟩) (i := ⟨kd, cd, tm⟩) hm'.out (by intro h; simp at h ⊢ <;> grind) (by intro h; simp at h ⊢ <;> grind) (by intro h; simp at h ⊢ <;> grind))
  go_wp2_with (go_at_call 29; refine (from_any _ _ _ _).mono ?_; rintro e w' ⟨rfl, rfl⟩)
  obtain ⟨hc0, hp, _, _⟩ := R5.fin ⟨3, wt, c⟩
  have hc := hc0.cell
  exact bodyPost_ret (v := .tuple #[(⟨3, wt, c⟩ : Mc).val, .slice none 0 0]) (by simp [results, Tryd.results23, go_sem, hc]) rfl ⟨.slice none 0 0, by rw [HS.out], by rw [HS.out]; exact OwnL.nil _ _, hp⟩
set_option maxRecDepth 100000 in
set_option maxHeartbeats 4000000 in
theorem refStep_j (w : World) (wt c kd cd tm : Int) (hm : mayB ⟨5, wt, c⟩ = true) (e1 : (kd == 1) = false) (e6 : (kd == 6) = false) (e5 : (kd == 5) = false) : Calls Tryd.prog 23 #[(⟨5, wt, c⟩ : Mc).val, (⟨kd, cd, tm⟩ : Tin).val] w fun e w' =>
    ∃ v, e = .returned (.tuple #[(stepS ⟨5, wt, c⟩ ⟨kd, cd, tm⟩).1.val, v]) ∧ OwnO w' w.heap.size v (stepS ⟨5, wt, c⟩ ⟨kd, cd, tm⟩).2 ∧ Below w.heap.size w w' := by
  have hb0 : Below w.heap.size w (((w.alloc (.cells #[.int .u8 5, .int .i64 wt, .int .i64 c] 24)).alloc (.cells #[.int .u8 kd, .int .i64 cd, .int .u8 tm] 28)).alloc (.cells #[.int .u8 0, .int .i64 0, .int .i64 0] 24)) :=
    (((Below.refl _ _).alloc (Nat.le_refl _) _).alloc (by simp) _).alloc (by simp; omega) _
  have b0 : Blk (((w.alloc (.cells #[.int .u8 5, .int .i64 wt, .int .i64 c] 24)).alloc (.cells #[.int .u8 kd, .int .i64 cd, .int .u8 tm] 28)).alloc (.cells #[.int .u8 0, .int .i64 0, .int .i64 0] 24)) w.heap.size 24 #[.int .u8 5, .int .i64 wt, .int .i64 c] := ((Blk.new w _ _).alloc _).alloc _
  have b1 : Blk (((w.alloc (.cells #[.int .u8 5, .int .i64 wt, .int .i64 c] 24)).alloc (.cells #[.int .u8 kd, .int .i64 cd, .int .u8 tm] 28)).alloc (.cells #[.int .u8 0, .int .i64 0, .int .i64 0] 24)) (w.heap.size + 1) 28 #[.int .u8 kd, .int .i64 cd, .int .u8 tm] := (blk_new (by simp) _ _ _ rfl).alloc _
  have b2 : Blk (((w.alloc (.cells #[.int .u8 5, .int .i64 wt, .int .i64 c] 24)).alloc (.cells #[.int .u8 kd, .int .i64 cd, .int .u8 tm] 28)).alloc (.cells #[.int .u8 0, .int .i64 0, .int .i64 0] 24)) (w.heap.size + 1 + 1) 24 #[.int .u8 0, .int .i64 0, .int .i64 0] := blk_new (by simp) _ _ _ rfl
  have s0 : w.heap.size + 3 = (((w.alloc (.cells #[.int .u8 5, .int .i64 wt, .int .i64 c] 24)).alloc (.cells #[.int .u8 kd, .int .i64 cd, .int .u8 tm] 28)).alloc (.cells #[.int .u8 0, .int .i64 0, .int .i64 0] 24)).heap.size := by simp
  go_enter Tryd.func23, Tryd.ntmps23
  go_wp2_with fail
  generalize (((w.alloc (.cells #[.int .u8 5, .int .i64 wt, .int .i64 c] 24)).alloc (.cells #[.int .u8 kd, .int .i64 cd, .int .u8 tm] 28)).alloc (.cells #[.int .u8 0, .int .i64 0, .int .i64 0] 24)) = w1 at *
  refine (refMay_any _ ⟨5, wt, c⟩).mono ?_
  rw [hm]
  have hm' := Lib.hid hm; clear hm
  rintro e w2 ⟨rfl, hb2⟩
  have hz : w.heap.size + 3 ≤ w2.heap.size := by rw [s0]; exact hb2.size
  have B0 := b0.ext hb2
  have B1 := b1.ext hb2
  have B2 := b2.ext hb2
  have hbw := hb0.trans (hb2.mono (by omega))
  clear s0 b0 b1 b2 hb2 hb0
  obtain ⟨N, hN⟩ : ∃ N, N = w.heap.size := ⟨_, rfl⟩
  rw [← hN] at hz B0 B1 B2 hbw ⊢
  have HN := Lib.hid hN
  clear hN
  have c0 := B0.cell
  have c1 := B1.cell
  have c2 := B2.cell
  have f2 := B2.frozen
  have hz0 : N < w2.heap.size := by omega
  have hz1 : N + 1 < w2.heap.size := by omega
  have hz2 : N + 1 + 1 < w2.heap.size := by omega
  have R : Ready w w2 N ⟨5, wt, c⟩ ⟨kd, cd, tm⟩ := ⟨HN.out, B0, B1, B2, hbw⟩
  clear B0 B1 B2 hbw
  have hf : True := trivial
  go_upto_block 0 with (fail)
  have R5 := (R.alloc (.cells #[.int .u8 7, .int .i64 0, .int .i64 c] 24)).alloc (.cells #[.int .u8 1, .int .i64 cd, .int .u8 0, .int .i64 0] 53)
  have B8 := (Blk.new w2 24 #[.int .u8 7, .int .i64 0, .int .i64 c]).alloc (.cells #[.int .u8 1, .int .i64 cd, .int .u8 0, .int .i64 0] 53)
  have B9 : Blk ((w2.alloc (.cells #[.int .u8 7, .int .i64 0, .int .i64 c] 24)).alloc (.cells #[.int .u8 1, .int .i64 cd, .int .u8 0, .int .i64 0] 53)) (w2.heap.size + 1) 53 #[.int .u8 1, .int .i64 cd, .int .u8 0, .int .i64 0] := blk_new (by simp) _ _ _ rfl
  clear R c0 c1 c2 f2 hz hz0 hz1
  generalize (w2.alloc (.cells #[.int .u8 7, .int .i64 0, .int .i64 c] 24)).alloc (.cells #[.int .u8 1, .int .i64 cd, .int .u8 0, .int .i64 0] 53) = w5 at *
  generalize w2.heap.size = P at *
  have c00 : w5.cell? ⟨N, 0, none⟩ = some (.int .u8 5) := R5.b0.cell 0
  have c01 : w5.cell? ⟨N, 1, none⟩ = some (.int .i64 wt) := R5.b0.cell 1
  have c02 : w5.cell? ⟨N, 2, none⟩ = some (.int .i64 c) := R5.b0.cell 2
  have c10 : w5.cell? ⟨N + 1, 0, none⟩ = some (.int .u8 kd) := R5.b1.cell 0
  have c11 : w5.cell? ⟨N + 1, 1, none⟩ = some (.int .i64 cd) := R5.b1.cell 1
  have c12 : w5.cell? ⟨N + 1, 2, none⟩ = some (.int .u8 tm) := R5.b1.cell 2
  have c20 : w5.cell? ⟨N + 1 + 1, 0, none⟩ = some (.int .u8 0) := R5.b2.cell 0
  have c21 : w5.cell? ⟨N + 1 + 1, 1, none⟩ = some (.int .i64 0) := R5.b2.cell 1
  have c22 : w5.cell? ⟨N + 1 + 1, 2, none⟩ = some (.int .i64 0) := R5.b2.cell 2
  have f20 := R5.b2.frozen 0
  have f21 := R5.b2.frozen 1
  have f22 := R5.b2.frozen 2
  have c80 : w5.cell? ⟨P, 0, none⟩ = some (.int .u8 7) := B8.cell 0
  have c81 : w5.cell? ⟨P, 1, none⟩ = some (.int .i64 0) := B8.cell 1
  have c82 : w5.cell? ⟨P, 2, none⟩ = some (.int .i64 c) := B8.cell 2
  have c90 : w5.cell? ⟨P + 1, 0, none⟩ = some (.int .u8 1) := B9.cell 0
  have c91 : w5.cell? ⟨P + 1, 1, none⟩ = some (.int .i64 cd) := B9.cell 1
  have c92 : w5.cell? ⟨P + 1, 2, none⟩ = some (.int .u8 0) := B9.cell 2
  have c93 : w5.cell? ⟨P + 1, 3, none⟩ = some (.int .i64 0) := B9.cell 3
  have z0 := R5.b0.lt
  have z1 := R5.b1.lt
  have z2 := R5.b2.lt
  have z8 := B8.lt
  have z9 := B9.lt
  have y0 : ¬ (N = N + 1 + 1) := by omega
  have y1 : ¬ (N + 1 + 1 = N) := by omega
  have y2 : ¬ (P = N + 1 + 1) := by omega
  have y3 : ¬ (P + 1 = N + 1 + 1) := by omega
  have y4 : ¬ (N + 1 + 1 = P) := by omega
  have y5 : ¬ (N + 1 + 1 = P + 1) := by omega
  clear B8 B9
  have HS := Lib.hid (stepS_none (m := ⟨5, wt, c⟩) (i := ⟨kd, cd, tm⟩) hm'.out (by intro h; simp at h ⊢ <;> grind) (by intro h; simp at h ⊢ <;> grind) (by intro h; simp at h ⊢ <;> grind))
  go_wp2_with (go_at_call 29; refine (from_any _ _ _ _).mono ?_; rintro e w' ⟨rfl, rfl⟩)
  obtain ⟨hc0, hp, _, _⟩ := R5.fin ⟨5, wt, c⟩
  have hc := hc0.cell
  exact bodyPost_ret (v := .tuple #[(⟨5, wt, c⟩ : Mc).val, .slice none 0 0]) (by simp [results, Tryd.results23, go_sem, hc]) rfl ⟨.slice none 0 0, by rw [HS.out], by rw [HS.out]; exact OwnL.nil _ _, hp⟩
set_option maxRecDepth 100000 in
set_option maxHeartbeats 4000000 in
theorem refStep_k (w : World) (wt c kd cd tm : Int) (hm : mayB ⟨7, wt, c⟩ = true)  : Calls Tryd.prog 23 #[(⟨7, wt, c⟩ : Mc).val, (⟨kd, cd, tm⟩ : Tin).val] w fun e w' =>
    ∃ v, e = .returned (.tuple #[(stepS ⟨7, wt, c⟩ ⟨kd, cd, tm⟩).1.val, v]) ∧ OwnO w' w.heap.size v (stepS ⟨7, wt, c⟩ ⟨kd, cd, tm⟩).2 ∧ Below w.heap.size w w' := by
  have hb0 : Below w.heap.size w (((w.alloc (.cells #[.int .u8 7, .int .i64 wt, .int .i64 c] 24)).alloc (.cells #[.int .u8 kd, .int .i64 cd, .int .u8 tm] 28)).alloc (.cells #[.int .u8 0, .int .i64 0, .int .i64 0] 24)) :=
    (((Below.refl _ _).alloc (Nat.le_refl _) _).alloc (by simp) _).alloc (by simp; omega) _
  have b0 : Blk (((w.alloc (.cells #[.int .u8 7, .int .i64 wt, .int .i64 c] 24)).alloc (.cells #[.int .u8 kd, .int .i64 cd, .int .u8 tm] 28)).alloc (.cells #[.int .u8 0, .int .i64 0, .int .i64 0] 24)) w.heap.size 24 #[.int .u8 7, .int .i64 wt, .int .i64 c] := ((Blk.new w _ _).alloc _).alloc _
  have b1 : Blk (((w.alloc (.cells #[.int .u8 7, .int .i64 wt, .int .i64 c] 24)).alloc (.cells #[.int .u8 kd, .int .i64 cd, .int .u8 tm] 28)).alloc (.cells #[.int .u8 0, .int .i64 0, .int .i64 0] 24)) (w.heap.size + 1) 28 #[.int .u8 kd, .int .i64 cd, .int .u8 tm] := (blk_new (by simp) _ _ _ rfl).alloc _
  have b2 : Blk (((w.alloc (.cells #[.int .u8 7, .int .i64 wt, .int .i64 c] 24)).alloc (.cells #[.int .u8 kd, .int .i64 cd, .int .u8 tm] 28)).alloc (.cells #[.int .u8 0, .int .i64 0, .int .i64 0] 24)) (w.heap.size + 1 + 1) 24 #[.int .u8 0, .int .i64 0, .int .i64 0] := blk_new (by simp) _ _ _ rfl
  have s0 : w.heap.size + 3 = (((w.alloc (.cells #[.int .u8 7, .int .i64 wt, .int .i64 c] 24)).alloc (.cells #[.int .u8 kd, .int .i64 cd, .int .u8 tm] 28)).alloc (.cells #[.int .u8 0, .int .i64 0, .int .i64 0] 24)).heap.size := by simp
  go_enter Tryd.func23, Tryd.ntmps23
  go_wp2_with fail
  generalize (((w.alloc (.cells #[.int .u8 7, .int .i64 wt, .int .i64 c] 24)).alloc (.cells #[.int .u8 kd, .int .i64 cd, .int .u8 tm] 28)).alloc (.cells #[.int .u8 0, .int .i64 0, .int .i64 0] 24)) = w1 at *
  refine (refMay_any _ ⟨7, wt, c⟩).mono ?_
  rw [hm]
  have hm' := Lib.hid hm; clear hm
  rintro e w2 ⟨rfl, hb2⟩
  have hz : w.heap.size + 3 ≤ w2.heap.size := by rw [s0]; exact hb2.size
  have B0 := b0.ext hb2
  have B1 := b1.ext hb2
  have B2 := b2.ext hb2
  have hbw := hb0.trans (hb2.mono (by omega))
  clear s0 b0 b1 b2 hb2 hb0
  obtain ⟨N, hN⟩ : ∃ N, N = w.heap.size := ⟨_, rfl⟩
  rw [← hN] at hz B0 B1 B2 hbw ⊢
  have HN := Lib.hid hN
  clear hN
  have c0 := B0.cell
  have c1 := B1.cell
  have c2 := B2.cell
  have f2 := B2.frozen
  have hz0 : N < w2.heap.size := by omega
  have hz1 : N + 1 < w2.heap.size := by omega
  have hz2 : N + 1 + 1 < w2.heap.size := by omega
  have R : Ready w w2 N ⟨7, wt, c⟩ ⟨kd, cd, tm⟩ := ⟨HN.out, B0, B1, B2, hbw⟩
  clear B0 B1 B2 hbw
  have hf : True := trivial
  go_upto_block 0 with (fail)
  have R5 := (R.alloc (.cells #[.int .u8 7, .int .i64 0, .int .i64 c] 24)).alloc (.cells #[.int .u8 1, .int .i64 cd, .int .u8 0, .int .i64 0] 53)
  have B8 := (Blk.new w2 24 #[.int .u8 7, .int .i64 0, .int .i64 c]).alloc (.cells #[.int .u8 1, .int .i64 cd, .int .u8 0, .int .i64 0] 53)
  have B9 : Blk ((w2.alloc (.cells #[.int .u8 7, .int .i64 0, .int .i64 c] 24)).alloc (.cells #[.int .u8 1, .int .i64 cd, .int .u8 0, .int .i64 0] 53)) (w2.heap.size + 1) 53 #[.int .u8 1, .int .i64 cd, .int .u8 0, .int .i64 0] := blk_new (by simp) _ _ _ rfl
  clear R c0 c1 c2 f2 hz hz0 hz1
  generalize (w2.alloc (.cells #[.int .u8 7, .int .i64 0, .int .i64 c] 24)).alloc (.cells #[.int .u8 1, .int .i64 cd, .int .u8 0, .int .i64 0] 53) = w5 at *
  generalize w2.heap.size = P at *
  have c00 : w5.cell? ⟨N, 0, none⟩ = some (.int .u8 7) := R5.b0.cell 0
  have c01 : w5.cell? ⟨N, 1, none⟩ = some (.int .i64 wt) := R5.b0.cell 1
  have c02 : w5.cell? ⟨N, 2, none⟩ = some (.int .i64 c) := R5.b0.cell 2
  have c10 : w5.cell? ⟨N + 1, 0, none⟩ = some (.int .u8 kd) := R5.b1.cell 0
  have c11 : w5.cell? ⟨N + 1, 1, none⟩ = some (.int .i64 cd) := R5.b1.cell 1
  have c12 : w5.cell? ⟨N + 1, 2, none⟩ = some (.int .u8 tm) := R5.b1.cell 2
  have c20 : w5.cell? ⟨N + 1 + 1, 0, none⟩ = some (.int .u8 0) := R5.b2.cell 0
  have c21 : w5.cell? ⟨N + 1 + 1, 1, none⟩ = some (.int .i64 0) := R5.b2.cell 1
  have c22 : w5.cell? ⟨N + 1 + 1, 2, none⟩ = some (.int .i64 0) := R5.b2.cell 2
  have f20 := R5.b2.frozen 0
  have f21 := R5.b2.frozen 1
  have f22 := R5.b2.frozen 2
  have c80 : w5.cell? ⟨P, 0, none⟩ = some (.int .u8 7) := B8.cell 0
  have c81 : w5.cell? ⟨P, 1, none⟩ = some (.int .i64 0) := B8.cell 1
  have c82 : w5.cell? ⟨P, 2, none⟩ = some (.int .i64 c) := B8.cell 2
  have c90 : w5.cell? ⟨P + 1, 0, none⟩ = some (.int .u8 1) := B9.cell 0
  have c91 : w5.cell? ⟨P + 1, 1, none⟩ = some (.int .i64 cd) := B9.cell 1
  have c92 : w5.cell? ⟨P + 1, 2, none⟩ = some (.int .u8 0) := B9.cell 2
  have c93 : w5.cell? ⟨P + 1, 3, none⟩ = some (.int .i64 0) := B9.cell 3
  have z0 := R5.b0.lt
  have z1 := R5.b1.lt
  have z2 := R5.b2.lt
  have z8 := B8.lt
  have z9 := B9.lt
  have y0 : ¬ (N = N + 1 + 1) := by omega
  have y1 : ¬ (N + 1 + 1 = N) := by omega
  have y2 : ¬ (P = N + 1 + 1) := by omega
  have y3 : ¬ (P + 1 = N + 1 + 1) := by omega
  have y4 : ¬ (N + 1 + 1 = P) := by omega
  have y5 : ¬ (N + 1 + 1 = P + 1) := by omega
  clear B8 B9
  have HS := Lib.hid (stepS_none (m := ⟨7, wt, c⟩) (i := ⟨kd, cd, tm⟩) hm'.out (by intro h; simp at h ⊢ <;> grind) (by intro h; simp at h ⊢ <;> grind) (by intro h; simp at h ⊢ <;> grind))
  go_wp2_with (go_at_call 29; refine (from_any _ _ _ _).mono ?_; rintro e w' ⟨rfl, rfl⟩)
  obtain ⟨hc0, hp, _, _⟩ := R5.fin ⟨7, wt, c⟩
  have hc := hc0.cell
  exact bodyPost_ret (v := .tuple #[(⟨7, wt, c⟩ : Mc).val, .slice none 0 0]) (by simp [results, Tryd.results23, go_sem, hc]) rfl ⟨.slice none 0 0, by rw [HS.out], by rw [HS.out]; exact OwnL.nil _ _, hp⟩
set_option maxRecDepth 100000 in
set_option maxHeartbeats 4000000 in
theorem refStep_bad (w : World) (st wt c kd cd tm : Int) (hm : mayB ⟨st, wt, c⟩ = false) : Calls Tryd.prog 23 #[(⟨st, wt, c⟩ : Mc).val, (⟨kd, cd, tm⟩ : Tin).val] w fun e w' =>
    ∃ v, e = .returned (.tuple #[(stepS ⟨st, wt, c⟩ ⟨kd, cd, tm⟩).1.val, v]) ∧ OwnO w' w.heap.size v (stepS ⟨st, wt, c⟩ ⟨kd, cd, tm⟩).2 ∧ Below w.heap.size w w' := by
  have hb0 : Below w.heap.size w (((w.alloc (.cells #[.int .u8 st, .int .i64 wt, .int .i64 c] 24)).alloc (.cells #[.int .u8 kd, .int .i64 cd, .int .u8 tm] 28)).alloc (.cells #[.int .u8 0, .int .i64 0, .int .i64 0] 24)) :=
    (((Below.refl _ _).alloc (Nat.le_refl _) _).alloc (by simp) _).alloc (by simp; omega) _
  have b0 : Blk (((w.alloc (.cells #[.int .u8 st, .int .i64 wt, .int .i64 c] 24)).alloc (.cells #[.int .u8 kd, .int .i64 cd, .int .u8 tm] 28)).alloc (.cells #[.int .u8 0, .int .i64 0, .int .i64 0] 24)) w.heap.size 24 #[.int .u8 st, .int .i64 wt, .int .i64 c] := ((Blk.new w _ _).alloc _).alloc _
  have b1 : Blk (((w.alloc (.cells #[.int .u8 st, .int .i64 wt, .int .i64 c] 24)).alloc (.cells #[.int .u8 kd, .int .i64 cd, .int .u8 tm] 28)).alloc (.cells #[.int .u8 0, .int .i64 0, .int .i64 0] 24)) (w.heap.size + 1) 28 #[.int .u8 kd, .int .i64 cd, .int .u8 tm] := (blk_new (by simp) _ _ _ rfl).alloc _
  have b2 : Blk (((w.alloc (.cells #[.int .u8 st, .int .i64 wt, .int .i64 c] 24)).alloc (.cells #[.int .u8 kd, .int .i64 cd, .int .u8 tm] 28)).alloc (.cells #[.int .u8 0, .int .i64 0, .int .i64 0] 24)) (w.heap.size + 1 + 1) 24 #[.int .u8 0, .int .i64 0, .int .i64 0] := blk_new (by simp) _ _ _ rfl
  have s0 : w.heap.size + 3 = (((w.alloc (.cells #[.int .u8 st, .int .i64 wt, .int .i64 c] 24)).alloc (.cells #[.int .u8 kd, .int .i64 cd, .int .u8 tm] 28)).alloc (.cells #[.int .u8 0, .int .i64 0, .int .i64 0] 24)).heap.size := by simp
  go_enter Tryd.func23, Tryd.ntmps23
  go_wp2_with fail
  generalize (((w.alloc (.cells #[.int .u8 st, .int .i64 wt, .int .i64 c] 24)).alloc (.cells #[.int .u8 kd, .int .i64 cd, .int .u8 tm] 28)).alloc (.cells #[.int .u8 0, .int .i64 0, .int .i64 0] 24)) = w1 at *
  refine (refMay_any _ ⟨st, wt, c⟩).mono ?_
  rw [hm]
  have hm' := Lib.hid hm; clear hm
  rintro e w2 ⟨rfl, hb2⟩
  have hz : w.heap.size + 3 ≤ w2.heap.size := by rw [s0]; exact hb2.size
  have B0 := b0.ext hb2
  have B1 := b1.ext hb2
  have B2 := b2.ext hb2
  have hbw := hb0.trans (hb2.mono (by omega))
  clear s0 b0 b1 b2 hb2 hb0
  obtain ⟨N, hN⟩ : ∃ N, N = w.heap.size := ⟨_, rfl⟩
  rw [← hN] at hz B0 B1 B2 hbw ⊢
  have HN := Lib.hid hN
  clear hN
  have c0 := B0.cell
  have c1 := B1.cell
  have c2 := B2.cell
  have f2 := B2.frozen
  have hz0 : N < w2.heap.size := by omega
  have hz1 : N + 1 < w2.heap.size := by omega
  have hz2 : N + 1 + 1 < w2.heap.size := by omega
  have HE : Hid (stepS ⟨st, wt, c⟩ ⟨kd, cd, tm⟩ = (⟨0, 0, 0⟩, [])) := by show _ = _; simp [stepS, hm'.out]
  go_wp2
  have c9 := (((B2.set_ 0 (.int .u8 0)).set_ 1 (.int .i64 0)).set_ 2 (.int .i64 0)).cell
  refine bodyPost_ret (v := .tuple #[.agg #[.int .u8 0, .int .i64 0, .int .i64 0], .slice none 0 0]) (by simp [results, Tryd.results23, go_sem, c9]) rfl ⟨.slice none 0 0, ?_, ?_, ?_⟩
  · rw [HE.out]
  · rw [HE.out]; exact OwnL.nil _ _
  · rw [← HN.out]; exact ((hbw.setCell (by simp; omega) _).setCell (by simp; omega) _).setCell (by simp; omega) _

theorem refStep_any (w : World) (m : Mc) (i : Tin) : Calls Tryd.prog 23 #[m.val, i.val] w fun e w' =>
    ∃ v, e = .returned (.tuple #[(stepS m i).1.val, v]) ∧ OwnO w' w.heap.size v (stepS m i).2 ∧ Below w.heap.size w w' := by
  obtain ⟨st, wt, c⟩ := m
  obtain ⟨kd, cd, tm⟩ := i
  cases hm : mayB ⟨st, wt, c⟩
  · exact refStep_bad w st wt c kd cd tm hm
  have h4 : st = 2 ∨ st = 3 ∨ st = 5 ∨ st = 7 := by
    have h := hm
    simp only [mayB, Bool.and_eq_true] at h
    grind
  rcases h4 with rfl | rfl | rfl | rfl
  · by_cases k4 : kd = 4
    · subst k4; exact refStep_a w wt c cd tm hm
    · exact refStep_h w wt c kd cd tm hm (by simpa using k4)
  · by_cases k4 : kd = 4
    · subst k4; exact refStep_b w wt c cd tm hm
    by_cases k1 : kd = 1
    · subst k1; exact refStep_c w wt c cd tm hm
    by_cases k6 : kd = 6
    · subst k6; exact refStep_e w wt c cd tm hm
    exact refStep_i w wt c kd cd tm hm (by simpa using k1) (by simpa using k4) (by simpa using k6)
  · by_cases k1 : kd = 1
    · subst k1; exact refStep_d w wt c cd tm hm
    by_cases k6 : kd = 6
    · subst k6; exact refStep_f w wt c cd tm hm
    by_cases k5 : kd = 5
    · subst k5; exact refStep_g w wt c cd tm hm
    exact refStep_j w wt c kd cd tm hm (by simpa using k1) (by simpa using k6) (by simpa using k5)
  · exact refStep_k w wt c kd cd tm hm

set_option maxRecDepth 100000 in
set_option maxHeartbeats 1000000 in
theorem start_any (w : World) : Calls Tryd.prog 9 #[] w fun e w' => ∃ v, e = .returned (.tuple #[(⟨2, 0, 0⟩ : Mc).val, v]) ∧ OwnO w' w.heap.size v [⟨3, 0, 0, 0⟩] ∧ Below w.heap.size w w' := by
  go_enter Tryd.func9, Tryd.ntmps9
  go_wp2
  have B : Blk ((w.alloc (.cells #[.int .u8 2, .int .i64 0, .int .i64 0] 24)).alloc (.cells #[.int .u8 3, .int .i64 0, .int .u8 0, .int .i64 0] 53)) w.heap.size 24 #[.int .u8 2, .int .i64 0, .int .i64 0] := (Blk.new _ _ _).alloc _
  have hc := B.cell
  refine bodyPost_ret (v := .tuple #[(⟨2, 0, 0⟩ : Mc).val, .slice (some ⟨w.heap.size + 1, 0, none⟩) 1 1]) (by simp [results, Tryd.results9, go_sem, hc]) rfl ⟨_, rfl, ?_, ?_⟩
  · have := ownO_lit (w.alloc (.cells #[.int .u8 2, .int .i64 0, .int .i64 0] 24)) #[.int .u8 3, .int .i64 0, .int .u8 0, .int .i64 0] [⟨3, 0, 0, 0⟩] 1 w.heap.size (by simp) rfl rfl (by omega)
    simpa using this
  · exact ((Below.refl _ _).alloc (Nat.le_refl _) _).alloc (by simp) _
set_option maxRecDepth 100000 in
set_option maxHeartbeats 1000000 in
theorem refStart_any (w : World) : Calls Tryd.prog 10 #[] w fun e w' => ∃ v, e = .returned (.tuple #[(⟨2, 0, 0⟩ : Mc).val, v]) ∧ OwnO w' w.heap.size v [⟨3, 0, 0, 0⟩] ∧ Below w.heap.size w w' := by
  go_enter Tryd.func10, Tryd.ntmps10
  go_wp2
  have B : Blk ((w.alloc (.cells #[.int .u8 2, .int .i64 0, .int .i64 0] 24)).alloc (.cells #[.int .u8 3, .int .i64 0, .int .u8 0, .int .i64 0] 53)) w.heap.size 24 #[.int .u8 2, .int .i64 0, .int .i64 0] := (Blk.new _ _ _).alloc _
  have hc := B.cell
  refine bodyPost_ret (v := .tuple #[(⟨2, 0, 0⟩ : Mc).val, .slice (some ⟨w.heap.size + 1, 0, none⟩) 1 1]) (by simp [results, Tryd.results10, go_sem, hc]) rfl ⟨_, rfl, ?_, ?_⟩
  · have := ownO_lit (w.alloc (.cells #[.int .u8 2, .int .i64 0, .int .i64 0] 24)) #[.int .u8 3, .int .i64 0, .int .u8 0, .int .i64 0] [⟨3, 0, 0, 0⟩] 1 w.heap.size (by simp) rfl rfl (by omega)
    simpa using this
  · exact ((Below.refl _ _).alloc (Nat.le_refl _) _).alloc (by simp) _
end Go.Proofs.YtpbanfkjeiihbaaDoor
