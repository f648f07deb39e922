/- Chapter 15: step, works. -/
import Derived.Test.YtpbanfkjeiihbaaDoorL
set_option linter.unusedVariables false
set_option linter.unusedSimpArgs false
namespace Go.Proofs.YtpbanfkjeiihbaaDoor
open Go.RowKit

theorem same_t (w : World) (v v' : Value) (xs : List Tout) (hv : IsO w v xs) (hv' : IsO w v' xs) :
    Calls Tryd.prog 11 #[v, v'] w fun e w' => e = .returned (.bool true) ∧ Below w.heap.size w w' :=
  (same_any w v v' xs xs hv hv').mono fun e w' ⟨h1, h2⟩ => ⟨by rw [h1, decide_eq_true rfl], h2⟩
theorem outs_t (w : World) (v v' : Value) (xs : List Tout) (hv : IsO w v xs) (hv' : IsO w v' xs) :
    Calls Tryd.prog 25 #[v, v'] w fun e w' => e = .returned (.bool true) ∧ Below w.heap.size w w' :=
  (outs_any w v v' xs xs hv hv').mono fun e w' ⟨h1, h2⟩ => ⟨by rw [h1, decide_eq_true rfl], h2⟩
set_option maxRecDepth 100000 in
set_option maxHeartbeats 4000000 in
theorem stepLaw (w : World) (m : Mc) (i : Tin) (hG : Gl w) : Calls Tryd.prog 12 #[m.val, i.val] w fun e w' => e = .returned (.bool true) ∧ Below w.heap.size w w' := by
  have hb1 : Below w.heap.size w ((w.alloc (.cells #[.int .u8 m.st, .int .i64 m.wait, .int .i64 m.code] 24)).alloc (.cells #[.int .u8 i.kind, .int .i64 i.code, .int .u8 i.timer] 28)) := ((Below.refl _ _).alloc (Nat.le_refl _) _).alloc (by simp) _
  have b0 := (Blk.new w 24 #[.int .u8 m.st, .int .i64 m.wait, .int .i64 m.code]).alloc (.cells #[.int .u8 i.kind, .int .i64 i.code, .int .u8 i.timer] 28)
  have b1 : Blk ((w.alloc (.cells #[.int .u8 m.st, .int .i64 m.wait, .int .i64 m.code] 24)).alloc (.cells #[.int .u8 i.kind, .int .i64 i.code, .int .u8 i.timer] 28)) (w.heap.size + 1) 28 #[.int .u8 i.kind, .int .i64 i.code, .int .u8 i.timer] := blk_new (by simp) _ _ _ rfl
  go_enter Tryd.func12, Tryd.ntmps12
  go_wp2_with fail
  generalize (w.alloc (.cells #[.int .u8 m.st, .int .i64 m.wait, .int .i64 m.code] 24)).alloc (.cells #[.int .u8 i.kind, .int .i64 i.code, .int .u8 i.timer] 28) = w1 at *
  obtain ⟨N, hN⟩ : ∃ N, N = w.heap.size := ⟨_, rfl⟩
  rw [← hN] at b0 b1 hb1 ⊢
  have hN0 : 0 < N := by rw [hN]; exact hG.1
  have hG1 := hG.keep hb1 hN0
  have HN := Lib.hid hN; clear hN hG
  refine (step_any _ m i hG1).mono ?_
  rintro e w2 ⟨v1, rfl, hown1, hb2⟩
  obtain ⟨m', hm'⟩ : ∃ m', m' = (stepS m i).1 := ⟨_, rfl⟩
  obtain ⟨l', hl'⟩ : ∃ l', l' = (stepS m i).2 := ⟨_, rfl⟩
  rw [← hm']
  rw [← hl'] at hown1
  have HM := Lib.hid hm'; clear hm'
  have HL := Lib.hid hl'; clear hl'
  have hs1 : w1.heap.size ≤ w2.heap.size := hb2.size
  have c0 := (b0.ext hb2).cell
  have c1 := (b1.ext hb2).cell
  have z0 := (b0.ext hb2).lt
  have z1 := (b1.ext hb2).lt
  have hNw : N ≤ w1.heap.size := Nat.le_of_lt b0.lt
  go_wp2_with fail
  have B0 := (b0.ext hb2).alloc (.cells #[.int .u8 m'.st, .int .i64 m'.wait, .int .i64 m'.code] 24)
  have B1 := (b1.ext hb2).alloc (.cells #[.int .u8 m'.st, .int .i64 m'.wait, .int .i64 m'.code] 24)
  have B5 := Blk.new w2 24 #[.int .u8 m'.st, .int .i64 m'.wait, .int .i64 m'.code]
  have hI1 := (hown1.is).alloc (.cells #[.int .u8 m'.st, .int .i64 m'.wait, .int .i64 m'.code] 24)
  have hbw := (hb1.trans (hb2.mono hNw)).alloc (by omega) (.cells #[.int .u8 m'.st, .int .i64 m'.wait, .int .i64 m'.code] 24)
  clear c0 c1 z0 z1 hown1 b0 b1 hG1 hb1
  generalize w2.alloc (.cells #[.int .u8 m'.st, .int .i64 m'.wait, .int .i64 m'.code] 24) = w3 at *
  refine (refStep_any _ m i).mono ?_
  rintro e w4 ⟨v2, rfl, hown2, hb4⟩
  rw [← HM.out]
  rw [← HL.out] at hown2
  have C0 := (B0.ext hb4).alloc (.cells #[.int .u8 m'.st, .int .i64 m'.wait, .int .i64 m'.code] 24)
  have C5 := (B5.ext hb4).alloc (.cells #[.int .u8 m'.st, .int .i64 m'.wait, .int .i64 m'.code] 24)
  have C7 := Blk.new w4 24 #[.int .u8 m'.st, .int .i64 m'.wait, .int .i64 m'.code]
  have hJ1 := (hI1.below hb4).alloc (.cells #[.int .u8 m'.st, .int .i64 m'.wait, .int .i64 m'.code] 24)
  have hJ2 := (hown2.is).alloc (.cells #[.int .u8 m'.st, .int .i64 m'.wait, .int .i64 m'.code] 24)
  have hs3 := hbw.size
  have hN3 := B0.lt
  have hbx := (hbw.trans (hb4.mono (by omega))).alloc (Nat.le_trans (Nat.le_of_lt hN3) hb4.size) (.cells #[.int .u8 m'.st, .int .i64 m'.wait, .int .i64 m'.code] 24)
  clear hown2 hI1 B0 B1 B5 hbw
  go_wp2_with fail
  generalize w4.alloc (.cells #[.int .u8 m'.st, .int .i64 m'.wait, .int .i64 m'.code] 24) = w5 at *
  have c0 := C0.cell
  have c5 := C5.cell
  have c7 := C7.cell
  refine wp_tree (.q [0, 1, 2, 3, 4, 5] (.one false 6 (.q [7, 8, 9, 11] (.one true 10 (.one false 12 (.q [13, 14, 15] .done)))))) (by kernel_rfl) (by kernel_rfl) ?_
  refine walkT_q ?_
  dsimp only [pickL, nthL]
  go_wp2
  refine ⟨rfl, rfl, ?_⟩
  refine walkT_one ?_
  dsimp only [pickL, nthL]
  go_wp2_with fail
  refine (same_t _ v1 v2 l' hJ1.drew hJ2.drew).mono ?_
  rintro e w6 ⟨rfl, hb6⟩
  have D0 := C0.drew.ext hb6
  have hby : Below N w w6 := hbx.drew.trans (hb6.mono (Nat.le_of_lt C0.lt))
  clear c0 c5 c7 C0 C5 C7 hJ1 hJ2 hbx hb6
  have c0 := D0.cell
  go_wp2_with fail
  refine ⟨rfl, ?_⟩
  refine walkT_q ?_
  dsimp only [pickL, nthL]
  go_wp2
  refine ⟨rfl, rfl, ?_⟩
  refine walkT_oneX ?_
  dsimp only [pickL, nthL]
  go_wp2_with fail
  refine (may_any _ m).mono ?_
  rintro e w7 ⟨rfl, hb7⟩
  go_wp2_with fail
  refine ⟨rfl, hb7, ?_⟩
  refine walkT_one ?_
  dsimp only [pickL, nthL]
  go_wp2_with fail
  refine (refMay_any _ m).mono ?_
  rintro e w8 ⟨rfl, hb8⟩
  go_wp2_with fail
  refine ⟨rfl, ?_⟩
  refine walkT_q ?_
  dsimp only [pickL, nthL]
  go_wp2
  refine ⟨rfl, rfl, ?_⟩
  refine walkT_done ?_
  go_wp2
  go_ret
  exact ⟨ret_bool (by simp), by rw [← HN.out]; exact hby.trans ((hb7.mono (Nat.le_of_lt D0.lt)).trans (hb8.mono (Nat.le_trans (Nat.le_of_lt D0.lt) hb7.size)))⟩
theorem step_at (w : World) (m : Mc) (i : Tin) (m' : Mc) (l' : List Tout) (h : stepS m i = (m', l')) (hG : Gl w) : Calls Tryd.prog 22 #[m.val, i.val] w fun e w' =>
    ∃ v, e = .returned (.tuple #[m'.val, v]) ∧ OwnO w' w.heap.size v l' ∧ Below w.heap.size w w' := by
  have := step_any w m i hG
  rw [h] at this
  exact this
end Go.Proofs.YtpbanfkjeiihbaaDoor
