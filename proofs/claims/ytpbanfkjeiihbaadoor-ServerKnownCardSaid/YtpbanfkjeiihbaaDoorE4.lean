/- Chapter 15: the reference. -/
import Derived.Test.YtpbanfkjeiihbaaDoorE3
import Derived.RegionTactic
import Derived.ChangeAlike
set_option linter.unusedVariables false
set_option linter.unusedSimpArgs false
namespace Go.Proofs.YtpbanfkjeiihbaaDoor
open Go.RowKit

set_option maxHeartbeats 1000000 in
theorem refMay_any (w : World) (m : Mc) : Calls Tryd.prog 24 #[m.val] w fun e w' => e = .returned (.bool (mayB m)) ∧ Below w.heap.size w w' := by
  have HE : Hid (mayB m = (m.wait == 0 && (if m.st = 2 then m.code == 0 else if m.st = 3 then decide (100 ≤ m.code) && decide (m.code ≤ 199) else if m.st = 5 then decide (200 ≤ m.code) && decide (m.code ≤ 699) else if m.st = 7 then decide (100 ≤ m.code) && decide (m.code ≤ 699) else false))) := rfl
  go_enter Tryd.func24, Tryd.ntmps24
  go_wp2_with (go_at_call 29; refine (from_any _ _ _ _).mono ?_; rintro e w' ⟨rfl, rfl⟩)
  all_goals go_ret
  all_goals exact ⟨ret_bool (by rw [HE.out]; grind [fromB]), (Below.refl _ _).alloc (Nat.le_refl _) _⟩


theorem stepS_open1 {st wt c cd tm : Int} (hst : st = 2 ∨ st = 3) (hm : mayB ⟨st, wt, c⟩ = true) (h : fromB cd 100 199 = true) : stepS ⟨st, wt, c⟩ ⟨4, cd, tm⟩ = (⟨3, 0, cd⟩, [⟨1, cd, 0, 0⟩]) := by
  have h' := hm
  simp only [mayB, Bool.and_eq_true, beq_iff_eq] at h'
  obtain rfl : wt = 0 := h'.1
  clear h'
  simp [fromB] at h
  rcases hst with rfl | rfl <;> simp [stepS, hm, rowsT, findS, namesB, applyS, applyM, outK, h]
theorem stepS_open2 {st wt c cd tm : Int} (hst : st = 2 ∨ st = 3) (hm : mayB ⟨st, wt, c⟩ = true) (h1 : fromB cd 100 199 = false) (h : fromB cd 200 699 = true) : stepS ⟨st, wt, c⟩ ⟨4, cd, tm⟩ = (⟨5, 0, cd⟩, [⟨1, cd, 0, 0⟩, ⟨4, 0, 10, 32000⟩]) := by
  have h' := hm
  simp only [mayB, Bool.and_eq_true, beq_iff_eq] at h'
  obtain rfl : wt = 0 := h'.1
  clear h'
  simp [fromB] at h
  have h2 : ¬ cd ≤ 199 := by omega
  rcases hst with rfl | rfl <;> simp [stepS, hm, rowsT, findS, namesB, applyS, applyM, outK, h, h2]
theorem stepS_open0 {st wt c cd tm : Int} (hst : st = 2 ∨ st = 3) (hm : mayB ⟨st, wt, c⟩ = true) (h1 : fromB cd 100 199 = false) (h : fromB cd 200 699 = false) : stepS ⟨st, wt, c⟩ ⟨4, cd, tm⟩ = (⟨st, wt, c⟩, []) := by
  have e1 : ¬ (100 ≤ cd ∧ cd ≤ 199) := by simpa [fromB] using h1
  have e2 : ¬ (200 ≤ cd ∧ cd ≤ 699) := by simpa [fromB] using h
  rcases hst with rfl | rfl <;> simp [stepS, hm, rowsT, findS, namesB, e1, e2]
theorem stepS_again {st wt c cd tm : Int} (hst : st = 3 ∨ st = 5) (hm : mayB ⟨st, wt, c⟩ = true) : stepS ⟨st, wt, c⟩ ⟨1, cd, tm⟩ = (⟨st, wt, c⟩, [⟨1, c, 0, 0⟩]) := by
  rcases hst with rfl | rfl <;> simp [stepS, hm, rowsT, findS, namesB, applyS, applyM, outK]
theorem stepS_failed {st wt c cd tm : Int} (hst : st = 3 ∨ st = 5) (hm : mayB ⟨st, wt, c⟩ = true) : stepS ⟨st, wt, c⟩ ⟨6, cd, tm⟩ = (⟨7, 0, c⟩, [⟨6, 0, 0, 0⟩, ⟨7, 0, 0, 0⟩]) := by
  have h' := hm
  simp only [mayB, Bool.and_eq_true, beq_iff_eq] at h'
  obtain rfl : wt = 0 := h'.1
  clear h'
  rcases hst with rfl | rfl <;> simp [stepS, hm, rowsT, findS, namesB, applyS, applyM, outK]
theorem stepS_over {wt c cd : Int} (hm : mayB ⟨5, wt, c⟩ = true) : stepS ⟨5, wt, c⟩ ⟨5, cd, 10⟩ = (⟨7, 0, c⟩, [⟨7, 0, 0, 0⟩]) := by
  have h' := hm
  simp only [mayB, Bool.and_eq_true, beq_iff_eq] at h'
  obtain rfl : wt = 0 := h'.1
  clear h'
  simp [stepS, hm, rowsT, findS, namesB, applyS, applyM, outK]
theorem stepS_over0 {wt c cd tm : Int} (hm : mayB ⟨5, wt, c⟩ = true) (ht : tm ≠ 10) : stepS ⟨5, wt, c⟩ ⟨5, cd, tm⟩ = (⟨5, wt, c⟩, []) := by
  simp [stepS, hm, rowsT, findS, namesB, ht]
theorem stepS_none {m : Mc} {i : Tin} (hm : mayB m = true) (h4 : (m.st = 2 ∨ m.st = 3) → i.kind ≠ 4) (h1 : (m.st = 3 ∨ m.st = 5) → i.kind ≠ 1 ∧ i.kind ≠ 6) (h5 : m.st = 5 → i.kind = 5 → i.timer ≠ 10) : stepS m i = (m, []) := by
  unfold stepS
  rw [if_pos hm]
  simp only [rowsT, findS, namesB]
  grind
/-- The state when the tests begin. -/
structure Ready (w w2 : World) (N : Nat) (m : Mc) (i : Tin) : Prop where
  n : N = w.heap.size
  b0 : Blk w2 N 24 #[.int .u8 m.st, .int .i64 m.wait, .int .i64 m.code]
  b1 : Blk w2 (N + 1) 28 #[.int .u8 i.kind, .int .i64 i.code, .int .u8 i.timer]
  b2 : Blk w2 (N + 1 + 1) 24 #[.int .u8 0, .int .i64 0, .int .i64 0]
  b : Below N w w2
theorem Ready.alloc {w w2 : World} {N : Nat} {m : Mc} {i : Tin} (h : Ready w w2 N m i) (o : Obj) : Ready w (w2.alloc o) N m i :=
  ⟨h.n, h.b0.alloc o, h.b1.alloc o, h.b2.alloc o, h.b.alloc (by have := h.b0.lt; omega) o⟩
abbrev final (w5 : World) (N : Nat) (m' : Mc) : World := ((w5.setCell ⟨N + 1 + 1, 0, none⟩ (.int .u8 m'.st)).setCell ⟨N + 1 + 1, 1, none⟩ (.int .i64 m'.wait)).setCell ⟨N + 1 + 1, 2, none⟩ (.int .i64 m'.code)
theorem Ready.fin {w w5 : World} {N : Nat} {m : Mc} {i : Tin} (h : Ready w w5 N m i) (m' : Mc) :
    Blk (final w5 N m') (N + 1 + 1) 24 #[.int .u8 m'.st, .int .i64 m'.wait, .int .i64 m'.code] ∧ Below w.heap.size w (final w5 N m') ∧ (final w5 N m').heap.size = w5.heap.size ∧ w.heap.size ≤ w5.heap.size := by
  have hN := h.n
  have hlt := h.b2.lt
  refine ⟨((h.b2.set_ 0 _).set_ 1 _).set_ 2 _, ?_, by simp [final, World.setCell], by omega⟩
  rw [← hN]
  exact ((h.b.setCell (by simp; omega) _).setCell (by simp; omega) _).setCell (by simp; omega) _
/-- the end, with outputs -/
theorem Ready.outs {w w5 : World} {N : Nat} {m : Mc} {i : Tin} (h : Ready w w5 N m i) (m' : Mc) (cs : Array Value) (l : List Tout) (n : Nat) (hcs : cs.toList = l.flatMap Tout.enc) (hn : l.length = n) (hm : n ≤ 1000) {v : Value} (hv : v = .slice (some ⟨w5.heap.size, 0, none⟩) n n) (k : Nat)
    (hs : stepS m i = (m', l)) : (∀ j, ((final w5 N m').alloc (.cells cs 53)).cell? ⟨N + 1 + 1, j, none⟩ = (#[.int .u8 m'.st, .int .i64 m'.wait, .int .i64 m'.code] : Array Value)[j]?) ∧
    ∃ v', Ending.returned (.tuple #[m'.val, v]) = .returned (.tuple #[(stepS m i).1.val, v']) ∧ OwnO (((final w5 N m').alloc (.cells cs 53)).drewN k) w.heap.size v' (stepS m i).2 ∧ Below w.heap.size w (((final w5 N m').alloc (.cells cs 53)).drewN k) := by
  obtain ⟨h1, h2, h3, h4⟩ := h.fin m'
  refine ⟨(h1.alloc _).cell, v, by rw [hs], ?_, below_drewN (h2.alloc (by rw [h3]; exact h4) _) k⟩
  rw [hs, hv]
  have := ownO_lit (final w5 N m') cs l n w.heap.size (by rw [h3]; exact h4) hcs hn hm
  rw [h3] at this
  exact this

set_option maxRecDepth 100000 in
set_option maxHeartbeats 4000000 in
theorem refStep_a (w : World) (wt c cd tm : Int) (hm : mayB ⟨2, wt, c⟩ = true) : Calls Tryd.prog 23 #[(⟨2, wt, c⟩ : Mc).val, (⟨4, cd, tm⟩ : Tin).val] w fun e w' =>
    ∃ v, e = .returned (.tuple #[(stepS ⟨2, wt, c⟩ ⟨4, cd, tm⟩).1.val, v]) ∧ OwnO w' w.heap.size v (stepS ⟨2, wt, c⟩ ⟨4, cd, tm⟩).2 ∧ Below w.heap.size w w' := by
  have hb0 : Below w.heap.size w (((w.alloc (.cells #[.int .u8 2, .int .i64 wt, .int .i64 c] 24)).alloc (.cells #[.int .u8 4, .int .i64 cd, .int .u8 tm] 28)).alloc (.cells #[.int .u8 0, .int .i64 0, .int .i64 0] 24)) :=
    (((Below.refl _ _).alloc (Nat.le_refl _) _).alloc (by simp) _).alloc (by simp; omega) _
  have b0 : Blk (((w.alloc (.cells #[.int .u8 2, .int .i64 wt, .int .i64 c] 24)).alloc (.cells #[.int .u8 4, .int .i64 cd, .int .u8 tm] 28)).alloc (.cells #[.int .u8 0, .int .i64 0, .int .i64 0] 24)) w.heap.size 24 #[.int .u8 2, .int .i64 wt, .int .i64 c] := ((Blk.new w _ _).alloc _).alloc _
  have b1 : Blk (((w.alloc (.cells #[.int .u8 2, .int .i64 wt, .int .i64 c] 24)).alloc (.cells #[.int .u8 4, .int .i64 cd, .int .u8 tm] 28)).alloc (.cells #[.int .u8 0, .int .i64 0, .int .i64 0] 24)) (w.heap.size + 1) 28 #[.int .u8 4, .int .i64 cd, .int .u8 tm] := (blk_new (by simp) _ _ _ rfl).alloc _
  have b2 : Blk (((w.alloc (.cells #[.int .u8 2, .int .i64 wt, .int .i64 c] 24)).alloc (.cells #[.int .u8 4, .int .i64 cd, .int .u8 tm] 28)).alloc (.cells #[.int .u8 0, .int .i64 0, .int .i64 0] 24)) (w.heap.size + 1 + 1) 24 #[.int .u8 0, .int .i64 0, .int .i64 0] := blk_new (by simp) _ _ _ rfl
  have s0 : w.heap.size + 3 = (((w.alloc (.cells #[.int .u8 2, .int .i64 wt, .int .i64 c] 24)).alloc (.cells #[.int .u8 4, .int .i64 cd, .int .u8 tm] 28)).alloc (.cells #[.int .u8 0, .int .i64 0, .int .i64 0] 24)).heap.size := by simp
  go_enter Tryd.func23, Tryd.ntmps23
  go_wp2_with fail
  generalize (((w.alloc (.cells #[.int .u8 2, .int .i64 wt, .int .i64 c] 24)).alloc (.cells #[.int .u8 4, .int .i64 cd, .int .u8 tm] 28)).alloc (.cells #[.int .u8 0, .int .i64 0, .int .i64 0] 24)) = w1 at *
  refine (refMay_any _ ⟨2, wt, c⟩).mono ?_
  rw [hm]
  have hm' := Lib.hid hm; clear hm
  rintro e w2 ⟨rfl, hb2⟩
  have hz : w.heap.size + 3 ≤ w2.heap.size := by rw [s0]; exact hb2.size
  have B0 := b0.ext hb2
  have B1 := b1.ext hb2
  have B2 := b2.ext hb2
  have hbw := hb0.trans (hb2.mono (by omega))
  clear s0 b0 b1 b2 hb2 hb0
  obtain ⟨N, hN⟩ : ∃ N, N = w.heap.size := ⟨_, rfl⟩
  rw [← hN] at hz B0 B1 B2 hbw ⊢
  have HN := Lib.hid hN
  clear hN
  have c0 := B0.cell
  have c1 := B1.cell
  have c2 := B2.cell
  have f2 := B2.frozen
  have hz0 : N < w2.heap.size := by omega
  have hz1 : N + 1 < w2.heap.size := by omega
  have hz2 : N + 1 + 1 < w2.heap.size := by omega
  have R : Ready w w2 N ⟨2, wt, c⟩ ⟨4, cd, tm⟩ := ⟨HN.out, B0, B1, B2, hbw⟩
  clear B0 B1 B2 hbw
  have hf : True := trivial
  go_upto_block 0 with (fail)
  have R5 := (R.alloc (.cells #[.int .u8 7, .int .i64 0, .int .i64 c] 24)).alloc (.cells #[.int .u8 1, .int .i64 cd, .int .u8 0, .int .i64 0] 53)
  have B8 := (Blk.new w2 24 #[.int .u8 7, .int .i64 0, .int .i64 c]).alloc (.cells #[.int .u8 1, .int .i64 cd, .int .u8 0, .int .i64 0] 53)
  have B9 : Blk ((w2.alloc (.cells #[.int .u8 7, .int .i64 0, .int .i64 c] 24)).alloc (.cells #[.int .u8 1, .int .i64 cd, .int .u8 0, .int .i64 0] 53)) (w2.heap.size + 1) 53 #[.int .u8 1, .int .i64 cd, .int .u8 0, .int .i64 0] := blk_new (by simp) _ _ _ rfl
  clear R c0 c1 c2 f2 hz hz0 hz1
  generalize (w2.alloc (.cells #[.int .u8 7, .int .i64 0, .int .i64 c] 24)).alloc (.cells #[.int .u8 1, .int .i64 cd, .int .u8 0, .int .i64 0] 53) = w5 at *
  generalize w2.heap.size = P at *
  have c00 : w5.cell? ⟨N, 0, none⟩ = some (.int .u8 2) := R5.b0.cell 0
  have c01 : w5.cell? ⟨N, 1, none⟩ = some (.int .i64 wt) := R5.b0.cell 1
  have c02 : w5.cell? ⟨N, 2, none⟩ = some (.int .i64 c) := R5.b0.cell 2
  have c10 : w5.cell? ⟨N + 1, 0, none⟩ = some (.int .u8 4) := R5.b1.cell 0
  have c11 : w5.cell? ⟨N + 1, 1, none⟩ = some (.int .i64 cd) := R5.b1.cell 1
  have c12 : w5.cell? ⟨N + 1, 2, none⟩ = some (.int .u8 tm) := R5.b1.cell 2
  have c20 : w5.cell? ⟨N + 1 + 1, 0, none⟩ = some (.int .u8 0) := R5.b2.cell 0
  have c21 : w5.cell? ⟨N + 1 + 1, 1, none⟩ = some (.int .i64 0) := R5.b2.cell 1
  have c22 : w5.cell? ⟨N + 1 + 1, 2, none⟩ = some (.int .i64 0) := R5.b2.cell 2
  have f20 := R5.b2.frozen 0
  have f21 := R5.b2.frozen 1
  have f22 := R5.b2.frozen 2
  have c80 : w5.cell? ⟨P, 0, none⟩ = some (.int .u8 7) := B8.cell 0
  have c81 : w5.cell? ⟨P, 1, none⟩ = some (.int .i64 0) := B8.cell 1
  have c82 : w5.cell? ⟨P, 2, none⟩ = some (.int .i64 c) := B8.cell 2
  have c90 : w5.cell? ⟨P + 1, 0, none⟩ = some (.int .u8 1) := B9.cell 0
  have c91 : w5.cell? ⟨P + 1, 1, none⟩ = some (.int .i64 cd) := B9.cell 1
  have c92 : w5.cell? ⟨P + 1, 2, none⟩ = some (.int .u8 0) := B9.cell 2
  have c93 : w5.cell? ⟨P + 1, 3, none⟩ = some (.int .i64 0) := B9.cell 3
  have z0 := R5.b0.lt
  have z1 := R5.b1.lt
  have z2 := R5.b2.lt
  have z8 := B8.lt
  have z9 := B9.lt
  have y0 : ¬ (N = N + 1 + 1) := by omega
  have y1 : ¬ (N + 1 + 1 = N) := by omega
  have y2 : ¬ (P = N + 1 + 1) := by omega
  have y3 : ¬ (P + 1 = N + 1 + 1) := by omega
  have y4 : ¬ (N + 1 + 1 = P) := by omega
  have y5 : ¬ (N + 1 + 1 = P + 1) := by omega
  clear B8 B9
  cases h1 : fromB cd 100 199
  · cases h2 : fromB cd 200 699
    · have HS := Lib.hid (stepS_open0 (tm := tm) (show (2 : Int) = 2 ∨ (2 : Int) = 3 by omega) hm'.out h1 h2)
      go_wp2_with (go_at_call 29; refine (from_any _ _ _ _).mono ?_; rintro e w' ⟨rfl, rfl⟩)
      obtain ⟨hc0, hp, _, _⟩ := R5.fin ⟨2, wt, c⟩
      have hc := hc0.cell
      exact bodyPost_ret (v := .tuple #[(⟨2, wt, c⟩ : Mc).val, .slice none 0 0]) (by simp [results, Tryd.results23, go_sem, hc]) rfl ⟨.slice none 0 0, by rw [HS.out], by rw [HS.out]; exact OwnL.nil _ _, hp⟩
    · have HS := Lib.hid (stepS_open2 (tm := tm) (show (2 : Int) = 2 ∨ (2 : Int) = 3 by omega) hm'.out h1 h2)
      go_wp2_with (go_at_call 29; refine (from_any _ _ _ _).mono ?_; rintro e w' ⟨rfl, rfl⟩)
      go_region
      go_wp2
      obtain ⟨hc, hp⟩ := Ready.outs R5 ⟨5, 0, cd⟩ #[.int .u8 1, .int .i64 cd, .int .u8 0, .int .i64 0, .int .u8 4, .int .i64 0, .int .u8 10, .int .i64 32000] [⟨1, cd, 0, 0⟩, ⟨4, 0, 10, 32000⟩] 2 rfl rfl (by omega) rfl 1 HS.out
      exact bodyPost_ret (v := .tuple #[(⟨5, 0, cd⟩ : Mc).val, .slice (some ⟨w5.heap.size, 0, none⟩) 2 2]) (by simp [results, Tryd.results23, go_sem, hc]) rfl hp
  · have HS := Lib.hid (stepS_open1 (tm := tm) (show (2 : Int) = 2 ∨ (2 : Int) = 3 by omega) hm'.out h1)
    go_wp2_with (go_at_call 29; refine (from_any _ _ _ _).mono ?_; rintro e w' ⟨rfl, rfl⟩)
    go_region
    go_wp2
    obtain ⟨hc, hp⟩ := Ready.outs R5 ⟨3, 0, cd⟩ #[.int .u8 1, .int .i64 cd, .int .u8 0, .int .i64 0] [⟨1, cd, 0, 0⟩] 1 rfl rfl (by omega) rfl 1 HS.out
    exact bodyPost_ret (v := .tuple #[(⟨3, 0, cd⟩ : Mc).val, .slice (some ⟨w5.heap.size, 0, none⟩) 1 1]) (by simp [results, Tryd.results23, go_sem, hc]) rfl hp
set_option maxRecDepth 100000 in
set_option maxHeartbeats 4000000 in
theorem refStep_b (w : World) (wt c cd tm : Int) (hm : mayB ⟨3, wt, c⟩ = true) : Calls Tryd.prog 23 #[(⟨3, wt, c⟩ : Mc).val, (⟨4, cd, tm⟩ : Tin).val] w fun e w' =>
    ∃ v, e = .returned (.tuple #[(stepS ⟨3, wt, c⟩ ⟨4, cd, tm⟩).1.val, v]) ∧ OwnO w' w.heap.size v (stepS ⟨3, wt, c⟩ ⟨4, cd, tm⟩).2 ∧ Below w.heap.size w w' := by
  have hb0 : Below w.heap.size w (((w.alloc (.cells #[.int .u8 3, .int .i64 wt, .int .i64 c] 24)).alloc (.cells #[.int .u8 4, .int .i64 cd, .int .u8 tm] 28)).alloc (.cells #[.int .u8 0, .int .i64 0, .int .i64 0] 24)) :=
    (((Below.refl _ _).alloc (Nat.le_refl _) _).alloc (by simp) _).alloc (by simp; omega) _
  have b0 : Blk (((w.alloc (.cells #[.int .u8 3, .int .i64 wt, .int .i64 c] 24)).alloc (.cells #[.int .u8 4, .int .i64 cd, .int .u8 tm] 28)).alloc (.cells #[.int .u8 0, .int .i64 0, .int .i64 0] 24)) w.heap.size 24 #[.int .u8 3, .int .i64 wt, .int .i64 c] := ((Blk.new w _ _).alloc _).alloc _
  have b1 : Blk (((w.alloc (.cells #[.int .u8 3, .int .i64 wt, .int .i64 c] 24)).alloc (.cells #[.int .u8 4, .int .i64 cd, .int .u8 tm] 28)).alloc (.cells #[.int .u8 0, .int .i64 0, .int .i64 0] 24)) (w.heap.size + 1) 28 #[.int .u8 4, .int .i64 cd, .int .u8 tm] := (blk_new (by simp) _ _ _ rfl).alloc _
  have b2 : Blk (((w.alloc (.cells #[.int .u8 3, .int .i64 wt, .int .i64 c] 24)).alloc (.cells #[.int .u8 4, .int .i64 cd, .int .u8 tm] 28)).alloc (.cells #[.int .u8 0, .int .i64 0, .int .i64 0] 24)) (w.heap.size + 1 + 1) 24 #[.int .u8 0, .int .i64 0, .int .i64 0] := blk_new (by simp) _ _ _ rfl
  have s0 : w.heap.size + 3 = (((w.alloc (.cells #[.int .u8 3, .int .i64 wt, .int .i64 c] 24)).alloc (.cells #[.int .u8 4, .int .i64 cd, .int .u8 tm] 28)).alloc (.cells #[.int .u8 0, .int .i64 0, .int .i64 0] 24)).heap.size := by simp
  go_enter Tryd.func23, Tryd.ntmps23
  go_wp2_with fail
  generalize (((w.alloc (.cells #[.int .u8 3, .int .i64 wt, .int .i64 c] 24)).alloc (.cells #[.int .u8 4, .int .i64 cd, .int .u8 tm] 28)).alloc (.cells #[.int .u8 0, .int .i64 0, .int .i64 0] 24)) = w1 at *
  refine (refMay_any _ ⟨3, wt, c⟩).mono ?_
  rw [hm]
  have hm' := Lib.hid hm; clear hm
  rintro e w2 ⟨rfl, hb2⟩
  have hz : w.heap.size + 3 ≤ w2.heap.size := by rw [s0]; exact hb2.size
  have B0 := b0.ext hb2
  have B1 := b1.ext hb2
  have B2 := b2.ext hb2
  have hbw := hb0.trans (hb2.mono (by omega))
  clear s0 b0 b1 b2 hb2 hb0
  obtain ⟨N, hN⟩ : ∃ N, N = w.heap.size := ⟨_, rfl⟩
  rw [← hN] at hz B0 B1 B2 hbw ⊢
  have HN := Lib.hid hN
  clear hN
  have c0 := B0.cell
  have c1 := B1.cell
  have c2 := B2.cell
  have f2 := B2.frozen
  have hz0 : N < w2.heap.size := by omega
  have hz1 : N + 1 < w2.heap.size := by omega
  have hz2 : N + 1 + 1 < w2.heap.size := by omega
  have R : Ready w w2 N ⟨3, wt, c⟩ ⟨4, cd, tm⟩ := ⟨HN.out, B0, B1, B2, hbw⟩
  clear B0 B1 B2 hbw
  have hf : True := trivial
  go_upto_block 0 with (fail)
  have R5 := (R.alloc (.cells #[.int .u8 7, .int .i64 0, .int .i64 c] 24)).alloc (.cells #[.int .u8 1, .int .i64 cd, .int .u8 0, .int .i64 0] 53)
  have B8 := (Blk.new w2 24 #[.int .u8 7, .int .i64 0, .int .i64 c]).alloc (.cells #[.int .u8 1, .int .i64 cd, .int .u8 0, .int .i64 0] 53)
  have B9 : Blk ((w2.alloc (.cells #[.int .u8 7, .int .i64 0, .int .i64 c] 24)).alloc (.cells #[.int .u8 1, .int .i64 cd, .int .u8 0, .int .i64 0] 53)) (w2.heap.size + 1) 53 #[.int .u8 1, .int .i64 cd, .int .u8 0, .int .i64 0] := blk_new (by simp) _ _ _ rfl
  clear R c0 c1 c2 f2 hz hz0 hz1
  generalize (w2.alloc (.cells #[.int .u8 7, .int .i64 0, .int .i64 c] 24)).alloc (.cells #[.int .u8 1, .int .i64 cd, .int .u8 0, .int .i64 0] 53) = w5 at *
  generalize w2.heap.size = P at *
  have c00 : w5.cell? ⟨N, 0, none⟩ = some (.int .u8 3) := R5.b0.cell 0
  have c01 : w5.cell? ⟨N, 1, none⟩ = some (.int .i64 wt) := R5.b0.cell 1
  have c02 : w5.cell? ⟨N, 2, none⟩ = some (.int .i64 c) := R5.b0.cell 2
  have c10 : w5.cell? ⟨N + 1, 0, none⟩ = some (.int .u8 4) := R5.b1.cell 0
  have c11 : w5.cell? ⟨N + 1, 1, none⟩ = some (.int .i64 cd) := R5.b1.cell 1
  have c12 : w5.cell? ⟨N + 1, 2, none⟩ = some (.int .u8 tm) := R5.b1.cell 2
  have c20 : w5.cell? ⟨N + 1 + 1, 0, none⟩ = some (.int .u8 0) := R5.b2.cell 0
  have c21 : w5.cell? ⟨N + 1 + 1, 1, none⟩ = some (.int .i64 0) := R5.b2.cell 1
  have c22 : w5.cell? ⟨N + 1 + 1, 2, none⟩ = some (.int .i64 0) := R5.b2.cell 2
  have f20 := R5.b2.frozen 0
  have f21 := R5.b2.frozen 1
  have f22 := R5.b2.frozen 2
  have c80 : w5.cell? ⟨P, 0, none⟩ = some (.int .u8 7) := B8.cell 0
  have c81 : w5.cell? ⟨P, 1, none⟩ = some (.int .i64 0) := B8.cell 1
  have c82 : w5.cell? ⟨P, 2, none⟩ = some (.int .i64 c) := B8.cell 2
  have c90 : w5.cell? ⟨P + 1, 0, none⟩ = some (.int .u8 1) := B9.cell 0
  have c91 : w5.cell? ⟨P + 1, 1, none⟩ = some (.int .i64 cd) := B9.cell 1
  have c92 : w5.cell? ⟨P + 1, 2, none⟩ = some (.int .u8 0) := B9.cell 2
  have c93 : w5.cell? ⟨P + 1, 3, none⟩ = some (.int .i64 0) := B9.cell 3
  have z0 := R5.b0.lt
  have z1 := R5.b1.lt
  have z2 := R5.b2.lt
  have z8 := B8.lt
  have z9 := B9.lt
  have y0 : ¬ (N = N + 1 + 1) := by omega
  have y1 : ¬ (N + 1 + 1 = N) := by omega
  have y2 : ¬ (P = N + 1 + 1) := by omega
  have y3 : ¬ (P + 1 = N + 1 + 1) := by omega
  have y4 : ¬ (N + 1 + 1 = P) := by omega
  have y5 : ¬ (N + 1 + 1 = P + 1) := by omega
  clear B8 B9
  cases h1 : fromB cd 100 199
  · cases h2 : fromB cd 200 699
    · have HS := Lib.hid (stepS_open0 (tm := tm) (show (3 : Int) = 2 ∨ (3 : Int) = 3 by omega) hm'.out h1 h2)
      go_wp2_with (go_at_call 29; refine (from_any _ _ _ _).mono ?_; rintro e w' ⟨rfl, rfl⟩)
      obtain ⟨hc0, hp, _, _⟩ := R5.fin ⟨3, wt, c⟩
      have hc := hc0.cell
      exact bodyPost_ret (v := .tuple #[(⟨3, wt, c⟩ : Mc).val, .slice none 0 0]) (by simp [results, Tryd.results23, go_sem, hc]) rfl ⟨.slice none 0 0, by rw [HS.out], by rw [HS.out]; exact OwnL.nil _ _, hp⟩
    · have HS := Lib.hid (stepS_open2 (tm := tm) (show (3 : Int) = 2 ∨ (3 : Int) = 3 by omega) hm'.out h1 h2)
      go_wp2_with (go_at_call 29; refine (from_any _ _ _ _).mono ?_; rintro e w' ⟨rfl, rfl⟩)
      go_region
      go_wp2
      obtain ⟨hc, hp⟩ := Ready.outs R5 ⟨5, 0, cd⟩ #[.int .u8 1, .int .i64 cd, .int .u8 0, .int .i64 0, .int .u8 4, .int .i64 0, .int .u8 10, .int .i64 32000] [⟨1, cd, 0, 0⟩, ⟨4, 0, 10, 32000⟩] 2 rfl rfl (by omega) rfl 1 HS.out
      exact bodyPost_ret (v := .tuple #[(⟨5, 0, cd⟩ : Mc).val, .slice (some ⟨w5.heap.size, 0, none⟩) 2 2]) (by simp [results, Tryd.results23, go_sem, hc]) rfl hp
  · have HS := Lib.hid (stepS_open1 (tm := tm) (show (3 : Int) = 2 ∨ (3 : Int) = 3 by omega) hm'.out h1)
    go_wp2_with (go_at_call 29; refine (from_any _ _ _ _).mono ?_; rintro e w' ⟨rfl, rfl⟩)
    go_region
    go_wp2
    obtain ⟨hc, hp⟩ := Ready.outs R5 ⟨3, 0, cd⟩ #[.int .u8 1, .int .i64 cd, .int .u8 0, .int .i64 0] [⟨1, cd, 0, 0⟩] 1 rfl rfl (by omega) rfl 1 HS.out
    exact bodyPost_ret (v := .tuple #[(⟨3, 0, cd⟩ : Mc).val, .slice (some ⟨w5.heap.size, 0, none⟩) 1 1]) (by simp [results, Tryd.results23, go_sem, hc]) rfl hp
set_option maxRecDepth 100000 in
set_option maxHeartbeats 4000000 in
theorem refStep_c (w : World) (wt c cd tm : Int) (hm : mayB ⟨3, wt, c⟩ = true) : Calls Tryd.prog 23 #[(⟨3, wt, c⟩ : Mc).val, (⟨1, cd, tm⟩ : Tin).val] w fun e w' =>
    ∃ v, e = .returned (.tuple #[(stepS ⟨3, wt, c⟩ ⟨1, cd, tm⟩).1.val, v]) ∧ OwnO w' w.heap.size v (stepS ⟨3, wt, c⟩ ⟨1, cd, tm⟩).2 ∧ Below w.heap.size w w' := by
  have hb0 : Below w.heap.size w (((w.alloc (.cells #[.int .u8 3, .int .i64 wt, .int .i64 c] 24)).alloc (.cells #[.int .u8 1, .int .i64 cd, .int .u8 tm] 28)).alloc (.cells #[.int .u8 0, .int .i64 0, .int .i64 0] 24)) :=
    (((Below.refl _ _).alloc (Nat.le_refl _) _).alloc (by simp) _).alloc (by simp; omega) _
  have b0 : Blk (((w.alloc (.cells #[.int .u8 3, .int .i64 wt, .int .i64 c] 24)).alloc (.cells #[.int .u8 1, .int .i64 cd, .int .u8 tm] 28)).alloc (.cells #[.int .u8 0, .int .i64 0, .int .i64 0] 24)) w.heap.size 24 #[.int .u8 3, .int .i64 wt, .int .i64 c] := ((Blk.new w _ _).alloc _).alloc _
  have b1 : Blk (((w.alloc (.cells #[.int .u8 3, .int .i64 wt, .int .i64 c] 24)).alloc (.cells #[.int .u8 1, .int .i64 cd, .int .u8 tm] 28)).alloc (.cells #[.int .u8 0, .int .i64 0, .int .i64 0] 24)) (w.heap.size + 1) 28 #[.int .u8 1, .int .i64 cd, .int .u8 tm] := (blk_new (by simp) _ _ _ rfl).alloc _
  have b2 : Blk (((w.alloc (.cells #[.int .u8 3, .int .i64 wt, .int .i64 c] 24)).alloc (.cells #[.int .u8 1, .int .i64 cd, .int .u8 tm] 28)).alloc (.cells #[.int .u8 0, .int .i64 0, .int .i64 0] 24)) (w.heap.size + 1 + 1) 24 #[.int .u8 0, .int .i64 0, .int .i64 0] := blk_new (by simp) _ _ _ rfl
  have s0 : w.heap.size + 3 = (((w.alloc (.cells #[.int .u8 3, .int .i64 wt, .int .i64 c] 24)).alloc (.cells #[.int .u8 1, .int .i64 cd, .int .u8 tm] 28)).alloc (.cells #[.int .u8 0, .int .i64 0, .int .i64 0] 24)).heap.size := by simp
  go_enter Tryd.func23, Tryd.ntmps23
  go_wp2_with fail
  generalize (((w.alloc (.cells #[.int .u8 3, .int .i64 wt, .int .i64 c] 24)).alloc (.cells #[.int .u8 1, .int .i64 cd, .int .u8 tm] 28)).alloc (.cells #[.int .u8 0, .int .i64 0, .int .i64 0] 24)) = w1 at *
  refine (refMay_any _ ⟨3, wt, c⟩).mono ?_
  rw [hm]
  have hm' := Lib.hid hm; clear hm
  rintro e w2 ⟨rfl, hb2⟩
  have hz : w.heap.size + 3 ≤ w2.heap.size := by rw [s0]; exact hb2.size
  have B0 := b0.ext hb2
  have B1 := b1.ext hb2
  have B2 := b2.ext hb2
  have hbw := hb0.trans (hb2.mono (by omega))
  clear s0 b0 b1 b2 hb2 hb0
  obtain ⟨N, hN⟩ : ∃ N, N = w.heap.size := ⟨_, rfl⟩
  rw [← hN] at hz B0 B1 B2 hbw ⊢
  have HN := Lib.hid hN
  clear hN
  have c0 := B0.cell
  have c1 := B1.cell
  have c2 := B2.cell
  have f2 := B2.frozen
  have hz0 : N < w2.heap.size := by omega
  have hz1 : N + 1 < w2.heap.size := by omega
  have hz2 : N + 1 + 1 < w2.heap.size := by omega
  have R : Ready w w2 N ⟨3, wt, c⟩ ⟨1, cd, tm⟩ := ⟨HN.out, B0, B1, B2, hbw⟩
  clear B0 B1 B2 hbw
  have hf : True := trivial
  go_upto_block 0 with (fail)
  have R5 := (R.alloc (.cells #[.int .u8 7, .int .i64 0, .int .i64 c] 24)).alloc (.cells #[.int .u8 1, .int .i64 cd, .int .u8 0, .int .i64 0] 53)
  have B8 := (Blk.new w2 24 #[.int .u8 7, .int .i64 0, .int .i64 c]).alloc (.cells #[.int .u8 1, .int .i64 cd, .int .u8 0, .int .i64 0] 53)
  have B9 : Blk ((w2.alloc (.cells #[.int .u8 7, .int .i64 0, .int .i64 c] 24)).alloc (.cells #[.int .u8 1, .int .i64 cd, .int .u8 0, .int .i64 0] 53)) (w2.heap.size + 1) 53 #[.int .u8 1, .int .i64 cd, .int .u8 0, .int .i64 0] := blk_new (by simp) _ _ _ rfl
  clear R c0 c1 c2 f2 hz hz0 hz1
  generalize (w2.alloc (.cells #[.int .u8 7, .int .i64 0, .int .i64 c] 24)).alloc (.cells #[.int .u8 1, .int .i64 cd, .int .u8 0, .int .i64 0] 53) = w5 at *
  generalize w2.heap.size = P at *
  have c00 : w5.cell? ⟨N, 0, none⟩ = some (.int .u8 3) := R5.b0.cell 0
  have c01 : w5.cell? ⟨N, 1, none⟩ = some (.int .i64 wt) := R5.b0.cell 1
  have c02 : w5.cell? ⟨N, 2, none⟩ = some (.int .i64 c) := R5.b0.cell 2
  have c10 : w5.cell? ⟨N + 1, 0, none⟩ = some (.int .u8 1) := R5.b1.cell 0
  have c11 : w5.cell? ⟨N + 1, 1, none⟩ = some (.int .i64 cd) := R5.b1.cell 1
  have c12 : w5.cell? ⟨N + 1, 2, none⟩ = some (.int .u8 tm) := R5.b1.cell 2
  have c20 : w5.cell? ⟨N + 1 + 1, 0, none⟩ = some (.int .u8 0) := R5.b2.cell 0
  have c21 : w5.cell? ⟨N + 1 + 1, 1, none⟩ = some (.int .i64 0) := R5.b2.cell 1
  have c22 : w5.cell? ⟨N + 1 + 1, 2, none⟩ = some (.int .i64 0) := R5.b2.cell 2
  have f20 := R5.b2.frozen 0
  have f21 := R5.b2.frozen 1
  have f22 := R5.b2.frozen 2
  have c80 : w5.cell? ⟨P, 0, none⟩ = some (.int .u8 7) := B8.cell 0
  have c81 : w5.cell? ⟨P, 1, none⟩ = some (.int .i64 0) := B8.cell 1
  have c82 : w5.cell? ⟨P, 2, none⟩ = some (.int .i64 c) := B8.cell 2
  have c90 : w5.cell? ⟨P + 1, 0, none⟩ = some (.int .u8 1) := B9.cell 0
  have c91 : w5.cell? ⟨P + 1, 1, none⟩ = some (.int .i64 cd) := B9.cell 1
  have c92 : w5.cell? ⟨P + 1, 2, none⟩ = some (.int .u8 0) := B9.cell 2
  have c93 : w5.cell? ⟨P + 1, 3, none⟩ = some (.int .i64 0) := B9.cell 3
  have z0 := R5.b0.lt
  have z1 := R5.b1.lt
  have z2 := R5.b2.lt
  have z8 := B8.lt
  have z9 := B9.lt
  have y0 : ¬ (N = N + 1 + 1) := by omega
  have y1 : ¬ (N + 1 + 1 = N) := by omega
  have y2 : ¬ (P = N + 1 + 1) := by omega
  have y3 : ¬ (P + 1 = N + 1 + 1) := by omega
  have y4 : ¬ (N + 1 + 1 = P) := by omega
  have y5 : ¬ (N + 1 + 1 = P + 1) := by omega
  clear B8 B9
  have HS := Lib.hid (stepS_again (cd := cd) (tm := tm) (show (3 : Int) = 3 ∨ (3 : Int) = 5 by omega) hm'.out)
  go_wp2_with (go_at_call 29; refine (from_any _ _ _ _).mono ?_; rintro e w' ⟨rfl, rfl⟩)
  go_region
  go_wp2
  obtain ⟨hc, hp⟩ := Ready.outs R5 ⟨3, wt, c⟩ #[.int .u8 1, .int .i64 c, .int .u8 0, .int .i64 0] [⟨1, c, 0, 0⟩] 1 rfl rfl (by omega) rfl 1 HS.out
  exact bodyPost_ret (v := .tuple #[(⟨3, wt, c⟩ : Mc).val, .slice (some ⟨w5.heap.size, 0, none⟩) 1 1]) (by simp [results, Tryd.results23, go_sem, hc]) rfl hp
set_option maxRecDepth 100000 in
set_option maxHeartbeats 4000000 in
theorem refStep_d (w : World) (wt c cd tm : Int) (hm : mayB ⟨5, wt, c⟩ = true) : Calls Tryd.prog 23 #[(⟨5, wt, c⟩ : Mc).val, (⟨1, cd, tm⟩ : Tin).val] w fun e w' =>
    ∃ v, e = .returned (.tuple #[(stepS ⟨5, wt, c⟩ ⟨1, cd, tm⟩).1.val, v]) ∧ OwnO w' w.heap.size v (stepS ⟨5, wt, c⟩ ⟨1, cd, tm⟩).2 ∧ Below w.heap.size w w' := by
  have hb0 : Below w.heap.size w (((w.alloc (.cells #[.int .u8 5, .int .i64 wt, .int .i64 c] 24)).alloc (.cells #[.int .u8 1, .int .i64 cd, .int .u8 tm] 28)).alloc (.cells #[.int .u8 0, .int .i64 0, .int .i64 0] 24)) :=
    (((Below.refl _ _).alloc (Nat.le_refl _) _).alloc (by simp) _).alloc (by simp; omega) _
  have b0 : Blk (((w.alloc (.cells #[.int .u8 5, .int .i64 wt, .int .i64 c] 24)).alloc (.cells #[.int .u8 1, .int .i64 cd, .int .u8 tm] 28)).alloc (.cells #[.int .u8 0, .int .i64 0, .int .i64 0] 24)) w.heap.size 24 #[.int .u8 5, .int .i64 wt, .int .i64 c] := ((Blk.new w _ _).alloc _).alloc _
  have b1 : Blk (((w.alloc (.cells #[.int .u8 5, .int .i64 wt, .int .i64 c] 24)).alloc (.cells #[.int .u8 1, .int .i64 cd, .int .u8 tm] 28)).alloc (.cells #[.int .u8 0, .int .i64 0, .int .i64 0] 24)) (w.heap.size + 1) 28 #[.int .u8 1, .int .i64 cd, .int .u8 tm] := (blk_new (by simp) _ _ _ rfl).alloc _
  have b2 : Blk (((w.alloc (.cells #[.int .u8 5, .int .i64 wt, .int .i64 c] 24)).alloc (.cells #[.int .u8 1, .int .i64 cd, .int .u8 tm] 28)).alloc (.cells #[.int .u8 0, .int .i64 0, .int .i64 0] 24)) (w.heap.size + 1 + 1) 24 #[.int .u8 0, .int .i64 0, .int .i64 0] := blk_new (by simp) _ _ _ rfl
  have s0 : w.heap.size + 3 = (((w.alloc (.cells #[.int .u8 5, .int .i64 wt, .int .i64 c] 24)).alloc (.cells #[.int .u8 1, .int .i64 cd, .int .u8 tm] 28)).alloc (.cells #[.int .u8 0, .int .i64 0, .int .i64 0] 24)).heap.size := by simp
  go_enter Tryd.func23, Tryd.ntmps23
  go_wp2_with fail
  generalize (((w.alloc (.cells #[.int .u8 5, .int .i64 wt, .int .i64 c] 24)).alloc (.cells #[.int .u8 1, .int .i64 cd, .int .u8 tm] 28)).alloc (.cells #[.int .u8 0, .int .i64 0, .int .i64 0] 24)) = w1 at *
  refine (refMay_any _ ⟨5, wt, c⟩).mono ?_
  rw [hm]
  have hm' := Lib.hid hm; clear hm
  rintro e w2 ⟨rfl, hb2⟩
  have hz : w.heap.size + 3 ≤ w2.heap.size := by rw [s0]; exact hb2.size
  have B0 := b0.ext hb2
  have B1 := b1.ext hb2
  have B2 := b2.ext hb2
  have hbw := hb0.trans (hb2.mono (by omega))
  clear s0 b0 b1 b2 hb2 hb0
  obtain ⟨N, hN⟩ : ∃ N, N = w.heap.size := ⟨_, rfl⟩
  rw [← hN] at hz B0 B1 B2 hbw ⊢
  have HN := Lib.hid hN
  clear hN
  have c0 := B0.cell
  have c1 := B1.cell
  have c2 := B2.cell
  have f2 := B2.frozen
  have hz0 : N < w2.heap.size := by omega
  have hz1 : N + 1 < w2.heap.size := by omega
  have hz2 : N + 1 + 1 < w2.heap.size := by omega
  have R : Ready w w2 N ⟨5, wt, c⟩ ⟨1, cd, tm⟩ := ⟨HN.out, B0, B1, B2, hbw⟩
  clear B0 B1 B2 hbw
  have hf : True := trivial
  go_upto_block 0 with (fail)
  have R5 := (R.alloc (.cells #[.int .u8 7, .int .i64 0, .int .i64 c] 24)).alloc (.cells #[.int .u8 1, .int .i64 cd, .int .u8 0, .int .i64 0] 53)
  have B8 := (Blk.new w2 24 #[.int .u8 7, .int .i64 0, .int .i64 c]).alloc (.cells #[.int .u8 1, .int .i64 cd, .int .u8 0, .int .i64 0] 53)
  have B9 : Blk ((w2.alloc (.cells #[.int .u8 7, .int .i64 0, .int .i64 c] 24)).alloc (.cells #[.int .u8 1, .int .i64 cd, .int .u8 0, .int .i64 0] 53)) (w2.heap.size + 1) 53 #[.int .u8 1, .int .i64 cd, .int .u8 0, .int .i64 0] := blk_new (by simp) _ _ _ rfl
  clear R c0 c1 c2 f2 hz hz0 hz1
  generalize (w2.alloc (.cells #[.int .u8 7, .int .i64 0, .int .i64 c] 24)).alloc (.cells #[.int .u8 1, .int .i64 cd, .int .u8 0, .int .i64 0] 53) = w5 at *
  generalize w2.heap.size = P at *
  have c00 : w5.cell? ⟨N, 0, none⟩ = some (.int .u8 5) := R5.b0.cell 0
  have c01 : w5.cell? ⟨N, 1, none⟩ = some (.int .i64 wt) := R5.b0.cell 1
  have c02 : w5.cell? ⟨N, 2, none⟩ = some (.int .i64 c) := R5.b0.cell 2
  have c10 : w5.cell? ⟨N + 1, 0, none⟩ = some (.int .u8 1) := R5.b1.cell 0
  have c11 : w5.cell? ⟨N + 1, 1, none⟩ = some (.int .i64 cd) := R5.b1.cell 1
  have c12 : w5.cell? ⟨N + 1, 2, none⟩ = some (.int .u8 tm) := R5.b1.cell 2
  have c20 : w5.cell? ⟨N + 1 + 1, 0, none⟩ = some (.int .u8 0) := R5.b2.cell 0
  have c21 : w5.cell? ⟨N + 1 + 1, 1, none⟩ = some (.int .i64 0) := R5.b2.cell 1
  have c22 : w5.cell? ⟨N + 1 + 1, 2, none⟩ = some (.int .i64 0) := R5.b2.cell 2
  have f20 := R5.b2.frozen 0
  have f21 := R5.b2.frozen 1
  have f22 := R5.b2.frozen 2
  have c80 : w5.cell? ⟨P, 0, none⟩ = some (.int .u8 7) := B8.cell 0
  have c81 : w5.cell? ⟨P, 1, none⟩ = some (.int .i64 0) := B8.cell 1
  have c82 : w5.cell? ⟨P, 2, none⟩ = some (.int .i64 c) := B8.cell 2
  have c90 : w5.cell? ⟨P + 1, 0, none⟩ = some (.int .u8 1) := B9.cell 0
  have c91 : w5.cell? ⟨P + 1, 1, none⟩ = some (.int .i64 cd) := B9.cell 1
  have c92 : w5.cell? ⟨P + 1, 2, none⟩ = some (.int .u8 0) := B9.cell 2
  have c93 : w5.cell? ⟨P + 1, 3, none⟩ = some (.int .i64 0) := B9.cell 3
  have z0 := R5.b0.lt
  have z1 := R5.b1.lt
  have z2 := R5.b2.lt
  have z8 := B8.lt
  have z9 := B9.lt
  have y0 : ¬ (N = N + 1 + 1) := by omega
  have y1 : ¬ (N + 1 + 1 = N) := by omega
  have y2 : ¬ (P = N + 1 + 1) := by omega
  have y3 : ¬ (P + 1 = N + 1 + 1) := by omega
  have y4 : ¬ (N + 1 + 1 = P) := by omega
  have y5 : ¬ (N + 1 + 1 = P + 1) := by omega
  clear B8 B9
  have HS := Lib.hid (stepS_again (cd := cd) (tm := tm) (show (5 : Int) = 3 ∨ (5 : Int) = 5 by omega) hm'.out)
  go_wp2_with (go_at_call 29; refine (from_any _ _ _ _).mono ?_; rintro e w' ⟨rfl, rfl⟩)
  go_region
  go_wp2
  obtain ⟨hc, hp⟩ := Ready.outs R5 ⟨5, wt, c⟩ #[.int .u8 1, .int .i64 c, .int .u8 0, .int .i64 0] [⟨1, c, 0, 0⟩] 1 rfl rfl (by omega) rfl 1 HS.out
  exact bodyPost_ret (v := .tuple #[(⟨5, wt, c⟩ : Mc).val, .slice (some ⟨w5.heap.size, 0, none⟩) 1 1]) (by simp [results, Tryd.results23, go_sem, hc]) rfl hp
set_option maxRecDepth 100000 in
set_option maxHeartbeats 4000000 in
theorem refStep_e (w : World) (wt c cd tm : Int) (hm : mayB ⟨3, wt, c⟩ = true) : Calls Tryd.prog 23 #[(⟨3, wt, c⟩ : Mc).val, (⟨6, cd, tm⟩ : Tin).val] w fun e w' =>
    ∃ v, e = .returned (.tuple #[(stepS ⟨3, wt, c⟩ ⟨6, cd, tm⟩).1.val, v]) ∧ OwnO w' w.heap.size v (stepS ⟨3, wt, c⟩ ⟨6, cd, tm⟩).2 ∧ Below w.heap.size w w' := by
  have hb0 : Below w.heap.size w (((w.alloc (.cells #[.int .u8 3, .int .i64 wt, .int .i64 c] 24)).alloc (.cells #[.int .u8 6, .int .i64 cd, .int .u8 tm] 28)).alloc (.cells #[.int .u8 0, .int .i64 0, .int .i64 0] 24)) :=
    (((Below.refl _ _).alloc (Nat.le_refl _) _).alloc (by simp) _).alloc (by simp; omega) _
  have b0 : Blk (((w.alloc (.cells #[.int .u8 3, .int .i64 wt, .int .i64 c] 24)).alloc (.cells #[.int .u8 6, .int .i64 cd, .int .u8 tm] 28)).alloc (.cells #[.int .u8 0, .int .i64 0, .int .i64 0] 24)) w.heap.size 24 #[.int .u8 3, .int .i64 wt, .int .i64 c] := ((Blk.new w _ _).alloc _).alloc _
  have b1 : Blk (((w.alloc (.cells #[.int .u8 3, .int .i64 wt, .int .i64 c] 24)).alloc (.cells #[.int .u8 6, .int .i64 cd, .int .u8 tm] 28)).alloc (.cells #[.int .u8 0, .int .i64 0, .int .i64 0] 24)) (w.heap.size + 1) 28 #[.int .u8 6, .int .i64 cd, .int .u8 tm] := (blk_new (by simp) _ _ _ rfl).alloc _
  have b2 : Blk (((w.alloc (.cells #[.int .u8 3, .int .i64 wt, .int .i64 c] 24)).alloc (.cells #[.int .u8 6, .int .i64 cd, .int .u8 tm] 28)).alloc (.cells #[.int .u8 0, .int .i64 0, .int .i64 0] 24)) (w.heap.size + 1 + 1) 24 #[.int .u8 0, .int .i64 0, .int .i64 0] := blk_new (by simp) _ _ _ rfl
  have s0 : w.heap.size + 3 = (((w.alloc (.cells #[.int .u8 3, .int .i64 wt, .int .i64 c] 24)).alloc (.cells #[.int .u8 6, .int .i64 cd, .int .u8 tm] 28)).alloc (.cells #[.int .u8 0, .int .i64 0, .int .i64 0] 24)).heap.size := by simp
  go_enter Tryd.func23, Tryd.ntmps23
  go_wp2_with fail
  generalize (((w.alloc (.cells #[.int .u8 3, .int .i64 wt, .int .i64 c] 24)).alloc (.cells #[.int .u8 6, .int .i64 cd, .int .u8 tm] 28)).alloc (.cells #[.int .u8 0, .int .i64 0, .int .i64 0] 24)) = w1 at *
  refine (refMay_any _ ⟨3, wt, c⟩).mono ?_
  rw [hm]
  have hm' := Lib.hid hm; clear hm
  rintro e w2 ⟨rfl, hb2⟩
  have hz : w.heap.size + 3 ≤ w2.heap.size := by rw [s0]; exact hb2.size
  have B0 := b0.ext hb2
  have B1 := b1.ext hb2
  have B2 := b2.ext hb2
  have hbw := hb0.trans (hb2.mono (by omega))
  clear s0 b0 b1 b2 hb2 hb0
  obtain ⟨N, hN⟩ : ∃ N, N = w.heap.size := ⟨_, rfl⟩
  rw [← hN] at hz B0 B1 B2 hbw ⊢
  have HN := Lib.hid hN
  clear hN
  have c0 := B0.cell
  have c1 := B1.cell
  have c2 := B2.cell
  have f2 := B2.frozen
  have hz0 : N < w2.heap.size := by omega
  have hz1 : N + 1 < w2.heap.size := by omega
  have hz2 : N + 1 + 1 < w2.heap.size := by omega
  have R : Ready w w2 N ⟨3, wt, c⟩ ⟨6, cd, tm⟩ := ⟨HN.out, B0, B1, B2, hbw⟩
  clear B0 B1 B2 hbw
  have hf : True := trivial
  go_upto_block 0 with (fail)
  have R5 := (R.alloc (.cells #[.int .u8 7, .int .i64 0, .int .i64 c] 24)).alloc (.cells #[.int .u8 1, .int .i64 cd, .int .u8 0, .int .i64 0] 53)
  have B8 := (Blk.new w2 24 #[.int .u8 7, .int .i64 0, .int .i64 c]).alloc (.cells #[.int .u8 1, .int .i64 cd, .int .u8 0, .int .i64 0] 53)
  have B9 : Blk ((w2.alloc (.cells #[.int .u8 7, .int .i64 0, .int .i64 c] 24)).alloc (.cells #[.int .u8 1, .int .i64 cd, .int .u8 0, .int .i64 0] 53)) (w2.heap.size + 1) 53 #[.int .u8 1, .int .i64 cd, .int .u8 0, .int .i64 0] := blk_new (by simp) _ _ _ rfl
  clear R c0 c1 c2 f2 hz hz0 hz1
  generalize (w2.alloc (.cells #[.int .u8 7, .int .i64 0, .int .i64 c] 24)).alloc (.cells #[.int .u8 1, .int .i64 cd, .int .u8 0, .int .i64 0] 53) = w5 at *
  generalize w2.heap.size = P at *
  have c00 : w5.cell? ⟨N, 0, none⟩ = some (.int .u8 3) := R5.b0.cell 0
  have c01 : w5.cell? ⟨N, 1, none⟩ = some (.int .i64 wt) := R5.b0.cell 1
  have c02 : w5.cell? ⟨N, 2, none⟩ = some (.int .i64 c) := R5.b0.cell 2
  have c10 : w5.cell? ⟨N + 1, 0, none⟩ = some (.int .u8 6) := R5.b1.cell 0
  have c11 : w5.cell? ⟨N + 1, 1, none⟩ = some (.int .i64 cd) := R5.b1.cell 1
  have c12 : w5.cell? ⟨N + 1, 2, none⟩ = some (.int .u8 tm) := R5.b1.cell 2
  have c20 : w5.cell? ⟨N + 1 + 1, 0, none⟩ = some (.int .u8 0) := R5.b2.cell 0
  have c21 : w5.cell? ⟨N + 1 + 1, 1, none⟩ = some (.int .i64 0) := R5.b2.cell 1
  have c22 : w5.cell? ⟨N + 1 + 1, 2, none⟩ = some (.int .i64 0) := R5.b2.cell 2
  have f20 := R5.b2.frozen 0
  have f21 := R5.b2.frozen 1
  have f22 := R5.b2.frozen 2
  have c80 : w5.cell? ⟨P, 0, none⟩ = some (.int .u8 7) := B8.cell 0
  have c81 : w5.cell? ⟨P, 1, none⟩ = some (.int .i64 0) := B8.cell 1
  have c82 : w5.cell? ⟨P, 2, none⟩ = some (.int .i64 c) := B8.cell 2
  have c90 : w5.cell? ⟨P + 1, 0, none⟩ = some (.int .u8 1) := B9.cell 0
  have c91 : w5.cell? ⟨P + 1, 1, none⟩ = some (.int .i64 cd) := B9.cell 1
  have c92 : w5.cell? ⟨P + 1, 2, none⟩ = some (.int .u8 0) := B9.cell 2
  have c93 : w5.cell? ⟨P + 1, 3, none⟩ = some (.int .i64 0) := B9.cell 3
  have z0 := R5.b0.lt
  have z1 := R5.b1.lt
  have z2 := R5.b2.lt
  have z8 := B8.lt
  have z9 := B9.lt
  have y0 : ¬ (N = N + 1 + 1) := by omega
  have y1 : ¬ (N + 1 + 1 = N) := by omega
  have y2 : ¬ (P = N + 1 + 1) := by omega
  have y3 : ¬ (P + 1 = N + 1 + 1) := by omega
  have y4 : ¬ (N + 1 + 1 = P) := by omega
  have y5 : ¬ (N + 1 + 1 = P + 1) := by omega
  clear B8 B9
  have HS := Lib.hid (stepS_failed (cd := cd) (tm := tm) (show (3 : Int) = 3 ∨ (3 : Int) = 5 by omega) hm'.out)
  go_wp2_with (go_at_call 29; refine (from_any _ _ _ _).mono ?_; rintro e w' ⟨rfl, rfl⟩)
  obtain ⟨hc, hp⟩ := Ready.outs R5 ⟨7, 0, c⟩ #[.int .u8 6, .int .i64 0, .int .u8 0, .int .i64 0, .int .u8 7, .int .i64 0, .int .u8 0, .int .i64 0] [⟨6, 0, 0, 0⟩, ⟨7, 0, 0, 0⟩] 2 rfl rfl (by omega) rfl 0 HS.out
  exact bodyPost_ret (v := .tuple #[(⟨7, 0, c⟩ : Mc).val, .slice (some ⟨w5.heap.size, 0, none⟩) 2 2]) (by simp [results, Tryd.results23, go_sem, hc]) rfl hp
set_option maxRecDepth 100000 in
set_option maxHeartbeats 4000000 in
theorem refStep_f (w : World) (wt c cd tm : Int) (hm : mayB ⟨5, wt, c⟩ = true) : Calls Tryd.prog 23 #[(⟨5, wt, c⟩ : Mc).val, (⟨6, cd, tm⟩ : Tin).val] w fun e w' =>
    ∃ v, e = .returned (.tuple #[(stepS ⟨5, wt, c⟩ ⟨6, cd, tm⟩).1.val, v]) ∧ OwnO w' w.heap.size v (stepS ⟨5, wt, c⟩ ⟨6, cd, tm⟩).2 ∧ Below w.heap.size w w' := by
  have hb0 : Below w.heap.size w (((w.alloc (.cells #[.int .u8 5, .int .i64 wt, .int .i64 c] 24)).alloc (.cells #[.int .u8 6, .int .i64 cd, .int .u8 tm] 28)).alloc (.cells #[.int .u8 0, .int .i64 0, .int .i64 0] 24)) :=
    (((Below.refl _ _).alloc (Nat.le_refl _) _).alloc (by simp) _).alloc (by simp; omega) _
  have b0 : Blk (((w.alloc (.cells #[.int .u8 5, .int .i64 wt, .int .i64 c] 24)).alloc (.cells #[.int .u8 6, .int .i64 cd, .int .u8 tm] 28)).alloc (.cells #[.int .u8 0, .int .i64 0, .int .i64 0] 24)) w.heap.size 24 #[.int .u8 5, .int .i64 wt, .int .i64 c] := ((Blk.new w _ _).alloc _).alloc _
  have b1 : Blk (((w.alloc (.cells #[.int .u8 5, .int .i64 wt, .int .i64 c] 24)).alloc (.cells #[.int .u8 6, .int .i64 cd, .int .u8 tm] 28)).alloc (.cells #[.int .u8 0, .int .i64 0, .int .i64 0] 24)) (w.heap.size + 1) 28 #[.int .u8 6, .int .i64 cd, .int .u8 tm] := (blk_new (by simp) _ _ _ rfl).alloc _
  have b2 : Blk (((w.alloc (.cells #[.int .u8 5, .int .i64 wt, .int .i64 c] 24)).alloc (.cells #[.int .u8 6, .int .i64 cd, .int .u8 tm] 28)).alloc (.cells #[.int .u8 0, .int .i64 0, .int .i64 0] 24)) (w.heap.size + 1 + 1) 24 #[.int .u8 0, .int .i64 0, .int .i64 0] := blk_new (by simp) _ _ _ rfl
  have s0 : w.heap.size + 3 = (((w.alloc (.cells #[.int .u8 5, .int .i64 wt, .int .i64 c] 24)).alloc (.cells #[.int .u8 6, .int .i64 cd, .int .u8 tm] 28)).alloc (.cells #[.int .u8 0, .int .i64 0, .int .i64 0] 24)).heap.size := by simp
  go_enter Tryd.func23, Tryd.ntmps23
  go_wp2_with fail
  generalize (((w.alloc (.cells #[.int .u8 5, .int .i64 wt, .int .i64 c] 24)).alloc (.cells #[.int .u8 6, .int .i64 cd, .int .u8 tm] 28)).alloc (.cells #[.int .u8 0, .int .i64 0, .int .i64 0] 24)) = w1 at *
  refine (refMay_any _ ⟨5, wt, c⟩).mono ?_
  rw [hm]
  have hm' := Lib.hid hm; clear hm
  rintro e w2 ⟨rfl, hb2⟩
  have hz : w.heap.size + 3 ≤ w2.heap.size := by rw [s0]; exact hb2.size
  have B0 := b0.ext hb2
  have B1 := b1.ext hb2
  have B2 := b2.ext hb2
  have hbw := hb0.trans (hb2.mono (by omega))
  clear s0 b0 b1 b2 hb2 hb0
  obtain ⟨N, hN⟩ : ∃ N, N = w.heap.size := ⟨_, rfl⟩
  rw [← hN] at hz B0 B1 B2 hbw ⊢
  have HN := Lib.hid hN
  clear hN
  have c0 := B0.cell
  have c1 := B1.cell
  have c2 := B2.cell
  have f2 := B2.frozen
  have hz0 : N < w2.heap.size := by omega
  have hz1 : N + 1 < w2.heap.size := by omega
  have hz2 : N + 1 + 1 < w2.heap.size := by omega
  have R : Ready w w2 N ⟨5, wt, c⟩ ⟨6, cd, tm⟩ := ⟨HN.out, B0, B1, B2, hbw⟩
  clear B0 B1 B2 hbw
  have hf : True := trivial
  go_upto_block 0 with (fail)
  have R5 := (R.alloc (.cells #[.int .u8 7, .int .i64 0, .int .i64 c] 24)).alloc (.cells #[.int .u8 1, .int .i64 cd, .int .u8 0, .int .i64 0] 53)
  have B8 := (Blk.new w2 24 #[.int .u8 7, .int .i64 0, .int .i64 c]).alloc (.cells #[.int .u8 1, .int .i64 cd, .int .u8 0, .int .i64 0] 53)
  have B9 : Blk ((w2.alloc (.cells #[.int .u8 7, .int .i64 0, .int .i64 c] 24)).alloc (.cells #[.int .u8 1, .int .i64 cd, .int .u8 0, .int .i64 0] 53)) (w2.heap.size + 1) 53 #[.int .u8 1, .int .i64 cd, .int .u8 0, .int .i64 0] := blk_new (by simp) _ _ _ rfl
  clear R c0 c1 c2 f2 hz hz0 hz1
  generalize (w2.alloc (.cells #[.int .u8 7, .int .i64 0, .int .i64 c] 24)).alloc (.cells #[.int .u8 1, .int .i64 cd, .int .u8 0, .int .i64 0] 53) = w5 at *
  generalize w2.heap.size = P at *
  have c00 : w5.cell? ⟨N, 0, none⟩ = some (.int .u8 5) := R5.b0.cell 0
  have c01 : w5.cell? ⟨N, 1, none⟩ = some (.int .i64 wt) := R5.b0.cell 1
  have c02 : w5.cell? ⟨N, 2, none⟩ = some (.int .i64 c) := R5.b0.cell 2
  have c10 : w5.cell? ⟨N + 1, 0, none⟩ = some (.int .u8 6) := R5.b1.cell 0
  have c11 : w5.cell? ⟨N + 1, 1, none⟩ = some (.int .i64 cd) := R5.b1.cell 1
  have c12 : w5.cell? ⟨N + 1, 2, none⟩ = some (.int .u8 tm) := R5.b1.cell 2
  have c20 : w5.cell? ⟨N + 1 + 1, 0, none⟩ = some (.int .u8 0) := R5.b2.cell 0
  have c21 : w5.cell? ⟨N + 1 + 1, 1, none⟩ = some (.int .i64 0) := R5.b2.cell 1
  have c22 : w5.cell? ⟨N + 1 + 1, 2, none⟩ = some (.int .i64 0) := R5.b2.cell 2
  have f20 := R5.b2.frozen 0
  have f21 := R5.b2.frozen 1
  have f22 := R5.b2.frozen 2
  have c80 : w5.cell? ⟨P, 0, none⟩ = some (.int .u8 7) := B8.cell 0
  have c81 : w5.cell? ⟨P, 1, none⟩ = some (.int .i64 0) := B8.cell 1
  have c82 : w5.cell? ⟨P, 2, none⟩ = some (.int .i64 c) := B8.cell 2
  have c90 : w5.cell? ⟨P + 1, 0, none⟩ = some (.int .u8 1) := B9.cell 0
  have c91 : w5.cell? ⟨P + 1, 1, none⟩ = some (.int .i64 cd) := B9.cell 1
  have c92 : w5.cell? ⟨P + 1, 2, none⟩ = some (.int .u8 0) := B9.cell 2
  have c93 : w5.cell? ⟨P + 1, 3, none⟩ = some (.int .i64 0) := B9.cell 3
  have z0 := R5.b0.lt
  have z1 := R5.b1.lt
  have z2 := R5.b2.lt
  have z8 := B8.lt
  have z9 := B9.lt
  have y0 : ¬ (N = N + 1 + 1) := by omega
  have y1 : ¬ (N + 1 + 1 = N) := by omega
  have y2 : ¬ (P = N + 1 + 1) := by omega
  have y3 : ¬ (P + 1 = N + 1 + 1) := by omega
  have y4 : ¬ (N + 1 + 1 = P) := by omega
  have y5 : ¬ (N + 1 + 1 = P + 1) := by omega
  clear B8 B9
  have HS := Lib.hid (stepS_failed (cd := cd) (tm := tm) (show (5 : Int) = 3 ∨ (5 : Int) = 5 by omega) hm'.out)
  go_wp2_with (go_at_call 29; refine (from_any _ _ _ _).mono ?_; rintro e w' ⟨rfl, rfl⟩)
  obtain ⟨hc, hp⟩ := Ready.outs R5 ⟨7, 0, c⟩ #[.int .u8 6, .int .i64 0, .int .u8 0, .int .i64 0, .int .u8 7, .int .i64 0, .int .u8 0, .int .i64 0] [⟨6, 0, 0, 0⟩, ⟨7, 0, 0, 0⟩] 2 rfl rfl (by omega) rfl 0 HS.out
  exact bodyPost_ret (v := .tuple #[(⟨7, 0, c⟩ : Mc).val, .slice (some ⟨w5.heap.size, 0, none⟩) 2 2]) (by simp [results, Tryd.results23, go_sem, hc]) rfl hp
set_option maxRecDepth 100000 in
set_option maxHeartbeats 4000000 in
theorem refStep_g (w : World) (wt c cd tm : Int) (hm : mayB ⟨5, wt, c⟩ = true) : Calls Tryd.prog 23 #[(⟨5, wt, c⟩ : Mc).val, (⟨5, cd, tm⟩ : Tin).val] w fun e w' =>
    ∃ v, e = .returned (.tuple #[(stepS ⟨5, wt, c⟩ ⟨5, cd, tm⟩).1.val, v]) ∧ OwnO w' w.heap.size v (stepS ⟨5, wt, c⟩ ⟨5, cd, tm⟩).2 ∧ Below w.heap.size w w' := by
  have hb0 : Below w.heap.size w (((w.alloc (.cells #[.int .u8 5, .int .i64 wt, .int .i64 c] 24)).alloc (.cells #[.int .u8 5, .int .i64 cd, .int .u8 tm] 28)).alloc (.cells #[.int .u8 0, .int .i64 0, .int .i64 0] 24)) :=
    (((Below.refl _ _).alloc (Nat.le_refl _) _).alloc (by simp) _).alloc (by simp; omega) _
  have b0 : Blk (((w.alloc (.cells #[.int .u8 5, .int .i64 wt, .int .i64 c] 24)).alloc (.cells #[.int .u8 5, .int .i64 cd, .int .u8 tm] 28)).alloc (.cells #[.int .u8 0, .int .i64 0, .int .i64 0] 24)) w.heap.size 24 #[.int .u8 5, .int .i64 wt, .int .i64 c] := ((Blk.new w _ _).alloc _).alloc _
  have b1 : Blk (((w.alloc (.cells #[.int .u8 5, .int .i64 wt, .int .i64 c] 24)).alloc (.cells #[.int .u8 5, .int .i64 cd, .int .u8 tm] 28)).alloc (.cells #[.int .u8 0, .int .i64 0, .int .i64 0] 24)) (w.heap.size + 1) 28 #[.int .u8 5, .int .i64 cd, .int .u8 tm] := (blk_new (by simp) _ _ _ rfl).alloc _
  have b2 : Blk (((w.alloc (.cells #[.int .u8 5, .int .i64 wt, .int .i64 c] 24)).alloc (.cells #[.int .u8 5, .int .i64 cd, .int .u8 tm] 28)).alloc (.cells #[.int .u8 0, .int .i64 0, .int .i64 0] 24)) (w.heap.size + 1 + 1) 24 #[.int .u8 0, .int .i64 0, .int .i64 0] := blk_new (by simp) _ _ _ rfl
  have s0 : w.heap.size + 3 = (((w.alloc (.cells #[.int .u8 5, .int .i64 wt, .int .i64 c] 24)).alloc (.cells #[.int .u8 5, .int .i64 cd, .int .u8 tm] 28)).alloc (.cells #[.int .u8 0, .int .i64 0, .int .i64 0] 24)).heap.size := by simp
  go_enter Tryd.func23, Tryd.ntmps23
  go_wp2_with fail
  generalize (((w.alloc (.cells #[.int .u8 5, .int .i64 wt, .int .i64 c] 24)).alloc (.cells #[.int .u8 5, .int .i64 cd, .int .u8 tm] 28)).alloc (.cells #[.int .u8 0, .int .i64 0, .int .i64 0] 24)) = w1 at *
  refine (refMay_any _ ⟨5, wt, c⟩).mono ?_
  rw [hm]
  have hm' := Lib.hid hm; clear hm
  rintro e w2 ⟨rfl, hb2⟩
  have hz : w.heap.size + 3 ≤ w2.heap.size := by rw [s0]; exact hb2.size
  have B0 := b0.ext hb2
  have B1 := b1.ext hb2
  have B2 := b2.ext hb2
  have hbw := hb0.trans (hb2.mono (by omega))
  clear s0 b0 b1 b2 hb2 hb0
  obtain ⟨N, hN⟩ : ∃ N, N = w.heap.size := ⟨_, rfl⟩
  rw [← hN] at hz B0 B1 B2 hbw ⊢
  have HN := Lib.hid hN
  clear hN
  have c0 := B0.cell
  have c1 := B1.cell
  have c2 := B2.cell
  have f2 := B2.frozen
  have hz0 : N < w2.heap.size := by omega
  have hz1 : N + 1 < w2.heap.size := by omega
  have hz2 : N + 1 + 1 < w2.heap.size := by omega
  have R : Ready w w2 N ⟨5, wt, c⟩ ⟨5, cd, tm⟩ := ⟨HN.out, B0, B1, B2, hbw⟩
  clear B0 B1 B2 hbw
  have hf : True := trivial
  go_upto_block 0 with (fail)
  have R5 := (R.alloc (.cells #[.int .u8 7, .int .i64 0, .int .i64 c] 24)).alloc (.cells #[.int .u8 1, .int .i64 cd, .int .u8 0, .int .i64 0] 53)
  have B8 := (Blk.new w2 24 #[.int .u8 7, .int .i64 0, .int .i64 c]).alloc (.cells #[.int .u8 1, .int .i64 cd, .int .u8 0, .int .i64 0] 53)
  have B9 : Blk ((w2.alloc (.cells #[.int .u8 7, .int .i64 0, .int .i64 c] 24)).alloc (.cells #[.int .u8 1, .int .i64 cd, .int .u8 0, .int .i64 0] 53)) (w2.heap.size + 1) 53 #[.int .u8 1, .int .i64 cd, .int .u8 0, .int .i64 0] := blk_new (by simp) _ _ _ rfl
  clear R c0 c1 c2 f2 hz hz0 hz1
  generalize (w2.alloc (.cells #[.int .u8 7, .int .i64 0, .int .i64 c] 24)).alloc (.cells #[.int .u8 1, .int .i64 cd, .int .u8 0, .int .i64 0] 53) = w5 at *
  generalize w2.heap.size = P at *
  have c00 : w5.cell? ⟨N, 0, none⟩ = some (.int .u8 5) := R5.b0.cell 0
  have c01 : w5.cell? ⟨N, 1, none⟩ = some (.int .i64 wt) := R5.b0.cell 1
  have c02 : w5.cell? ⟨N, 2, none⟩ = some (.int .i64 c) := R5.b0.cell 2
  have c10 : w5.cell? ⟨N + 1, 0, none⟩ = some (.int .u8 5) := R5.b1.cell 0
  have c11 : w5.cell? ⟨N + 1, 1, none⟩ = some (.int .i64 cd) := R5.b1.cell 1
  have c12 : w5.cell? ⟨N + 1, 2, none⟩ = some (.int .u8 tm) := R5.b1.cell 2
  have c20 : w5.cell? ⟨N + 1 + 1, 0, none⟩ = some (.int .u8 0) := R5.b2.cell 0
  have c21 : w5.cell? ⟨N + 1 + 1, 1, none⟩ = some (.int .i64 0) := R5.b2.cell 1
  have c22 : w5.cell? ⟨N + 1 + 1, 2, none⟩ = some (.int .i64 0) := R5.b2.cell 2
  have f20 := R5.b2.frozen 0
  have f21 := R5.b2.frozen 1
  have f22 := R5.b2.frozen 2
  have c80 : w5.cell? ⟨P, 0, none⟩ = some (.int .u8 7) := B8.cell 0
  have c81 : w5.cell? ⟨P, 1, none⟩ = some (.int .i64 0) := B8.cell 1
  have c82 : w5.cell? ⟨P, 2, none⟩ = some (.int .i64 c) := B8.cell 2
  have c90 : w5.cell? ⟨P + 1, 0, none⟩ = some (.int .u8 1) := B9.cell 0
  have c91 : w5.cell? ⟨P + 1, 1, none⟩ = some (.int .i64 cd) := B9.cell 1
  have c92 : w5.cell? ⟨P + 1, 2, none⟩ = some (.int .u8 0) := B9.cell 2
  have c93 : w5.cell? ⟨P + 1, 3, none⟩ = some (.int .i64 0) := B9.cell 3
  have z0 := R5.b0.lt
  have z1 := R5.b1.lt
  have z2 := R5.b2.lt
  have z8 := B8.lt
  have z9 := B9.lt
  have y0 : ¬ (N = N + 1 + 1) := by omega
  have y1 : ¬ (N + 1 + 1 = N) := by omega
  have y2 : ¬ (P = N + 1 + 1) := by omega
  have y3 : ¬ (P + 1 = N + 1 + 1) := by omega
  have y4 : ¬ (N + 1 + 1 = P) := by omega
  have y5 : ¬ (N + 1 + 1 = P + 1) := by omega
  clear B8 B9
  by_cases ht : tm = 10
  · subst ht
    have HS := Lib.hid (stepS_over (cd := cd) hm'.out)
    go_wp2_with (go_at_call 29; refine (from_any _ _ _ _).mono ?_; rintro e w' ⟨rfl, rfl⟩)
    obtain ⟨hc, hp⟩ := Ready.outs R5 ⟨7, 0, c⟩ #[.int .u8 7, .int .i64 0, .int .u8 0, .int .i64 0] [⟨7, 0, 0, 0⟩] 1 rfl rfl (by omega) rfl 0 HS.out
    exact bodyPost_ret (v := .tuple #[(⟨7, 0, c⟩ : Mc).val, .slice (some ⟨w5.heap.size, 0, none⟩) 1 1]) (by simp [results, Tryd.results23, go_sem, hc]) rfl hp
  · have e : (tm == 10) = false := by simpa using ht
    have HS := Lib.hid (stepS_over0 (cd := cd) hm'.out ht)
    clear ht
    go_wp2_with (go_at_call 29; refine (from_any _ _ _ _).mono ?_; rintro e w' ⟨rfl, rfl⟩)
    obtain ⟨hc0, hp, _, _⟩ := R5.fin ⟨5, wt, c⟩
    have hc := hc0.cell
    exact bodyPost_ret (v := .tuple #[(⟨5, wt, c⟩ : Mc).val, .slice none 0 0]) (by simp [results, Tryd.results23, go_sem, hc]) rfl ⟨.slice none 0 0, by rw [HS.out], by rw [HS.out]; exact OwnL.nil _ _, hp⟩
end Go.Proofs.YtpbanfkjeiihbaaDoor
