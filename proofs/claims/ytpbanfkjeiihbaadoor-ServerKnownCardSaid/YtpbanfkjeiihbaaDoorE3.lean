/- Chapter 15: Step and the reference's Step. -/
import Derived.Test.YtpbanfkjeiihbaaDoorE2
set_option linter.unusedVariables false
set_option linter.unusedSimpArgs false
namespace Go.Proofs.YtpbanfkjeiihbaaDoor
open Go.RowKit

def rowsT : List Rw := [⟨2, 4, 100, 199, 0, 3, 1, 0⟩, ⟨3, 4, 100, 199, 0, 3, 1, 0⟩, ⟨2, 4, 200, 699, 0, 5, 1, 4⟩, ⟨3, 4, 200, 699, 0, 5, 1, 4⟩, ⟨3, 1, 0, 0, 0, 0, 1, 0⟩, ⟨5, 1, 0, 0, 0, 0, 1, 0⟩, ⟨3, 6, 0, 0, 0, 7, 6, 7⟩, ⟨5, 6, 0, 0, 0, 7, 6, 7⟩, ⟨5, 5, 0, 0, 10, 7, 7, 0⟩]
def Rw.enc (r : Rw) : List Value := [.int .u8 r.st, .int .u8 r.kind, .int .i64 r.least, .int .i64 r.most, .int .u8 r.timer, .int .u8 r.next, .int .u8 r.o0, .int .u8 r.o1]
/-- The table lies where it was laid. -/
def Gl (w : World) : Prop := 0 < w.heap.size ∧ ∀ k r, rowsT[k]? = some r → ∀ j u, r.enc[j]? = some u → w.cell? ⟨0, k * 8 + j, none⟩ = some u
theorem Gl.keep {w w' : World} {B : Nat} (h : Gl w) (hb : Below B w w') (hB : 0 < B) : Gl w' :=
  ⟨Nat.lt_of_lt_of_le h.1 hb.size, fun k r hk j u hu => (hb.cell (p := ⟨0, k * 8 + j, none⟩) hB).trans (h.2 k r hk j u hu)⟩
theorem Gl.drew {w : World} (h : Gl w) : Gl w.drew := h
def findS (m : Mc) (i : Tin) : List Rw → Mc × List Tout
  | [] => (m, [])
  | r :: l => if namesB r m.st i then applyS r m i else findS m i l
def stepS (m : Mc) (i : Tin) : Mc × List Tout := if mayB m then findS m i rowsT else (⟨0, 0, 0⟩, [])
set_option maxRecDepth 100000 in
set_option maxHeartbeats 4000000 in
theorem step_any (w : World) (m : Mc) (i : Tin) (hG : Gl w) : Calls Tryd.prog 22 #[m.val, i.val] w fun e w' =>
    ∃ v, e = .returned (.tuple #[(stepS m i).1.val, v]) ∧ OwnO w' w.heap.size v (stepS m i).2 ∧ Below w.heap.size w w' := by
  have hb0 : Below w.heap.size w (((w.alloc (.cells #[.int .u8 m.st, .int .i64 m.wait, .int .i64 m.code] 24)).alloc (.cells #[.int .u8 i.kind, .int .i64 i.code, .int .u8 i.timer] 28)).alloc (.cells #[.int .u8 0, .int .i64 0, .int .i64 0] 24)) :=
    (((Below.refl _ _).alloc (Nat.le_refl _) _).alloc (by simp) _).alloc (by simp; omega) _
  have b0 : Blk (((w.alloc (.cells #[.int .u8 m.st, .int .i64 m.wait, .int .i64 m.code] 24)).alloc (.cells #[.int .u8 i.kind, .int .i64 i.code, .int .u8 i.timer] 28)).alloc (.cells #[.int .u8 0, .int .i64 0, .int .i64 0] 24)) w.heap.size 24 #[.int .u8 m.st, .int .i64 m.wait, .int .i64 m.code] := ((Blk.new w _ _).alloc _).alloc _
  have b1 : Blk (((w.alloc (.cells #[.int .u8 m.st, .int .i64 m.wait, .int .i64 m.code] 24)).alloc (.cells #[.int .u8 i.kind, .int .i64 i.code, .int .u8 i.timer] 28)).alloc (.cells #[.int .u8 0, .int .i64 0, .int .i64 0] 24)) (w.heap.size + 1) 28 #[.int .u8 i.kind, .int .i64 i.code, .int .u8 i.timer] := (blk_new (by simp) _ _ _ rfl).alloc _
  have b2 : Blk (((w.alloc (.cells #[.int .u8 m.st, .int .i64 m.wait, .int .i64 m.code] 24)).alloc (.cells #[.int .u8 i.kind, .int .i64 i.code, .int .u8 i.timer] 28)).alloc (.cells #[.int .u8 0, .int .i64 0, .int .i64 0] 24)) (w.heap.size + 1 + 1) 24 #[.int .u8 0, .int .i64 0, .int .i64 0] := blk_new (by simp) _ _ _ rfl
  have s0 : w.heap.size + 3 = (((w.alloc (.cells #[.int .u8 m.st, .int .i64 m.wait, .int .i64 m.code] 24)).alloc (.cells #[.int .u8 i.kind, .int .i64 i.code, .int .u8 i.timer] 28)).alloc (.cells #[.int .u8 0, .int .i64 0, .int .i64 0] 24)).heap.size := by simp
  go_enter Tryd.func22, Tryd.ntmps22
  go_wp2_with fail
  generalize (((w.alloc (.cells #[.int .u8 m.st, .int .i64 m.wait, .int .i64 m.code] 24)).alloc (.cells #[.int .u8 i.kind, .int .i64 i.code, .int .u8 i.timer] 28)).alloc (.cells #[.int .u8 0, .int .i64 0, .int .i64 0] 24)) = w1 at *
  refine (may_any _ m).mono ?_
  rintro e w2 ⟨rfl, hb2⟩
  have hz : w.heap.size + 3 ≤ w2.heap.size := by rw [s0]; exact hb2.size
  have B0 := b0.ext hb2
  have B1 := b1.ext hb2
  have B2 := b2.ext hb2
  have hbw := hb0.trans (hb2.mono (by omega))
  clear s0 b0 b1 b2 hb2 hb0
  have hG2 := hG.keep hbw hG.1
  obtain ⟨N, hN⟩ : ∃ N, N = w.heap.size := ⟨_, rfl⟩
  rw [← hN] at hz B0 B1 B2 hbw ⊢
  have hN0 : 0 < N := by rw [hN]; exact hG.1
  have HN := Lib.hid hN
  clear hN hG
  have c0 := B0.cell
  have c1 := B1.cell
  have c2 := B2.cell
  have f2 := B2.frozen
  cases hm : mayB m
  · have HE : Hid (stepS m i = (⟨0, 0, 0⟩, [])) := by show _ = _; simp [stepS, hm]
    clear hm
    go_wp2
    have c9 := (((B2.set_ 0 (.int .u8 0)).set_ 1 (.int .i64 0)).set_ 2 (.int .i64 0)).cell
    refine bodyPost_ret (v := .tuple #[.agg #[.int .u8 0, .int .i64 0, .int .i64 0], .slice none 0 0]) (by simp [results, Tryd.results22, go_sem, c9]) rfl ⟨.slice none 0 0, ?_, ?_, ?_⟩
    · rw [HE.out]
    · rw [HE.out]; exact OwnL.nil _ _
    · rw [← HN.out]; exact ((hbw.setCell (by simp; omega) _).setCell (by simp; omega) _).setCell (by simp; omega) _
  · have HE : Hid (stepS m i = findS m i (rowsT.drop 0)) := by show _ = _; simp [stepS, hm]
    clear hm
    go_wp2
    clear c0 c1 c2 f2
    go_loopw [12] (fun j wr => ∃ k : Nat, k ≤ 9 ∧ j = .int .i64 k ∧ Blk wr N 24 #[.int .u8 m.st, .int .i64 m.wait, .int .i64 m.code] ∧ Blk wr (N + 1) 28 #[.int .u8 i.kind, .int .i64 i.code, .int .u8 i.timer] ∧ Blk wr (N + 1 + 1) 24 #[.int .u8 0, .int .i64 0, .int .i64 0] ∧ Gl wr ∧ N + 3 ≤ wr.heap.size ∧ Below N w wr ∧ Hid (stepS m i = findS m i (rowsT.drop k))) (fun j _ => 9 - (intOf j).toNat)
    case atStart => exact ⟨0, by omega, rfl, B0, B1, B2, hG2, hz, hbw, HE⟩
    case round =>
      clear B0 B1 B2 hG2 hz hbw HE
      obtain ⟨k, hk, rfl, B0, B1, B2, hG, hz, hbw, HE⟩ := hrel
      have c0 := B0.cell
      have c1 := B1.cell
      have c2 := B2.cell
      have f2 := B2.frozen
      by_cases hlt : k < 9
      · obtain ⟨r, hr⟩ := get_lt (show k < rowsT.length from hlt)
        have hg := hG.2 k r hr
        have g0 : wr.cell? ⟨0, k * 8, none⟩ = some (.int .u8 r.st) := hg 0 _ rfl
        have g1 := hg 1 _ rfl
        have g2 := hg 2 _ rfl
        have g3 := hg 3 _ rfl
        have g4 := hg 4 _ rfl
        have g5 := hg 5 _ rfl
        have g6 := hg 6 _ rfl
        have g7 := hg 7 _ rfl
        have HR := Lib.hid hr
        have hz0 : N < wr.heap.size := by omega
        have hz1 : N + 1 < wr.heap.size := by omega
        have hz2 : N + 1 + 1 < wr.heap.size := by omega
        clear hg hr
        go_wp2_with fail
        clear g0 g1 g2 g3 g4 g5 g6 g7
        have hb7 : Below N wr (wr.alloc (.cells #[.int .u8 r.st, .int .u8 r.kind, .int .i64 r.least, .int .i64 r.most, .int .u8 r.timer, .int .u8 r.next, .int .u8 r.o0, .int .u8 r.o1] 66)) := (Below.refl _ _).alloc (by omega) _
        have B7 : Blk (wr.alloc (.cells #[.int .u8 r.st, .int .u8 r.kind, .int .i64 r.least, .int .i64 r.most, .int .u8 r.timer, .int .u8 r.next, .int .u8 r.o0, .int .u8 r.o1] 66)) wr.heap.size 66 #[.int .u8 r.st, .int .u8 r.kind, .int .i64 r.least, .int .i64 r.most, .int .u8 r.timer, .int .u8 r.next, .int .u8 r.o0, .int .u8 r.o1] := Blk.new _ _ _
        replace B0 := B0.alloc (.cells #[.int .u8 r.st, .int .u8 r.kind, .int .i64 r.least, .int .i64 r.most, .int .u8 r.timer, .int .u8 r.next, .int .u8 r.o0, .int .u8 r.o1] 66)
        replace B1 := B1.alloc (.cells #[.int .u8 r.st, .int .u8 r.kind, .int .i64 r.least, .int .i64 r.most, .int .u8 r.timer, .int .u8 r.next, .int .u8 r.o0, .int .u8 r.o1] 66)
        replace B2 := B2.alloc (.cells #[.int .u8 r.st, .int .u8 r.kind, .int .i64 r.least, .int .i64 r.most, .int .u8 r.timer, .int .u8 r.next, .int .u8 r.o0, .int .u8 r.o1] 66)
        clear c0 c1 c2 f2
        refine (names_any _ r m.st i).mono ?_
        rintro e w3 ⟨rfl, hb3⟩
        replace B0 := B0.ext hb3
        replace B1 := B1.ext hb3
        replace B2 := B2.ext hb3
        replace B7 := B7.ext hb3
        have hb33 := hb7.trans (hb3.mono (by simp; omega))
        have hG3 := hG.keep hb33 hN0
        have hz3 : N + 3 ≤ w3.heap.size := Nat.le_trans hz hb33.size
        have hbw3 := hbw.trans hb33
        have hzz : wr.heap.size < w3.heap.size := B7.lt
        clear hb7 hb3 hb33 hG hbw
        have c0 := B0.cell
        have c1 := B1.cell
        have c2 := B2.cell
        have c7 := B7.cell
        have HD : Hid (rowsT.drop k = r :: rowsT.drop (k + 1)) := drop_get HR.out
        cases hn : namesB r m.st i
        · have HE' : Hid (stepS m i = findS m i (rowsT.drop (k + 1))) := by show _ = _; rw [HE.out, HD.out, findS, hn]; rfl
          clear hn
          go_wp2
          go_roundw
          case rel => exact ⟨k + 1, by omega, by go_num, B0, B1, B2, hG3, hz3, hbw3, HE'⟩
          case measure => simp [intOf]; omega
        · have HE' : Hid (stepS m i = applyS r m i) := by show _ = _; rw [HE.out, HD.out, findS, hn]; rfl
          clear hn
          go_wp2_with fail
          refine (apply_any _ r m i).mono ?_
          rintro e w4 ⟨v, rfl, hown, hb4⟩
          replace B2 := B2.ext hb4
          have hz4 := hb4.size
          have hbw4 := hbw3.trans (hb4.mono (by omega))
          have c2 := B2.cell
          have f2 := B2.frozen
          clear c0 c1 c7 hb4
          obtain ⟨m', hm'⟩ : ∃ m', m' = (applyS r m i).1 := ⟨_, rfl⟩
          rw [← hm']
          have HM := Lib.hid hm'; clear hm'
          go_wp2
          have c9 := (((B2.set_ 0 (.int .u8 m'.st)).set_ 1 (.int .i64 m'.wait)).set_ 2 (.int .i64 m'.code)).cell
          refine bodyPost_ret (v := .tuple #[m'.val, v]) (by simp [results, Tryd.results22, go_sem, c9]) rfl ⟨v, ?_, ?_, ?_⟩
          · rw [HE'.out, HM.out]
          · rw [HE'.out]
            have h1 : N + 1 + 1 < w3.heap.size := by omega
            exact (((hown.setFar h1 0 _).setFar h1 1 _).setFar h1 2 _).base_le (by rw [← HN.out]; omega)
          · rw [← HN.out]; exact ((hbw4.setCell (by simp; omega) _).setCell (by simp; omega) _).setCell (by simp; omega) _
      · go_wp2
        have c9 := (((B2.set_ 0 (.int .u8 m.st)).set_ 1 (.int .i64 m.wait)).set_ 2 (.int .i64 m.code)).cell
        have HE' : stepS m i = (m, []) := by rw [HE.out, List.drop_eq_nil_of_le (by show rowsT.length ≤ k; have : rowsT.length = 9 := rfl; omega)]; rfl
        refine bodyPost_ret (v := .tuple #[m.val, .slice none 0 0]) (by simp [results, Tryd.results22, go_sem, c9]) rfl ⟨.slice none 0 0, ?_, ?_, ?_⟩
        · rw [HE']
        · rw [HE']; exact OwnL.nil _ _
        · rw [← HN.out]; exact ((hbw.setCell (by simp; omega) _).setCell (by simp; omega) _).setCell (by simp; omega) _
end Go.Proofs.YtpbanfkjeiihbaaDoor
