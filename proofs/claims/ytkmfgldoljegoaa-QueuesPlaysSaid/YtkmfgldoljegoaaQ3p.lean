import Derived.Test.YtkmfgldoljegoaaQ2p
import Derived.Test.YtkmfgldoljegoaaZ6p
set_option linter.unusedVariables false
set_option linter.unusedSimpArgs false
set_option maxRecDepth 100000
set_option maxHeartbeats 4000000
namespace Go.Proofs.Ytkmfgldoljegoaa
open Go.RowKit
theorem step_j {cs : List Ca} {ss : List Se} {mo mw ri re now w n p T : Int} (hw : 0 ≤ w ∧ w ≤ 255) (hc : cs.length ≤ 120) (hl : ss.length ≤ 120) (hb : May cs ss mo mw ri re now → now ≤ T → T ≤ 1099511627776 → T - now ≤ 4000000000) :
    ∃ r c0, dialtonelaw36_step ((cs, (ss, (mo, (mw, (ri, (re, now)))))), (w, (n, (p, T)))) = some (r.1, (decide (r.2.2 = 0), true)) ∧ Good mo mw ri re T c0 r := by
  have hf := full_j cs ss mo mw ri re now (by omega) (by omega)
  rw [List.take_of_length_le (show cs.length ≤ 120 from hc), List.take_of_length_le (show ss.length ≤ 120 from hl)] at hf
  have ht : Int.tmod w 8 = w % 8 := Int.tmod_eq_emod_of_nonneg hw.1
  have hs0 := same_j (cs, (ss, (mo, (mw, (ri, (re, now)))))) (by show cs.length ≤ 1000; omega) (by show ss.length ≤ 1000; omega)
  unfold dialtonelaw36_step
  have h8 : w % 8 = 0 ∨ w % 8 = 1 ∨ w % 8 = 2 ∨ w % 8 = 3 ∨ w % 8 = 4 ∨ w % 8 = 5 ∨ w % 8 = 6 ∨ w % 8 = 7 := by omega
  rcases h8 with h | h | h | h | h | h | h | h
  · obtain ⟨r, e, e', g⟩ := join_c (mo := mo) (mw := mw) (ri := ri) (re := re) (now := now) (T := T) hc hl hb n p
    refine ⟨r, _, ?_, g⟩
    obtain ⟨g1, g2, g3⟩ := g.len
    have hs1 := same_j r.1 g1 g2
    have hs2 := acts_j r.2.1 g3
    obtain ⟨⟨y1, y2, y3, y4, y5, y6, y7⟩, l, c⟩ := r
    simp (disch := (first | omega | (simp only [LNl]; omega))) only [↓SDl, SDr, hf, ht, h, decide_true, decide_false, e, e', hs1, hs2, hs0]
  · obtain ⟨r, e, e', g⟩ := leave_c (mo := mo) (mw := mw) (ri := ri) (re := re) (now := now) (T := T) hc hl hb n
    refine ⟨r, _, ?_, g⟩
    obtain ⟨g1, g2, g3⟩ := g.len
    have hs1 := same_j r.1 g1 g2
    have hs2 := acts_j r.2.1 g3
    obtain ⟨⟨y1, y2, y3, y4, y5, y6, y7⟩, l, c⟩ := r
    simp (disch := (first | omega | (simp only [LNl]; omega))) only [↓SDl, SDr, hf, ht, h, decide_true, decide_false, e, e', hs1, hs2, hs0]
  · obtain ⟨r, e, e', g⟩ := login_c (mo := mo) (mw := mw) (ri := ri) (re := re) (now := now) (T := T) hc hl hb n
    refine ⟨r, _, ?_, g⟩
    obtain ⟨g1, g2, g3⟩ := g.len
    have hs1 := same_j r.1 g1 g2
    have hs2 := acts_j r.2.1 g3
    obtain ⟨⟨y1, y2, y3, y4, y5, y6, y7⟩, l, c⟩ := r
    simp (disch := (first | omega | (simp only [LNl]; omega))) only [↓SDl, SDr, hf, ht, h, decide_true, decide_false, e, e', hs1, hs2, hs0]
  · obtain ⟨r, e, e', g⟩ := logout_c (mo := mo) (mw := mw) (ri := ri) (re := re) (now := now) (T := T) hc hl hb n
    refine ⟨r, _, ?_, g⟩
    obtain ⟨g1, g2, g3⟩ := g.len
    have hs1 := same_j r.1 g1 g2
    have hs2 := acts_j r.2.1 g3
    obtain ⟨⟨y1, y2, y3, y4, y5, y6, y7⟩, l, c⟩ := r
    simp (disch := (first | omega | (simp only [LNl]; omega))) only [↓SDl, SDr, hf, ht, h, decide_true, decide_false, e, e', hs1, hs2, hs0]
  · obtain ⟨r, e, e', g⟩ := accept_c (mo := mo) (mw := mw) (ri := ri) (re := re) (now := now) (T := T) hc hl hb n
    refine ⟨r, _, ?_, g⟩
    obtain ⟨g1, g2, g3⟩ := g.len
    have hs1 := same_j r.1 g1 g2
    have hs2 := acts_j r.2.1 g3
    obtain ⟨⟨y1, y2, y3, y4, y5, y6, y7⟩, l, c⟩ := r
    simp (disch := (first | omega | (simp only [LNl]; omega))) only [↓SDl, SDr, hf, ht, h, decide_true, decide_false, e, e', hs1, hs2, hs0]
  · obtain ⟨r, e, e', g⟩ := refuse_c (mo := mo) (mw := mw) (ri := ri) (re := re) (now := now) (T := T) hc hl hb n
    refine ⟨r, _, ?_, g⟩
    obtain ⟨g1, g2, g3⟩ := g.len
    have hs1 := same_j r.1 g1 g2
    have hs2 := acts_j r.2.1 g3
    obtain ⟨⟨y1, y2, y3, y4, y5, y6, y7⟩, l, c⟩ := r
    simp (disch := (first | omega | (simp only [LNl]; omega))) only [↓SDl, SDr, hf, ht, h, decide_true, decide_false, e, e', hs1, hs2, hs0]
  · obtain ⟨r, e, e', g⟩ := done_c (mo := mo) (mw := mw) (ri := ri) (re := re) (now := now) (T := T) hc hl hb n
    refine ⟨r, _, ?_, g⟩
    obtain ⟨g1, g2, g3⟩ := g.len
    have hs1 := same_j r.1 g1 g2
    have hs2 := acts_j r.2.1 g3
    obtain ⟨⟨y1, y2, y3, y4, y5, y6, y7⟩, l, c⟩ := r
    simp (disch := (first | omega | (simp only [LNl]; omega))) only [↓SDl, SDr, hf, ht, h, decide_true, decide_false, e, e', hs1, hs2, hs0]
  · obtain ⟨r, e, e', g⟩ := advance_c (mo := mo) (mw := mw) (ri := ri) (re := re) (now := now) (T := T) hc hl hb 
    refine ⟨r, _, ?_, g⟩
    obtain ⟨g1, g2, g3⟩ := g.len
    have hs1 := same_j r.1 g1 g2
    have hs2 := acts_j r.2.1 g3
    obtain ⟨⟨y1, y2, y3, y4, y5, y6, y7⟩, l, c⟩ := r
    simp (disch := (first | omega | (simp only [LNl]; omega))) only [↓SDl, SDr, hf, ht, h, decide_true, decide_false, e, e', hs1, hs2, hs0]
end Go.Proofs.Ytkmfgldoljegoaa
