import Derived.Test.YtkmfgldoljegoaaQ2p
import Derived.Test.YtkmfgldoljegoaaZ6p
set_option linter.unusedVariables false
set_option linter.unusedSimpArgs false
set_option maxRecDepth 100000
set_option maxHeartbeats 4000000
namespace Go.Proofs.Ytkmfgldoljegoaa
open Go.RowKit
theorem step_j {cs : List Ca} {ss : List Se} {mo mw ri re now w n p T : Int} (hw : 0 ≤ w ∧ w ≤ 255) (hc : cs.length ≤ 120) (hl : ss.length ≤ 120) (hb : May cs ss mo mw ri re now → now ≤ T → T ≤ 1099511627776 → T - now ≤ 4000000000) :
    ∃ r c0, dialtonelaw36_step ((cs, (ss, (mo, (mw, (ri, (re, now)))))), (w, (n, (p, T)))) = some (r.1, (decide (r.2.2 = 0), true)) ∧ Good mo mw ri re T c0 r := by
  have hf := full_j cs ss mo mw ri re now (by omega) (by omega)
  rw [List.take_of_length_le (show cs.length ≤ 120 from hc), List.take_of_length_le (show ss.length ≤ 120 from hl)] at hf
  have ht : Int.tmod w 8 = w % 8 := Int.tmod_eq_emod_of_nonneg hw.1
  have hs0 := same_j (cs, (ss, (mo, (mw, (ri, (re, now)))))) (by show cs.length ≤ 1000; omega) (by show ss.length ≤ 1000; omega)
  unfold dialtonelaw36_step
  have h8 : w % 8 = 0 ∨ w % 8 = 1 ∨ w % 8 = 2 ∨ w % 8 = 3 ∨ w % 8 = 4 ∨ w % 8 = 5 ∨ w % 8 = 6 ∨ w % 8 = 7 := by omega
  rcases h8 with h | h | h | h | h | h | h | h
  · obtain ⟨r, e, e', g⟩ := join_c (mo := mo) (mw := mw) (ri := ri) (re := re) (now := now) (T := T) hc hl hb n p
    refine ⟨r, _, ?_, g⟩
    obtain ⟨g1, g2, g3⟩ := g.len
    have hs1 := same_j r.1 g1 g2
    have hs2 := acts_j r.2.1 g3
    obtain ⟨⟨y1, y2, y3, y4, y5, y6, y7⟩, l, c⟩ := r
    simp (disch := (first | omega | (simp only [LNl]; omega))) only [↓SDl, SDr, hf, ht, h, decide_true, decide_false, e, e', hs1, hs2, hs0]
  · obtain ⟨r, e, e', g⟩ := leave_c (mo := mo) (mw := mw) (ri := ri) (re := re) (now := now) (T := T) hc hl hb n
    refine ⟨r, _, ?_, g⟩
    obtain ⟨g1, g2, g3⟩ := g.len
    have hs1 := same_j r.1 g1 g2
    have hs2 := acts_j r.2.1 g3
    obtain ⟨⟨y1, y2, y3, y4, y5, y6, y7⟩, l, c⟩ := r
    simp (disch := (first | omega | (simp only [LNl]; omega))) only [↓SDl, SDr, hf, ht, h, decide_true, decide_false, e, e', hs1, hs2, hs0]
  · obtain ⟨r, e, e', g⟩ := login_c (mo := mo) (mw := mw) (ri := ri) (re := re) (now := now) (T := T) hc hl hb n
    refine ⟨r, _, ?_, g⟩
    obtain ⟨g1, g2, g3⟩ := g.len
    have hs1 := same_j r.1 g1 g2
    have hs2 := acts_j r.2.1 g3
    obtain ⟨⟨y1, y2, y3, y4, y5, y6, y7⟩, l, c⟩ := r
    simp (disch := (first | omega | (simp only [LNl]; omega))) only [↓SDl, SDr, hf, ht, h, decide_true, decide_false, e, e', hs1, hs2, hs0]
  · obtain ⟨r, e, e', g⟩ := logout_c (mo := mo) (mw := mw) (ri := ri) (re := re) (now := now) (T := T) hc hl hb n
    refine ⟨r, _, ?_, g⟩
    obtain ⟨g1, g2, g3⟩ := g.len
    have hs1 := same_j r.1 g1 g2
    have hs2 := acts_j r.2.1 g3
    obtain ⟨⟨y1, y2, y3, y4, y5, y6, y7⟩, l, c⟩ := r
    simp (disch := (first | omega | (simp only [LNl]; omega))) only [↓SDl, SDr, hf, ht, h, decide_true, decide_false, e, e', hs1, hs2, hs0]
  · obtain ⟨r, e, e', g⟩ := accept_c (mo := mo) (mw := mw) (ri := ri) (re := re) (now := now) (T := T) hc hl hb n
    refine ⟨r, _, ?_, g⟩
    obtain ⟨g1, g2, g3⟩ := g.len
    have hs1 := same_j r.1 g1 g2
    have hs2 := acts_j r.2.1 g3
    obtain ⟨⟨y1, y2, y3, y4, y5, y6, y7⟩, l, c⟩ := r
    simp (disch := (first | omega | (simp only [LNl]; omega))) only [↓SDl, SDr, hf, ht, h, decide_true, decide_false, e, e', hs1, hs2, hs0]
  · obtain ⟨r, e, e', g⟩ := refuse_c (mo := mo) (mw := mw) (ri := ri) (re := re) (now := now) (T := T) hc hl hb n
    refine ⟨r, _, ?_, g⟩
    obtain ⟨g1, g2, g3⟩ := g.len
    have hs1 := same_j r.1 g1 g2
    have hs2 := acts_j r.2.1 g3
    obtain ⟨⟨y1, y2, y3, y4, y5, y6, y7⟩, l, c⟩ := r
    simp (disch := (first | omega | (simp only [LNl]; omega))) only [↓SDl, SDr, hf, ht, h, decide_true, decide_false, e, e', hs1, hs2, hs0]
  · obtain ⟨r, e, e', g⟩ := done_c (mo := mo) (mw := mw) (ri := ri) (re := re) (now := now) (T := T) hc hl hb n
    refine ⟨r, _, ?_, g⟩
    obtain ⟨g1, g2, g3⟩ := g.len
    have hs1 := same_j r.1 g1 g2
    have hs2 := acts_j r.2.1 g3
    obtain ⟨⟨y1, y2, y3, y4, y5, y6, y7⟩, l, c⟩ := r
    simp (disch := (first | omega | (simp only [LNl]; omega))) only [↓SDl, SDr, hf, ht, h, decide_true, decide_false, e, e', hs1, hs2, hs0]
  · obtain ⟨r, e, e', g⟩ := advance_c (mo := mo) (mw := mw) (ri := ri) (re := re) (now := now) (T := T) hc hl hb 
    refine ⟨r, _, ?_, g⟩
    obtain ⟨g1, g2, g3⟩ := g.len
    have hs1 := same_j r.1 g1 g2
    have hs2 := acts_j r.2.1 g3
    obtain ⟨⟨y1, y2, y3, y4, y5, y6, y7⟩, l, c⟩ := r
    simp (disch := (first | omega | (simp only [LNl]; omega))) only [↓SDl, SDr, hf, ht, h, decide_true, decide_false, e, e', hs1, hs2, hs0]
noncomputable def rawB (x13 : List Ca) (x14 : List Se) (x15 x16 x17 x18 x19 : Int) : (Int × (Int × (Int × (Int × Int)))) → Option ((Int × (Int × (Int × (Int × Int)))) ⊕ ((Int × (Int × (Int × Int))) ⊕ Bool)) :=
(fun (v48, (v49, (v50, (v51, v52)))) =>
 bif (decide (v48 < (8 : Int))) then
 bindO (dialtonelaw36_step ((x13, (x14, (x15, (x16, (x17, (x18, x19)))))), ((Go.IntKind.wrap .u8 v48), (v50, (v51, v52))))) fun ((x55, (x56, (x57, (x58, (x59, (x60, x61)))))), (x62, x63)) =>
 bif (!x63) then
 outO (outO (some Bool.false))
 else
 some (Sum.inl ((Go.IntKind.wrap .i64 (v48 + (1 : Int))), ((Go.IntKind.wrap .u8 v48), (v50, (v51, v52)))))
 else
 outO (some (Sum.inl (v49, (v50, (v51, v52))))))
theorem raw_eq (a1 : List Ca) (a2 : List Se) (a3 a4 a5 a6 a7 a8 a9 a10 a11 : Int) : dialtonelaw36_QueuesRaw ((a1, (a2, (a3, (a4, (a5, (a6, a7)))))), (a8, (a9, (a10, a11)))) =

  bindO (dialtonelaw36_full (a1, (a2, (a3, (a4, (a5, (a6, a7))))))) fun (x13, (x14, (x15, (x16, (x17, (x18, x19)))))) =>
  bindO (dialtonelaw36_soon ((x13, (x14, (x15, (x16, (x17, (x18, x19)))))), a11)) fun x20 =>
  bindO (queues_Next (x13, (x14, (x15, (x16, (x17, (x18, x19))))))) fun (x22, x23) =>
  bindO (dialtoneref36_Next (x13, (x14, (x15, (x16, (x17, (x18, x19))))))) fun (x25, x26) =>
  bindO (queues_NewQueue (x15, (x16, (x17, x18)))) fun ((x28, (x29, (x30, (x31, (x32, (x33, x34)))))), x35) =>
  bindO (dialtoneref36_NewQueue (x15, (x16, (x17, x18)))) fun ((x37, (x38, (x39, (x40, (x41, (x42, x43)))))), x44) =>
  joinO (bindO (queues_MayQueue (x13, (x14, (x15, (x16, (x17, (x18, x19))))))) fun x45 =>
   bindO (dialtoneref36_MayQueue (x13, (x14, (x15, (x16, (x17, (x18, x19))))))) fun x46 =>
   bif (x45 != x46) then
    outO (some Bool.false)
   else
    bif (decide (x22 ≠ x25)) then
     outO (some Bool.false)
    else
     bif (x23 != x26) then
      outO (some Bool.false)
     else
      bif (decide (x35 ≠ x44)) then
       outO (some Bool.false)
      else
       bindO (dialtoneref36_SameQueue ((x28, (x29, (x30, (x31, (x32, (x33, x34)))))), (x37, (x38, (x39, (x40, (x41, (x42, x43)))))))) fun x47 =>
       bif (!x47) then
        outO (some Bool.false)
       else
        some (Sum.inl ())) fun _ =>
  joinO (loopO (rawB x13 x14 x15 x16 x17 x18 x19) ((0 : Int), (a8, (a9, (a10, x20))))) fun (v65, (v66, (v67, v68))) =>
  some Bool.true := by kernel_rfl
theorem raw_j (a : ((List Ca × (List Se × (Int × (Int × (Int × (Int × Int)))))) × (Int × (Int × (Int × Int))))) (h1 : a.1.1.length ≤ 9223372036854775807) (h2 : a.1.2.1.length ≤ 9223372036854775807) (hw : 0 ≤ a.2.1 ∧ a.2.1 ≤ 255) : dialtonelaw36_QueuesRaw a = some true := by
  obtain ⟨⟨a1, a2, a3, a4, a5, a6, a7⟩, a8, a9, a10, a11⟩ := a
  simp only at h1 h2 hw
  have hf := full_j a1 a2 a3 a4 a5 a6 a7 h1 h2
  have hc : (a1.take 120).length ≤ 120 := by rw [List.length_take]; omega
  have hl : (a2.take 120).length ≤ 120 := by rw [List.length_take]; omega
  generalize a1.take 120 = cs at hf hc
  generalize a2.take 120 = ss at hf hl
  obtain ⟨t, hs, hb⟩ := soon_j cs ss a3 a4 a5 a6 a7 a11
  obtain ⟨⟨n1, n2⟩, e1, e2⟩ := next_j (a1 := cs) (a2 := ss) (a3 := a3) (a4 := a4) (a5 := a5) (a6 := a6) (a7 := a7) (by omega) (by omega)
  have hm := may_j (cs := cs) (ss := ss) (mo := a3) (mw := a4) (ri := a5) (re := a6) (now := a7) (by omega) (by omega)
  obtain ⟨b, e3⟩ := hm.some
  have e4 : dialtoneref36_MayQueue (cs, (ss, (a3, (a4, (a5, (a6, a7)))))) = some b := by
    rw [← hm.eq (dmay_j (cs := cs) (ss := ss) (mo := a3) (mw := a4) (ri := a5) (re := a6) (now := a7) (by omega) (by omega))]; exact e3
  have hloop : ∀ (body : (Int × (Int × (Int × (Int × Int)))) → Option ((Int × (Int × (Int × (Int × Int)))) ⊕ ((Int × (Int × (Int × Int))) ⊕ Bool))),
      (∀ (k : Nat) (x : Int), k < 8 → body ((k : Int), (x, (a9, (a10, t)))) = some (.inl (((k + 1 : Nat) : Int), ((k : Int), (a9, (a10, t)))))) →
      (∀ x : Int, body ((8 : Int), (x, (a9, (a10, t)))) = some (.inr (.inl (x, (a9, (a10, t)))))) → ∃ y, loopO body ((0 : Int), (a8, (a9, (a10, t)))) = some (.inl y) := by
    intro body b1 b2
    refine ⟨_, loopO_from (fun k => ((k : Int), ((if k = 0 then a8 else ((k - 1 : Nat) : Int)), (a9, (a10, t))))) 8 rfl (fun k hk => ?_) (b2 _)⟩
    show body _ = _
    rw [b1 k _ hk]
    rfl
  rw [raw_eq]
  obtain ⟨⟨z1, z2, z3, z4⟩, hy⟩ := hloop (rawB cs ss a3 a4 a5 a6 a7) (fun k x hk => by
    obtain ⟨r, c0, es, g⟩ := step_j (cs := cs) (ss := ss) (mo := a3) (mw := a4) (ri := a5) (re := a6) (now := a7) (w := (k : Int)) (n := a9) (p := a10) (T := t) (by omega) hc hl hb
    obtain ⟨⟨y1, y2, y3, y4, y5, y6, y7⟩, l, c⟩ := r
    have hw8 : IntKind.wrap .u8 (k : Int) = (k : Int) := by rw [wr_u8]; omega
    unfold rawB
    simp (disch := (first | omega | (simp only [LNl]; omega))) only [↓SDl, SDr, hw8, es, wrap_i64']
    rfl) (fun x => by
    unfold rawB
    simp (disch := (first | omega | (simp only [LNl]; omega))) only [↓SDl, SDr])
  rcases newq_j a3 a4 a5 a6 with ⟨_, n1', n2'⟩ | ⟨_, n1', n2'⟩
  · have hs1 := same_j ([], ([], (a3, (a4, (a5, (a6, 0)))))) (Nat.zero_le _) (Nat.zero_le _)
    simp (disch := (first | omega | (simp only [LNl]; omega))) only [↓SDl, SDr, hf, hs, e1, e2, e3, e4, n1', n2', bne_self_eq_false, ne_eq, not_true_eq_false, decide_false, hs1, hy]
  · have hs1 := same_j ([], ([], (0, (0, (0, (0, 0)))))) (Nat.zero_le _) (Nat.zero_le _)
    simp (disch := (first | omega | (simp only [LNl]; omega))) only [↓SDl, SDr, hf, hs, e1, e2, e3, e4, n1', n2', bne_self_eq_false, ne_eq, not_true_eq_false, decide_false, hs1, hy]
end Go.Proofs.Ytkmfgldoljegoaa
