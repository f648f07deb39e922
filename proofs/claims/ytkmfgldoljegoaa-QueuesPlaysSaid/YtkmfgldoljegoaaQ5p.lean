import Derived.Test.YtkmfgldoljegoaaQ3p
set_option linter.unusedVariables false
set_option linter.unusedSimpArgs false
set_option maxRecDepth 100000
set_option maxHeartbeats 4000000
namespace Go.Proofs.Ytkmfgldoljegoaa
open Go.RowKit
abbrev dK : Int × (Int × (Int × Int)) := (0, (0, (0, 0)))
noncomputable def playsB (a4 : Int) (a5 : List (Int × (Int × (Int × Int)))) (x11 : Int) : (Int × Qt) → Option ((Int × Qt) ⊕ (Qt ⊕ Bool)) :=
(fun (v23, (v24, (v25, (v26, (v27, (v28, (v29, v30))))))) =>
 bif (decide (v23 < (((List.length a5) : Nat) : Int))) then
 bif (decide (v23 < (60 : Int))) then
 bif (decide (((0 : Int) ≤ v23) ∧ (v23 < (((List.length a5) : Nat) : Int)))) then 
 bindO a5[(Int.toNat v23)]? fun x31 =>
 bindO (some (Go.IntKind.wrap .i64 ((20 : Int) * (Go.IntKind.wrap .i64 (x11 + (Go.IntKind.wrap .i64 a4)))))) fun x34 =>
 bif (decide ((Go.IntKind.wrap .u64 x34) ≠ (0 : Int))) then 
 bindO (dialtonelaw36_step ((v24, (v25, (v26, (v27, (v28, (v29, v30)))))), (x31.1, (x31.2.1, (x31.2.2.1, (Go.IntKind.wrap .i64 (v30 + (Go.IntKind.wrap .i64 (Int.tmod (Go.IntKind.wrap .u64 x31.2.2.2) (Go.IntKind.wrap .u64 x34)))))))))) fun ((x40, (x41, (x42, (x43, (x44, (x45, x46)))))), (x47, x48)) =>
 bif (!x48) then
 outO (outO (some Bool.false))
 else
 joinO (bif x47 then
 some (Sum.inl (x40, (x41, (x42, (x43, (x44, (x45, x46)))))))
 else
 some (Sum.inl (v24, (v25, (v26, (v27, (v28, (v29, v30)))))))) fun (v49, (v50, (v51, (v52, (v53, (v54, v55)))))) =>
 bindO (queues_MayQueue (v49, (v50, (v51, (v52, (v53, (v54, v55))))))) fun x56 =>
 bif (!x56) then
 outO (outO (some Bool.false))
 else
 some (Sum.inl ((Go.IntKind.wrap .i64 (v23 + (1 : Int))), (v49, (v50, (v51, (v52, (v53, (v54, v55))))))))
 else none
 else none
 else
 outO (some (Sum.inl (v24, (v25, (v26, (v27, (v28, (v29, v30))))))))
 else
 outO (some (Sum.inl (v24, (v25, (v26, (v27, (v28, (v29, v30)))))))))
theorem plays_eq (a1 a2 a3 a4 : Int) (a5 : List (Int × (Int × (Int × Int)))) : dialtonelaw36_QueuesPlays ((a1, (a2, (a3, a4))), a5) =

  bindO (some (Go.IntKind.wrap .i64 ((1 : Int) + (Go.IntKind.wrap .i64 (Int.tmod a1 (20 : Int)))))) fun x8 =>
  bindO (some (Go.IntKind.wrap .i64 ((1 : Int) + (Go.IntKind.wrap .i64 a3)))) fun x11 =>
  bindO (queues_NewQueue (x8, ((Go.IntKind.wrap .i64 a2), (x11, (Go.IntKind.wrap .i64 a4))))) fun ((x14, (x15, (x16, (x17, (x18, (x19, x20)))))), x21) =>
  bif (decide (x21 ≠ (0 : Int))) then
   some Bool.false
  else
   bindO (dialtoneref36_SameQueue ((x14, (x15, (x16, (x17, (x18, (x19, x20)))))), (([] : List Ca), (([] : List Se), (x8, ((Go.IntKind.wrap .i64 a2), (x11, ((Go.IntKind.wrap .i64 a4), (0 : Int))))))))) fun x22 =>
   bif (!x22) then
    some Bool.false
   else
    joinO (loopO (playsB a4 a5 x11) ((0 : Int), (x14, (x15, (x16, (x17, (x18, (x19, x20)))))))) fun (v58, (v59, (v60, (v61, (v62, (v63, v64)))))) =>
    some Bool.true := by kernel_rfl
theorem playsB_j (mo mw ri re : Int) (l : List (Int × (Int × (Int × Int)))) (hs : Sizes mo mw ri re) (hri : ri ≤ 65536) (hre : re ≤ 65535) (hl : l.length ≤ 9223372036854775807) (hw : ∀ x ∈ l, 0 ≤ x.1 ∧ x.1 ≤ 255) :
    ∃ q, loopO (playsB re l ri) (0, ([], ([], (mo, (mw, (ri, (re, 0))))))) = some (.inl q) := by
  suffices hk : ∃ r, loopO (playsB re l ri) (0, ([], ([], (mo, (mw, (ri, (re, 0))))))) = some r ∧ ∃ q, r = Sum.inl q by
    obtain ⟨r, e, q, hq⟩ := hk
    exact ⟨q, by rw [e, hq]⟩
  refine loopO_post (body := playsB re l ri) (fun x => ∃ i : Nat, x.1 = (i : Int) ∧ i ≤ l.length ∧ ∃ cs ss now, x.2 = (cs, (ss, (mo, (mw, (ri, (re, now)))))) ∧ May cs ss mo mw ri re now) (fun r => ∃ q, r = Sum.inl q) (fun x => l.length - x.1.toNat) (fun x hx => ?_) ⟨0, rfl, Nat.zero_le _, [], [], 0, rfl, may_new hs⟩
  · skip
    obtain ⟨x1, x2⟩ := x
    obtain ⟨i, hi, hil, cs, ss, now, hx2, m⟩ := hx
    simp only at hi hx2
    subst hi hx2
    by_cases h1 : i < l.length
    · by_cases h2 : i < 60
      · right
        obtain ⟨x, hx, hxb⟩ := get_at dK h1
        have hwx := hw x (by rw [← hx, getD_get dK h1]; exact List.getElem_mem h1)
        obtain ⟨w, n, p, c⟩ := x
        simp only at hwx
        have hmo := m.2.2.1
        have hss := m.2.2.2.1
        have hnow := m.2.1
        have hsz := hs
        obtain ⟨z1, z2, z3, z4⟩ := hsz
        have hw1 : IntKind.wrap .i64 (ri + re) = ri + re := wrap_i64' (by omega)
        have hw1' : IntKind.wrap .i64 re = re := wrap_i64' (by omega)
        have hw2 : IntKind.wrap .i64 ((20 : Int) * (ri + re)) = 20 * (ri + re) := wrap_i64' (by omega)
        have hw3 : IntKind.wrap .u64 (20 * (ri + re)) = 20 * (ri + re) := by rw [wr_u64]; omega
        have hw4 : IntKind.wrap .u64 c = c % 18446744073709551616 := wr_u64 c
        have hc0 : 0 ≤ c % 18446744073709551616 := by omega
        have ht : Int.tmod (c % 18446744073709551616) (20 * (ri + re)) = (c % 18446744073709551616) % (20 * (ri + re)) := Int.tmod_eq_emod_of_nonneg hc0
        have hm1 := Int.emod_nonneg (c % 18446744073709551616) (show 20 * (ri + re) ≠ 0 by omega)
        have hm2 := Int.emod_lt_of_pos (c % 18446744073709551616) (show 0 < 20 * (ri + re) by omega)
        generalize (c % 18446744073709551616) % (20 * (ri + re)) = d at ht hm1 hm2
        have hw5 : IntKind.wrap .i64 d = d := wrap_i64' (by omega)
        have hw6 : IntKind.wrap .i64 (now + d) = now + d := wrap_i64' (by omega)
        obtain ⟨r, c0, es, g⟩ := step_j (cs := cs) (ss := ss) (mo := mo) (mw := mw) (ri := ri) (re := re) (now := now) (w := w) (n := n) (p := p) (T := now + d) hwx (by omega) (by omega) (fun _ _ _ => by omega)
        rcases g.may hs with ⟨g0, g1, g2, g3, g4, g5, gm, _⟩ | ⟨g0, _⟩
        · obtain ⟨⟨y1, y2, y3, y4, y5, y6, y7⟩, lg, cg⟩ := r
          simp only at g0 g1 g2 g3 g4 g5 gm es
          subst g0 g1 g2 g3 g4 g5
          have hmm := gm.2.2.1
          have hms := gm.2.2.2.1
          have hmay := ((may_j (cs := y1) (ss := y2) (mo := y3) (mw := y4) (ri := y5) (re := y6) (now := now + d) (by omega) (by omega)).b.resolve_right fun q => q.1 gm)
          have hmay := fun {β : Type} (f : Bool → Option β) => hmay.2 f
          refine ⟨(((i + 1 : Nat) : Int), (y1, (y2, (y3, (y4, (y5, (y6, now + d))))))), ?_, ⟨i + 1, rfl, by omega, y1, y2, now + d, rfl, gm⟩, by simp only [Int.toNat_natCast]; omega⟩
          unfold playsB
          simp (disch := (first | omega | (simp only [LNl]; omega))) only [↓SDl, SDr, if_pos, ↓hxb, hw1, hw1', hw2, hw3, hw4, ht, hw5, hw6, es, decide_true, ↓hmay, wrap_i64']
          rfl
        · have gne : ¬ r.2.2 = 0 := by omega
          have hmay := ((may_j (cs := cs) (ss := ss) (mo := mo) (mw := mw) (ri := ri) (re := re) (now := now) (by omega) (by omega)).b.resolve_right fun q => q.1 m)
          have hmay := fun {β : Type} (f : Bool → Option β) => hmay.2 f
          obtain ⟨⟨y1, y2, y3, y4, y5, y6, y7⟩, lg, cg⟩ := r
          simp only at gne es
          refine ⟨(((i + 1 : Nat) : Int), (cs, (ss, (mo, (mw, (ri, (re, now))))))), ?_, ⟨i + 1, rfl, by omega, cs, ss, now, rfl, m⟩, by simp only [Int.toNat_natCast]; omega⟩
          unfold playsB
          simp (disch := (first | omega | (simp only [LNl]; omega))) only [↓SDl, SDr, if_pos, ↓hxb, hw1, hw1', hw2, hw3, hw4, ht, hw5, hw6, es, decide_eq_false gne, ↓hmay, wrap_i64']
          rfl
      · left
        refine ⟨.inl (cs, (ss, (mo, (mw, (ri, (re, now)))))), ?_, _, rfl⟩
        unfold playsB
        simp (disch := (first | omega | (simp only [LNl]; omega))) only [↓SDl, SDr]
    · left
      refine ⟨.inl (cs, (ss, (mo, (mw, (ri, (re, now)))))), ?_, _, rfl⟩
      unfold playsB
      simp (disch := (first | omega | (simp only [LNl]; omega))) only [↓SDl, SDr]
theorem plays_main (a : ((Int × (Int × (Int × Int))) × List (Int × (Int × (Int × Int))))) (h : WfIs [(.tmp 0 true [(.dat (.int .u16)), (.dat (.int .u16)), (.dat (.int .u16)), (.dat (.int .u16))]), (.tmp 1 false [(.dat (.list (.pair (.int .u8) (.pair (.int .i64) (.pair (.int .i64) (.int .i64))))))])] a) : dialtonelaw36_QueuesPlays a = some true := by
  obtain ⟨⟨a1, a2, a3, a4⟩, a5⟩ := a
  have k1 : 0 ≤ a1 ∧ a1 ≤ 65535 := wfU16 h.1.1
  have k2 : 0 ≤ a2 ∧ a2 ≤ 65535 := wfU16 h.1.2.1
  have k3 : 0 ≤ a3 ∧ a3 ≤ 65535 := wfU16 h.1.2.2.1
  have k4 : 0 ≤ a4 ∧ a4 ≤ 65535 := wfU16 h.1.2.2.2.1
  have k5 : a5.length ≤ 9223372036854775807 := h.2.1.1.1
  have k6 : ∀ x ∈ a5, 0 ≤ x.1 ∧ x.1 ≤ 255 := fun x hx => wfU8 (h.2.1.1.2 x hx).1
  have ht : Int.tmod a1 20 = a1 % 20 := Int.tmod_eq_emod_of_nonneg k1.1
  have w1 : IntKind.wrap .i64 (a1 % 20) = a1 % 20 := wrap_i64' (by omega)
  have w2 : IntKind.wrap .i64 (1 + a1 % 20) = 1 + a1 % 20 := wrap_i64' (by omega)
  have w3 : IntKind.wrap .i64 a3 = a3 := wrap_i64' (by omega)
  have w4 : IntKind.wrap .i64 (1 + a3) = 1 + a3 := wrap_i64' (by omega)
  have w5 : IntKind.wrap .i64 a2 = a2 := wrap_i64' (by omega)
  have w6 : IntKind.wrap .i64 a4 = a4 := wrap_i64' (by omega)
  have hs : Sizes (1 + a1 % 20) a2 (1 + a3) a4 := ⟨⟨by omega, by omega⟩, ⟨by omega, by omega⟩, ⟨by omega, by omega⟩, ⟨by omega, by omega⟩⟩
  rcases newq_j (1 + a1 % 20) a2 (1 + a3) a4 with ⟨_, n1, _⟩ | ⟨q, _⟩
  · obtain ⟨⟨z1, z2, z3, z4, z5, z6, z7⟩, hq⟩ := playsB_j (1 + a1 % 20) a2 (1 + a3) a4 a5 hs (by omega) (by omega) k5 k6
    have hs1 := same_j ([], ([], (1 + a1 % 20, (a2, (1 + a3, (a4, 0)))))) (Nat.zero_le _) (Nat.zero_le _)
    rw [plays_eq]
    simp (disch := (first | omega | (simp only [LNl]; omega))) only [↓SDl, SDr, ht, w1, w2, w3, w4, w5, w6, n1, ne_eq, not_true_eq_false, decide_false, hs1, hq]
  · exact absurd hs q
end Go.Proofs.Ytkmfgldoljegoaa
