import Derived.Test.YtkmfgldoljegoaaQ2p
import Derived.Test.YtkmfgldoljegoaaZ7p
set_option linter.unusedVariables false
set_option linter.unusedSimpArgs false
set_option maxRecDepth 100000
set_option maxHeartbeats 4000000
namespace Go.Proofs.Ytkmfgldoljegoaa
open Go.RowKit
noncomputable def rngI (a1 : List Ca) (a2 : List Se) (v8 : Int) : (Int × Int) → Option ((Int × Int) ⊕ ((Int × Int) ⊕ ((Int × Int) ⊕ ((Int × Int) ⊕ (Int ⊕ Bool))))) :=
(fun (v10, v11) =>
 bif (decide (v10 < (((List.length a2) : Nat) : Int))) then
 bif (decide (((0 : Int) ≤ v10) ∧ (v10 < (((List.length a2) : Nat) : Int)))) then 
 bindO a2[(Int.toNat v10)]? fun x12 =>
 bif (decide (x12.2.1 = (2 : Int))) then
 bif (decide (((0 : Int) ≤ v10) ∧ (v10 < (((List.length a2) : Nat) : Int)))) then 
 bindO a2[(Int.toNat v10)]? fun x13 =>
 bif (decide (((0 : Int) ≤ v8) ∧ (v8 < (((List.length a1) : Nat) : Int)))) then 
 bindO a1[(Int.toNat v8)]? fun x14 =>
 bif (decide (x13.2.2.2.1 = x14.1)) then
 some (Sum.inl ((Go.IntKind.wrap .i64 (v10 + (1 : Int))), (Go.IntKind.wrap .i64 (v11 + (1 : Int)))))
 else
 some (Sum.inl ((Go.IntKind.wrap .i64 (v10 + (1 : Int))), v11))
 else none
 else none
 else
 some (Sum.inl ((Go.IntKind.wrap .i64 (v10 + (1 : Int))), v11))
 else none
 else
 outO (some (Sum.inl (v10, v11))))
noncomputable def rngA (a1 : List Ca) (a2 : List Se) : (Int × Int) → Option ((Int × Int) ⊕ (Int ⊕ Bool)) :=
(fun (v8, v9) =>
 bif (decide (v8 < (((List.length a1) : Nat) : Int))) then
 joinO (joinO (loopO (rngI a1 a2 v8) ((0 : Int), (0 : Int))) fun (v19, v20) =>
 bif (decide (v20 > (1 : Int))) then
 outO (outO (outO (some Bool.false)))
 else
 bif (decide (((0 : Int) ≤ v8) ∧ (v8 < (((List.length a1) : Nat) : Int)))) then 
 bindO a1[(Int.toNat v8)]? fun x21 =>
 bif ((decide (v20 = (1 : Int))) != (decide (x21.2.2.2 ≠ (0 : Int)))) then
 outO (outO (outO (some Bool.false)))
 else
 bif (decide (v20 = (0 : Int))) then
 some (Sum.inl ((Go.IntKind.wrap .i64 (v9 + (1 : Int))), v20))
 else
 some (Sum.inl (v9, v20))
 else none) fun (v23, v24) =>
 some (Sum.inl ((Go.IntKind.wrap .i64 (v8 + (1 : Int))), v23))
 else
 outO (some (Sum.inl v9)))
noncomputable def rngF (a2 : List Se) : (Int × Int) → Option ((Int × Int) ⊕ (Int ⊕ Bool)) :=
(fun (v27, v28) =>
 bif (decide (v27 < (((List.length a2) : Nat) : Int))) then
 bif (decide (((0 : Int) ≤ v27) ∧ (v27 < (((List.length a2) : Nat) : Int)))) then 
 bindO a2[(Int.toNat v27)]? fun x29 =>
 bif (decide (x29.2.1 = (1 : Int))) then
 some (Sum.inl ((Go.IntKind.wrap .i64 (v27 + (1 : Int))), (Go.IntKind.wrap .i64 (v28 + (1 : Int)))))
 else
 some (Sum.inl ((Go.IntKind.wrap .i64 (v27 + (1 : Int))), v28))
 else none
 else
 outO (some (Sum.inl v28)))
theorem rings_eq (a1 : List Ca) (a2 : List Se) (a3 a4 a5 a6 a7 : Int) : dialtonelaw36_rings (a1, (a2, (a3, (a4, (a5, (a6, a7)))))) =

  joinO (loopO (rngA a1 a2) ((0 : Int), (0 : Int))) fun v26 =>
  joinO (loopO (rngF a2) ((0 : Int), (0 : Int))) fun v33 =>
  bif (decide (v33 = (0 : Int))) then
   some Bool.true
  else
   some (decide (v26 = (0 : Int))) := by kernel_rfl
def cnt (p : Nat → Bool) : Nat → Nat
  | 0 => 0
  | n + 1 => cnt p n + if p n = true then 1 else 0
theorem cnt_le (p : Nat → Bool) : ∀ n, cnt p n ≤ n := by
  intro n
  induction n with
  | zero => exact Nat.le_refl _
  | succ n ih => unfold cnt; split <;> omega
theorem cnt_zero (p : Nat → Bool) : ∀ n, (∀ i, i < n → p i = false) → cnt p n = 0 := by
  intro n
  induction n with
  | zero => intro _; rfl
  | succ n ih => intro h; unfold cnt; rw [ih (fun i hi => h i (by omega)), h n (by omega)]; rfl
theorem cnt_one (p : Nat → Bool) (q : Nat) : ∀ n, (∀ i, i < n → (p i = true ↔ i = q)) → cnt p n = if q < n then 1 else 0 := by
  intro n
  induction n with
  | zero => intro _; simp [cnt]
  | succ n ih =>
    intro h
    unfold cnt
    rw [ih (fun i hi => h i (by omega))]
    by_cases e : n = q
    · rw [if_neg (by omega), if_pos ((h n (by omega)).2 e), if_pos (by omega)]
    · rw [if_neg (fun g => e ((h n (by omega)).1 g))]
      by_cases g : q < n
      · rw [if_pos g, if_pos (by omega)]
      · rw [if_neg g, if_neg (by omega)]
def ringsFor (cs : List Ca) (ss : List Se) (i k : Nat) : Bool := decide ((ss.getD k dS).2.1 = 2) && decide ((ss.getD k dS).2.2.2.1 = (cs.getD i dC).1)
theorem rngI_j (cs : List Ca) (ss : List Se) {i : Nat} (hi : i < cs.length) (h1 : cs.length ≤ 1000) (h2 : ss.length ≤ 1000) : loopO (rngI cs ss (i : Int)) (0, 0) = some (.inl ((ss.length : Int), ((cnt (ringsFor cs ss i) ss.length : Nat) : Int))) := by
  refine loopO_from (fun k => ((k : Int), ((cnt (ringsFor cs ss i) k : Nat) : Int))) ss.length rfl (fun k hk => ?_) ?_
  · obtain ⟨x, hx, hxb⟩ := get_at dS hk
    obtain ⟨c, hc, hcb⟩ := get_at dC hi
    have hle := cnt_le (ringsFor cs ss i) k
    show rngI cs ss (i : Int) _ = some (Sum.inl (_, ((cnt (ringsFor cs ss i) k + if ringsFor cs ss i k = true then 1 else 0 : Nat) : Int)))
    unfold ringsFor at hle ⊢
    rw [hx, hc] at *
    unfold rngI
    by_cases e1 : x.2.1 = 2
    · by_cases e2 : x.2.2.2.1 = c.1
      · simp (disch := (first | omega | (simp only [LNl]; omega))) only [↓SDl, SDr, if_pos, if_neg, ↓hxb, ↓hcb, decide_eq_true e1, decide_eq_true e2, Bool.and_self, wrap_i64']
        rfl
      · simp (disch := (first | omega | (simp only [LNl]; omega))) only [↓SDl, SDr, if_pos, if_neg, ↓hxb, ↓hcb, decide_eq_true e1, decide_eq_false e2, Bool.and_false, Bool.false_eq_true, wrap_i64', Nat.add_zero]
        rfl
    · simp (disch := (first | omega | (simp only [LNl]; omega))) only [↓SDl, SDr, if_pos, if_neg, ↓hxb, ↓hcb, decide_eq_false e1, Bool.false_and, Bool.false_eq_true, wrap_i64', Nat.add_zero]
      rfl
  · unfold rngI
    simp (disch := (first | omega | (simp only [LNl]; omega))) only [↓SDl, SDr, if_neg]
theorem rngs_cnt {cs : List Ca} {ss : List Se} {now : Int} (h : VQ cs ss now) {i : Nat} (hi : i < cs.length) : cnt (ringsFor cs ss i) ss.length = if (cs.getD i dC).2.2.2 = 0 then 0 else 1 := by
  by_cases ha : (cs.getD i dC).2.2.2 = 0
  · rw [if_pos ha]
    refine cnt_zero _ _ fun k hk => ?_
    cases hb : ringsFor cs ss i k with
    | false => rfl
    | true =>
      exfalso
      unfold ringsFor at hb
      simp only [Bool.and_eq_true, decide_eq_true_eq] at hb
      obtain ⟨j, j1, j2, j3, j4⟩ := ringee h hk hb.1
      have hij : j = i := VF.cinj h j1 hi (by show (cs.getD j dC).1 = (cs.getD i dC).1; rw [j3]; exact hb.2)
      subst hij
      have := VF.se h k hk
      have e : (ss.getD k dS).1 = 0 := by rw [← j4]; exact ha
      have this : 1 ≤ (ss.getD k dS).1 := this.1
      omega
  · rw [if_neg ha]
    obtain ⟨q, q1, q2, q3, q4, q5⟩ := ringer h hi ha
    rw [cnt_one _ q _ fun k hk => ?_, if_pos q1]
    unfold ringsFor
    simp only [Bool.and_eq_true, decide_eq_true_eq]
    constructor
    · rintro ⟨e1, e2⟩
      obtain ⟨j, j1, j2, j3, j4⟩ := ringee h hk e1
      have hij : j = i := VF.cinj h j1 hi (by show (cs.getD j dC).1 = (cs.getD i dC).1; rw [j3]; exact e2)
      subst hij
      exact VF.sinj h hk q1 (by show (ss.getD k dS).1 = (ss.getD q dS).1; rw [← j4, q3])
    · rintro rfl
      exact ⟨q4, q5⟩
theorem rings_j {cs : List Ca} {ss : List Se} {mo mw ri re now : Int} (h : VQ cs ss now) (h1 : cs.length ≤ 1000) (h2 : ss.length ≤ 1000) (hm : nextC cs = none ∨ nextS ss = none) : dialtonelaw36_rings (cs, (ss, (mo, (mw, (ri, (re, now)))))) = some true := by
  rw [rings_eq]
  have hA : loopO (rngA cs ss) (0, 0) = some (.inl ((cnt (fun i => decide ((cs.getD i dC).2.2.2 = 0)) cs.length : Nat) : Int)) := by
    refine loopO_from (fun k => ((k : Int), ((cnt (fun i => decide ((cs.getD i dC).2.2.2 = 0)) k : Nat) : Int))) cs.length rfl (fun k hk => ?_) ?_
    · obtain ⟨c, hc, hcb⟩ := get_at dC hk
      have hle := cnt_le (fun i => decide ((cs.getD i dC).2.2.2 = 0)) k
      have hI := rngI_j cs ss hk h1 h2
      rw [rngs_cnt h hk] at hI
      show rngA cs ss _ = some (Sum.inl (_, ((cnt (fun i => decide ((cs.getD i dC).2.2.2 = 0)) k + if decide ((cs.getD k dC).2.2.2 = 0) = true then 1 else 0 : Nat) : Int)))
      generalize cnt (fun i => decide ((cs.getD i dC).2.2.2 = 0)) k = n at hle ⊢
      rw [hc] at hI ⊢
      unfold rngA
      by_cases e : c.2.2.2 = 0
      · rw [if_pos e] at hI
        have t1 : decide (((0 : Nat) : Int) = 1) = false := rfl
        have t2 : decide (c.2.2.2 ≠ 0) = false := decide_eq_false (fun q => q e)
        have t3 : decide (((0 : Nat) : Int) = 0) = true := rfl
        simp (disch := (first | omega | (simp only [LNl]; omega))) only [↓SDl, SDr, if_pos, if_neg, ↓hcb, hI, decide_eq_true e, t1, t2, t3, bne_self_eq_false, wrap_i64']
        rfl
      · rw [if_neg e] at hI
        have t1 : decide (((1 : Nat) : Int) = 1) = true := rfl
        have t2 : decide (c.2.2.2 ≠ 0) = true := decide_eq_true e
        have t3 : decide (((1 : Nat) : Int) = 0) = false := rfl
        simp (disch := (first | omega | (simp only [LNl]; omega))) only [↓SDl, SDr, if_pos, if_neg, ↓hcb, hI, decide_eq_false e, t1, t2, t3, bne_self_eq_false, wrap_i64', Bool.false_eq_true, Nat.add_zero]
        rfl
    · unfold rngA
      simp (disch := (first | omega | (simp only [LNl]; omega))) only [↓SDl, SDr, if_neg]
  have hF : loopO (rngF ss) (0, 0) = some (.inl ((cnt (fun i => decide ((ss.getD i dS).2.1 = 1)) ss.length : Nat) : Int)) := by
    refine loopO_from (fun k => ((k : Int), ((cnt (fun i => decide ((ss.getD i dS).2.1 = 1)) k : Nat) : Int))) ss.length rfl (fun k hk => ?_) ?_
    · obtain ⟨x, hx, hxb⟩ := get_at dS hk
      have hle := cnt_le (fun i => decide ((ss.getD i dS).2.1 = 1)) k
      show rngF ss _ = some (Sum.inl (_, ((cnt (fun i => decide ((ss.getD i dS).2.1 = 1)) k + if decide ((ss.getD k dS).2.1 = 1) = true then 1 else 0 : Nat) : Int)))
      generalize cnt (fun i => decide ((ss.getD i dS).2.1 = 1)) k = n at hle ⊢
      rw [hx]
      unfold rngF
      by_cases e : x.2.1 = 1
      · simp (disch := (first | omega | (simp only [LNl]; omega))) only [↓SDl, SDr, if_pos, if_neg, ↓hxb, decide_eq_true e, wrap_i64']
        rfl
      · simp (disch := (first | omega | (simp only [LNl]; omega))) only [↓SDl, SDr, if_pos, if_neg, ↓hxb, decide_eq_false e, wrap_i64', Bool.false_eq_true, Nat.add_zero]
        rfl
    · unfold rngF
      simp (disch := (first | omega | (simp only [LNl]; omega))) only [↓SDl, SDr, if_neg]
  simp only [hA, hF, joinO_inl]
  rcases hm with hm | hm
  · rcases nextC_cases cs with ⟨_, g⟩ | ⟨i, g, _⟩
    · rw [cnt_zero _ cs.length fun i hi => decide_eq_false (g i hi)]
      by_cases e : ((cnt (fun i => decide ((ss.getD i dS).2.1 = 1)) ss.length : Nat) : Int) = 0
      · rw [decide_eq_true e]; rfl
      · rw [decide_eq_false e]; rfl
    · rw [hm] at g; cases g
  · rcases nextS_cases ss with ⟨_, g⟩ | ⟨i, g, _⟩
    · rw [cnt_zero _ ss.length fun i hi => decide_eq_false (g i hi)]; rfl
    · rw [hm] at g; cases g
theorem leave_pos {cs : List Ca} {ss : List Se} {mo mw ri re now T call : Int} (hc : cs.length ≤ 120) (hl : ss.length ≤ 120) (hb : May cs ss mo mw ri re now → now ≤ T → T ≤ 1099511627776 → T - now ≤ 4000000000) {r : Rt} (e : queues_Leave ((cs, (ss, (mo, (mw, (ri, (re, now)))))), (call, T)) = some r) (h0 : r.2.2 = 0) : 1 ≤ cs.length := by
  rw [leave_eq] at e
  by_cases hh : May cs ss mo mw ri re now ∧ (now ≤ T ∧ T ≤ 1099511627776) ∧ (1 ≤ call ∧ call ≤ (2147483647 : Int))
  · obtain ⟨m, t, hn⟩ := hh
    obtain ⟨c1, s1, n1, a1, g, hle, hcnt, _, hK⟩ := beg_yes (num := call) m t hn (hb m t.1 t.2)
    rw [(hK _).1] at e
    rcases leaveR_j (mo := mo) g call with ⟨p1, f⟩ | ⟨i, p1, p2, g2, f⟩
    · rw [f] at e; cases e; cases h0
    · omega
  · obtain ⟨e1, _⟩ := beg_no (cs := cs) (ss := ss) (mo := mo) (mw := mw) (ri := ri) (re := re) (now := now) (num := call) (T := T) (by omega) (by omega) hh (leaveR call T)
    rw [e1] at e; cases e; cases h0
theorem advance_z {cs : List Ca} {ss : List Se} {mo mw ri re now T : Int} (m : May cs ss mo mw ri re now) (hmw : mw ≠ 0) (hT : T = now + mw) (hT2 : T ≤ 1099511627776) : ∃ r, queues_Advance ((cs, (ss, (mo, (mw, (ri, (re, now)))))), T) = some r ∧ r.2.2 = 0 ∧ r.1.1 = [] := by
  rw [advance_eq]
  have hsz := m.1
  have hm2 := m.2.2.2.2.1
  obtain ⟨z1, z2, z3, z4⟩ := hsz
  obtain ⟨c1, s1, n1, a1, g, hle, hcnt, ⟨hdue, hsb⟩, hK⟩ := beg_yes (num := 1) m (T := T) ⟨by omega, hT2⟩ (by omega) (by omega)
  have hb0 : SB now cs := fun c hc => by
    obtain ⟨i, hi, e⟩ := List.mem_iff_getElem.1 hc
    have := VF.ca hm2 i hi
    have e' : cs.getD i dC = c := by rw [getD_get dC hi]; exact e
    have this : (cs.getD i dC).2.2.1 ≤ now := this.2.2.2.2.2
    rw [e'] at this; exact this
  have hb1 := hsb now hb0
  have hnil : c1 = [] := by
    cases hc : c1 with
    | nil => rfl
    | cons c l =>
      exfalso
      have h0 : 0 < c1.length := by rw [hc]; exact Nat.zero_lt_succ _
      have h1 := hdue _ (mem_things.2 (.inl ⟨hmw, 0, h0, rfl⟩))
      have h2 := hb1 c (by rw [hc]; exact List.mem_cons_self ..)
      have h3 : c1.getD 0 dC = c := by rw [hc]; rfl
      rw [h3] at h1
      simp only at h1
      omega
  subst hnil
  have hp := matchM_par (mo := mo) (mw := mw) (ri := ri) (re := re) (n0 := 0) (c0 := ng a1) (T := T) (w := ([], (s1, (mo, (mw, (ri, (re, (T, a1)))))))) ⟨rfl, rfl, rfl, rfl, Nat.le_refl _, by show 0 + ng a1 = ng a1; omega⟩
  refine ⟨resM (matchM T ([], (s1, (mo, (mw, (ri, (re, (T, a1)))))))), ?_, rfl, ?_⟩
  · rw [(hK _).1]
    exact advanceR_j g T
  · exact List.length_eq_zero_iff.1 (Nat.le_zero.1 hp.1.pl)
theorem play_j {cs : List Ca} {ss : List Se} {mo mw ri re now w n p c : Int} (hw : 0 ≤ w ∧ w ≤ 255) (m : May cs ss mo mw ri re now) (hlim : now ≤ 1000000000) :
    ∃ r c0 T, dialtonelaw36_play ((cs, (ss, (mo, (mw, (ri, (re, now)))))), (w, (n, (p, c)))) = some (if r.2.2 = 0 then (r.1, (r.2.1, true)) else ((cs, (ss, (mo, (mw, (ri, (re, now)))))), ([], false))) ∧ Good mo mw ri re T c0 r ∧ now ≤ T ∧ T ≤ now + 5000 ∧
      (r.2.2 = 0 → (w % 8 = 0 → c0 = cs.length + 1) ∧ (w % 8 = 1 → c0 + 1 = cs.length) ∧ (w % 8 ≠ 0 → w % 8 ≠ 1 → c0 = cs.length)) := by
  have hc : cs.length ≤ 120 := by have := m.1.1; have := m.2.2.1; omega
  have hl : ss.length ≤ 120 := by have := m.2.2.2.1; omega
  have hnow := m.2.1
  have ht : Int.tmod w 8 = w % 8 := Int.tmod_eq_emod_of_nonneg hw.1
  have u1 : IntKind.wrap .u64 n = n % 18446744073709551616 := wr_u64 n
  have u2 : IntKind.wrap .u64 c = c % 18446744073709551616 := wr_u64 c
  have t1 : Int.tmod (n % 18446744073709551616) 6 = (n % 18446744073709551616) % 6 := Int.tmod_eq_emod_of_nonneg (by omega)
  have t2 : Int.tmod (c % 18446744073709551616) 5000 = (c % 18446744073709551616) % 5000 := Int.tmod_eq_emod_of_nonneg (by omega)
  have b1 : 0 ≤ (n % 18446744073709551616) % 6 ∧ (n % 18446744073709551616) % 6 ≤ 5 := by omega
  have b2 : 0 ≤ (c % 18446744073709551616) % 5000 ∧ (c % 18446744073709551616) % 5000 ≤ 4999 := by omega
  generalize (n % 18446744073709551616) % 6 = d1 at t1 b1
  generalize (c % 18446744073709551616) % 5000 = d2 at t2 b2
  have w1 : IntKind.wrap .i64 d1 = d1 := wrap_i64' (by omega)
  have w2 : IntKind.wrap .i64 (1 + d1) = 1 + d1 := wrap_i64' (by omega)
  have w3 : IntKind.wrap .i64 d2 = d2 := wrap_i64' (by omega)
  have w4 : IntKind.wrap .i64 (now + d2) = now + d2 := wrap_i64' (by omega)
  have hb : May cs ss mo mw ri re now → now ≤ now + d2 → now + d2 ≤ 1099511627776 → now + d2 - now ≤ 4000000000 := fun _ _ _ => by omega
  have h8 : w % 8 = 0 ∨ w % 8 = 1 ∨ w % 8 = 2 ∨ w % 8 = 3 ∨ w % 8 = 4 ∨ w % 8 = 5 ∨ w % 8 = 6 ∨ w % 8 = 7 := by omega
  have fin : ∀ (r : Rt) (k : Option (Qt × (List Ac × Bool))), (r.2.2 = 0 → k = some (r.1, (r.2.1, true))) → (r.2.2 ≠ 0 → k = some ((cs, (ss, (mo, (mw, (ri, (re, now)))))), ([], false))) → k = some (if r.2.2 = 0 then (r.1, (r.2.1, true)) else ((cs, (ss, (mo, (mw, (ri, (re, now)))))), ([], false))) := by
    intro r k k1 k2
    by_cases e : r.2.2 = 0
    · rw [if_pos e]; exact k1 e
    · rw [if_neg e]; exact k2 e
  unfold dialtonelaw36_play
  rcases h8 with h | h | h | h | h | h | h | h
  · obtain ⟨r, e, _, g⟩ := join_c (mo := mo) (mw := mw) (ri := ri) (re := re) (now := now) (T := now + d2) hc hl hb (IntKind.wrap .i64 (100 + (1 + d1))) (IntKind.wrap .i64 (Int.tmod (IntKind.wrap .u64 p) 3))
    refine ⟨r, _, now + d2, ?_, g, by omega, by omega, fun h0 => ⟨fun q => by omega, fun q => by omega, fun q1 q2 => by omega⟩⟩
    refine fin r _ (fun z => ?_) (fun z => ?_)
    · obtain ⟨⟨y1, y2, y3, y4, y5, y6, y7⟩, l, c⟩ := r
      simp only at z
      subst z
      simp (disch := (first | omega | (simp only [LNl]; omega))) only [↓SDl, SDr, u1, u2, t1, t2, w1, w2, w3, w4, ht, h, decide_true, decide_false, e, ne_eq, not_true_eq_false]
    · obtain ⟨⟨y1, y2, y3, y4, y5, y6, y7⟩, l, c⟩ := r
      simp only at z
      simp (disch := (first | omega | (simp only [LNl]; omega))) only [↓SDl, SDr, u1, u2, t1, t2, w1, w2, w3, w4, ht, h, decide_true, decide_false, e, decide_eq_true z]
  · obtain ⟨r, e, _, g⟩ := leave_c (mo := mo) (mw := mw) (ri := ri) (re := re) (now := now) (T := now + d2) hc hl hb (IntKind.wrap .i64 (100 + (1 + d1)))
    refine ⟨r, _, now + d2, ?_, g, by omega, by omega, fun h0 => ⟨fun q => by omega, fun q => by have := leave_pos hc hl hb e h0; omega, fun q1 q2 => by omega⟩⟩
    refine fin r _ (fun z => ?_) (fun z => ?_)
    · obtain ⟨⟨y1, y2, y3, y4, y5, y6, y7⟩, l, c⟩ := r
      simp only at z
      subst z
      simp (disch := (first | omega | (simp only [LNl]; omega))) only [↓SDl, SDr, u1, u2, t1, t2, w1, w2, w3, w4, ht, h, decide_true, decide_false, e, ne_eq, not_true_eq_false]
    · obtain ⟨⟨y1, y2, y3, y4, y5, y6, y7⟩, l, c⟩ := r
      simp only at z
      simp (disch := (first | omega | (simp only [LNl]; omega))) only [↓SDl, SDr, u1, u2, t1, t2, w1, w2, w3, w4, ht, h, decide_true, decide_false, e, decide_eq_true z]
  · obtain ⟨r, e, _, g⟩ := login_c (mo := mo) (mw := mw) (ri := ri) (re := re) (now := now) (T := now + d2) hc hl hb (1 + d1)
    refine ⟨r, _, now + d2, ?_, g, by omega, by omega, fun h0 => ⟨fun q => by omega, fun q => by omega, fun q1 q2 => by omega⟩⟩
    refine fin r _ (fun z => ?_) (fun z => ?_)
    · obtain ⟨⟨y1, y2, y3, y4, y5, y6, y7⟩, l, c⟩ := r
      simp only at z
      subst z
      simp (disch := (first | omega | (simp only [LNl]; omega))) only [↓SDl, SDr, u1, u2, t1, t2, w1, w2, w3, w4, ht, h, decide_true, decide_false, e, ne_eq, not_true_eq_false]
    · obtain ⟨⟨y1, y2, y3, y4, y5, y6, y7⟩, l, c⟩ := r
      simp only at z
      simp (disch := (first | omega | (simp only [LNl]; omega))) only [↓SDl, SDr, u1, u2, t1, t2, w1, w2, w3, w4, ht, h, decide_true, decide_false, e, decide_eq_true z]
  · obtain ⟨r, e, _, g⟩ := logout_c (mo := mo) (mw := mw) (ri := ri) (re := re) (now := now) (T := now + d2) hc hl hb (1 + d1)
    refine ⟨r, _, now + d2, ?_, g, by omega, by omega, fun h0 => ⟨fun q => by omega, fun q => by omega, fun q1 q2 => by omega⟩⟩
    refine fin r _ (fun z => ?_) (fun z => ?_)
    · obtain ⟨⟨y1, y2, y3, y4, y5, y6, y7⟩, l, c⟩ := r
      simp only at z
      subst z
      simp (disch := (first | omega | (simp only [LNl]; omega))) only [↓SDl, SDr, u1, u2, t1, t2, w1, w2, w3, w4, ht, h, decide_true, decide_false, e, ne_eq, not_true_eq_false]
    · obtain ⟨⟨y1, y2, y3, y4, y5, y6, y7⟩, l, c⟩ := r
      simp only at z
      simp (disch := (first | omega | (simp only [LNl]; omega))) only [↓SDl, SDr, u1, u2, t1, t2, w1, w2, w3, w4, ht, h, decide_true, decide_false, e, decide_eq_true z]
  · obtain ⟨r, e, _, g⟩ := accept_c (mo := mo) (mw := mw) (ri := ri) (re := re) (now := now) (T := now + d2) hc hl hb (1 + d1)
    refine ⟨r, _, now + d2, ?_, g, by omega, by omega, fun h0 => ⟨fun q => by omega, fun q => by omega, fun q1 q2 => by omega⟩⟩
    refine fin r _ (fun z => ?_) (fun z => ?_)
    · obtain ⟨⟨y1, y2, y3, y4, y5, y6, y7⟩, l, c⟩ := r
      simp only at z
      subst z
      simp (disch := (first | omega | (simp only [LNl]; omega))) only [↓SDl, SDr, u1, u2, t1, t2, w1, w2, w3, w4, ht, h, decide_true, decide_false, e, ne_eq, not_true_eq_false]
    · obtain ⟨⟨y1, y2, y3, y4, y5, y6, y7⟩, l, c⟩ := r
      simp only at z
      simp (disch := (first | omega | (simp only [LNl]; omega))) only [↓SDl, SDr, u1, u2, t1, t2, w1, w2, w3, w4, ht, h, decide_true, decide_false, e, decide_eq_true z]
  · obtain ⟨r, e, _, g⟩ := refuse_c (mo := mo) (mw := mw) (ri := ri) (re := re) (now := now) (T := now + d2) hc hl hb (1 + d1)
    refine ⟨r, _, now + d2, ?_, g, by omega, by omega, fun h0 => ⟨fun q => by omega, fun q => by omega, fun q1 q2 => by omega⟩⟩
    refine fin r _ (fun z => ?_) (fun z => ?_)
    · obtain ⟨⟨y1, y2, y3, y4, y5, y6, y7⟩, l, c⟩ := r
      simp only at z
      subst z
      simp (disch := (first | omega | (simp only [LNl]; omega))) only [↓SDl, SDr, u1, u2, t1, t2, w1, w2, w3, w4, ht, h, decide_true, decide_false, e, ne_eq, not_true_eq_false]
    · obtain ⟨⟨y1, y2, y3, y4, y5, y6, y7⟩, l, c⟩ := r
      simp only at z
      simp (disch := (first | omega | (simp only [LNl]; omega))) only [↓SDl, SDr, u1, u2, t1, t2, w1, w2, w3, w4, ht, h, decide_true, decide_false, e, decide_eq_true z]
  · obtain ⟨r, e, _, g⟩ := done_c (mo := mo) (mw := mw) (ri := ri) (re := re) (now := now) (T := now + d2) hc hl hb (1 + d1)
    refine ⟨r, _, now + d2, ?_, g, by omega, by omega, fun h0 => ⟨fun q => by omega, fun q => by omega, fun q1 q2 => by omega⟩⟩
    refine fin r _ (fun z => ?_) (fun z => ?_)
    · obtain ⟨⟨y1, y2, y3, y4, y5, y6, y7⟩, l, c⟩ := r
      simp only at z
      subst z
      simp (disch := (first | omega | (simp only [LNl]; omega))) only [↓SDl, SDr, u1, u2, t1, t2, w1, w2, w3, w4, ht, h, decide_true, decide_false, e, ne_eq, not_true_eq_false]
    · obtain ⟨⟨y1, y2, y3, y4, y5, y6, y7⟩, l, c⟩ := r
      simp only at z
      simp (disch := (first | omega | (simp only [LNl]; omega))) only [↓SDl, SDr, u1, u2, t1, t2, w1, w2, w3, w4, ht, h, decide_true, decide_false, e, decide_eq_true z]
  · obtain ⟨r, e, _, g⟩ := advance_c (mo := mo) (mw := mw) (ri := ri) (re := re) (now := now) (T := now + d2) hc hl hb 
    refine ⟨r, _, now + d2, ?_, g, by omega, by omega, fun h0 => ⟨fun q => by omega, fun q => by omega, fun q1 q2 => by omega⟩⟩
    refine fin r _ (fun z => ?_) (fun z => ?_)
    · obtain ⟨⟨y1, y2, y3, y4, y5, y6, y7⟩, l, c⟩ := r
      simp only at z
      subst z
      simp (disch := (first | omega | (simp only [LNl]; omega))) only [↓SDl, SDr, u1, u2, t1, t2, w1, w2, w3, w4, ht, h, decide_true, decide_false, e, ne_eq, not_true_eq_false]
    · obtain ⟨⟨y1, y2, y3, y4, y5, y6, y7⟩, l, c⟩ := r
      simp only at z
      simp (disch := (first | omega | (simp only [LNl]; omega))) only [↓SDl, SDr, u1, u2, t1, t2, w1, w2, w3, w4, ht, h, decide_true, decide_false, e, decide_eq_true z]
noncomputable def cngB (x30 : List Ac) : (Int × Int) → Option ((Int × Int) ⊕ ((Int × Int) ⊕ ((Int × (Int × (Bool × (List Ac × (Int × (List Ca × (List Se × (Int × (Int × (Int × (Int × Int))))))))))) ⊕ ((Int × (Int × (Int × (List Ca × (List Se × (Int × (Int × (Int × (Int × Int))))))))) ⊕ ((List Ca × (List Se × (Int × (Int × (Int × (Int × Int)))))) ⊕ Bool))))) :=
(fun (v32, v33) =>
 bif (decide (v32 < (((List.length x30) : Nat) : Int))) then
 bif (decide (((0 : Int) ≤ v32) ∧ (v32 < (((List.length x30) : Nat) : Int)))) then 
 bindO x30[(Int.toNat v32)]? fun x34 =>
 bif (decide (x34.1 = (3 : Int))) then
 some (Sum.inl ((Go.IntKind.wrap .i64 (v32 + (1 : Int))), (Go.IntKind.wrap .i64 (v33 + (1 : Int)))))
 else
 bif (decide (((0 : Int) ≤ v32) ∧ (v32 < (((List.length x30) : Nat) : Int)))) then 
 bindO x30[(Int.toNat v32)]? fun x37 =>
 bif (decide (x37.1 = (4 : Int))) then
 some (Sum.inl ((Go.IntKind.wrap .i64 (v32 + (1 : Int))), (Go.IntKind.wrap .i64 (v33 + (1 : Int)))))
 else
 some (Sum.inl ((Go.IntKind.wrap .i64 (v32 + (1 : Int))), v33))
 else none
 else none
 else
 outO (some (Sum.inl (v32, v33))))
noncomputable def oneB (a1 : List Ca) : (Int × (Int × (Int × (List Ca × (List Se × (Int × (Int × (Int × (Int × Int))))))))) → Option ((Int × (Int × (Int × (List Ca × (List Se × (Int × (Int × (Int × (Int × Int))))))))) ⊕ ((List Ca × (List Se × (Int × (Int × (Int × (Int × Int)))))) ⊕ Bool)) :=
(fun (v11, (v12, (v13, (v14, (v15, (v16, (v17, (v18, (v19, v20))))))))) =>
 bif (decide (v11 < (((List.length a1) : Nat) : Int))) then
 bif (decide (v11 < (100 : Int))) then
 joinO (bif (decide (((0 : Int) ≤ v11) ∧ (v11 < (((List.length a1) : Nat) : Int)))) then 
 bindO a1[(Int.toNat v11)]? fun x21 =>
 bindO (dialtonelaw36_play ((v14, (v15, (v16, (v17, (v18, (v19, v20)))))), (x21.1, (x21.2.1, (x21.2.2.1, x21.2.2.2))))) fun ((x23, (x24, (x25, (x26, (x27, (x28, x29)))))), (x30, x31)) =>
 bif (!x31) then
 some (Sum.inl (v12, (v13, (x31, (x30, (v20, (v14, (v15, (v16, (v17, (v18, (v19, v20))))))))))))
 else
 joinO (loopO (cngB x30) ((0 : Int), v12)) fun (v41, v42) =>
 joinO (bif (decide (((0 : Int) ≤ v11) ∧ (v11 < (((List.length a1) : Nat) : Int)))) then 
 bindO a1[(Int.toNat v11)]? fun x43 =>
 bif (decide ((Int.tmod x43.1 (8 : Int)) = (0 : Int))) then
 some (Sum.inl (Go.IntKind.wrap .i64 (v13 + (1 : Int))))
 else
 some (Sum.inl v13)
 else none) fun v46 =>
 joinO (bif (decide (((0 : Int) ≤ v11) ∧ (v11 < (((List.length a1) : Nat) : Int)))) then 
 bindO a1[(Int.toNat v11)]? fun x47 =>
 bif (decide ((Int.tmod x47.1 (8 : Int)) = (1 : Int))) then
 some (Sum.inl (Go.IntKind.wrap .i64 (v42 + (1 : Int))))
 else
 some (Sum.inl v42)
 else none) fun v50 =>
 bif (decide (x29 < v20)) then
 outO (outO (outO (some Bool.false)))
 else
 bindO (dialtonelaw36_rings (x23, (x24, (x25, (x26, (x27, (x28, x29))))))) fun x51 =>
 bif (!x51) then
 outO (outO (outO (some Bool.false)))
 else
 bindO (queues_MayQueue (x23, (x24, (x25, (x26, (x27, (x28, x29))))))) fun x52 =>
 bif (!x52) then
 outO (outO (outO (some Bool.false)))
 else
 bif (decide ((Go.IntKind.wrap .i64 (v46 - v50)) ≠ (((List.length x23) : Nat) : Int))) then
 outO (outO (outO (some Bool.false)))
 else
 some (Sum.inl (v50, (v46, (x31, (x30, (v20, (x23, (x24, (x25, (x26, (x27, (x28, x29))))))))))))
 else none) fun (v54, (v55, (v56, (v57, (v58, (v59, (v60, (v61, (v62, (v63, (v64, v65))))))))))) =>
 some (Sum.inl ((Go.IntKind.wrap .i64 (v11 + (1 : Int))), (v54, (v55, (v59, (v60, (v61, (v62, (v63, (v64, v65))))))))))
 else
 outO (some (Sum.inl (v14, (v15, (v16, (v17, (v18, (v19, v20))))))))
 else
 outO (some (Sum.inl (v14, (v15, (v16, (v17, (v18, (v19, v20)))))))))
theorem one_eq (a1 : List Ca) : dialtonelaw36_QueuesOne a1 =

  bindO (queues_NewQueue ((5 : Int), ((20000 : Int), ((3000 : Int), (1000 : Int))))) fun ((x3, (x4, (x5, (x6, (x7, (x8, x9)))))), x10) =>
  bif (decide (x10 ≠ (0 : Int))) then
   some Bool.false
  else
   joinO (loopO (oneB a1) ((0 : Int), ((0 : Int), ((0 : Int), (x3, (x4, (x5, (x6, (x7, (x8, x9)))))))))) fun (v67, (v68, (v69, (v70, (v71, (v72, v73)))))) =>
   bindO (queues_Advance ((v67, (v68, (v69, (v70, (v71, (v72, v73)))))), (Go.IntKind.wrap .i64 (v73 + (20000 : Int))))) fun ((x76, (x77, (x78, (x79, (x80, (x81, x82)))))), (x83, x84)) =>
   bif (decide (x84 = (0 : Int))) then
    bif (decide ((((List.length x76) : Nat) : Int) = (0 : Int))) then
     some Bool.true
    else
     some Bool.false
   else
    some Bool.false := by kernel_rfl
theorem cng_j (l : List Ac) (g : Int) (hg : 0 ≤ g ∧ g ≤ 1000000) (hl : ng l ≤ 1000000) (hll : l.length ≤ 4000000000000) : loopO (cngB l) (0, g) = some (.inl ((l.length : Int), g + ((ng l : Nat) : Int))) := by
  have hmono : ∀ k, ng (l.take k) ≤ ng l := fun k => List.Sublist.countP_le (List.take_sublist k l)
  refine loopO_from (fun k => ((k : Int), g + ((ng (l.take k) : Nat) : Int))) l.length ?_ (fun k hk => ?_) ?_
  · simp [ng]
  · obtain ⟨x, hx, hxb⟩ := get_at ((0 : Int), ((0 : Int), (0 : Int))) hk
    have h1 := hmono k
    show cngB l _ = some (Sum.inl (_, g + ((ng (l.take (k + 1)) : Nat) : Int)))
    rw [take_snoc l ((0 : Int), ((0 : Int), (0 : Int))) hk, hx, ng_snoc]
    unfold cngB
    by_cases e3 : x.1 = 3
    · rw [if_pos (.inl e3)]
      simp (disch := (first | omega | (simp only [LNl]; omega))) only [↓SDl, SDr, if_pos, if_neg, ↓hxb, e3, decide_true, wrap_i64']
      rw [show g + ((ng (List.take k l) : Nat) : Int) + 1 = g + ((ng (List.take k l) + 1 : Nat) : Int) from by omega]
      rfl
    · by_cases e4 : x.1 = 4
      · rw [if_pos (.inr e4)]
        simp (disch := (first | omega | (simp only [LNl]; omega))) only [↓SDl, SDr, if_pos, if_neg, ↓hxb, e3, e4, decide_true, decide_false, wrap_i64']
        rw [show g + ((ng (List.take k l) : Nat) : Int) + 1 = g + ((ng (List.take k l) + 1 : Nat) : Int) from by omega]
        rfl
      · rw [if_neg (by omega)]
        simp (disch := (first | omega | (simp only [LNl]; omega))) only [↓SDl, SDr, if_pos, if_neg, ↓hxb, e3, e4, decide_false, wrap_i64', Nat.add_zero]
        rfl
  · show cngB l ((l.length : Int), g + ((ng (l.take l.length) : Nat) : Int)) = _
    rw [List.take_length]
    unfold cngB
    simp (disch := (first | omega | (simp only [LNl]; omega))) only [↓SDl, SDr, if_neg]
theorem oneB_j (l : List Ca) (hl : l.length ≤ 9223372036854775807) (hw : ∀ x ∈ l, 0 ≤ x.1 ∧ x.1 ≤ 255) :
    ∃ cs ss now, loopO (oneB l) (0, (0, (0, ([], ([], (5, (20000, (3000, (1000, 0))))))))) = some (.inl (cs, (ss, (5, (20000, (3000, (1000, now))))))) ∧ May cs ss 5 20000 3000 1000 now ∧ now ≤ 1000000 := by
  have hs : Sizes 5 20000 3000 1000 := ⟨by omega, by omega, by omega, by omega⟩
  have hmay0 : May [] [] 5 20000 3000 1000 0 := may_new hs
  suffices hk : ∃ r, loopO (oneB l) (0, (0, (0, ([], ([], (5, (20000, (3000, (1000, 0))))))))) = some r ∧ ∃ cs ss now, r = Sum.inl (cs, (ss, (5, (20000, (3000, (1000, now)))))) ∧ May cs ss 5 20000 3000 1000 now ∧ now ≤ 1000000 by
    obtain ⟨r, e, cs, ss, now, hr, m⟩ := hk
    exact ⟨cs, ss, now, by rw [e, hr], m⟩
  refine loopO_post (body := oneB l) (fun x => ∃ i : Nat, x.1 = (i : Int) ∧ i ≤ l.length ∧ i ≤ 100 ∧ ∃ (cs : List Ca) (ss : List Se) (now : Int), x.2.2.2 = (cs, (ss, (5, (20000, (3000, (1000, now)))))) ∧ May cs ss 5 20000 3000 1000 now ∧ now ≤ 5000 * (i : Int) ∧ 0 ≤ x.2.1 ∧ x.2.2.1 ≤ (i : Int) ∧ x.2.2.1 - x.2.1 = (cs.length : Int)) (fun r => ∃ cs ss now, r = Sum.inl (cs, (ss, (5, (20000, (3000, (1000, now)))))) ∧ May cs ss 5 20000 3000 1000 now ∧ now ≤ 1000000) (fun x => l.length - x.1.toNat) (fun x hx => ?_) ⟨0, rfl, Nat.zero_le _, Nat.zero_le _, [], [], 0, rfl, hmay0, by omega, Int.le_refl _, Int.le_refl _, rfl⟩
  obtain ⟨x1, gone, joined, q⟩ := x
  obtain ⟨i, hi, hil, hi100, cs, ss, now, hq, m, hnow, hg0, hj, hcnt⟩ := hx
  simp only at hi hq hg0 hj hcnt
  subst hi hq
  have hmm := m.2.2.1
  have hms := m.2.2.2.1
  by_cases h1 : i < l.length
  · by_cases h2 : i < 100
    · right
      obtain ⟨x, hx, hxb⟩ := get_at dC h1
      have hwx := hw x (by rw [← hx, getD_get dC h1]; exact List.getElem_mem h1)
      obtain ⟨w, n, p, c⟩ := x
      simp only at hwx
      obtain ⟨r, c0, T, es, g, hT1, hT2, hc0⟩ := play_j (n := n) (p := p) (c := c) hwx m (by omega)
      have ht : Int.tmod w 8 = w % 8 := Int.tmod_eq_emod_of_nonneg hwx.1
      rcases g.may hs with ⟨g0, g1, g2, g3, g4, g5, gm, gc, gf⟩ | ⟨g0, _⟩
      · obtain ⟨d1, d2, d3⟩ := hc0 g0
        rw [if_pos g0] at es
        obtain ⟨_, _, glen⟩ := g.len
        obtain ⟨⟨y1, y2, y3, y4, y5, y6, y7⟩, lg, cg⟩ := r
        simp only at g0 g1 g2 g3 g4 g5 gm gc gf es glen
        subst g0 g1 g2 g3 g4 g5
        have hym := gm.2.2.1
        have hys := gm.2.2.2.1
        have hmay := ((may_j (cs := y1) (ss := y2) (mo := 5) (mw := 20000) (ri := 3000) (re := 1000) (now := y7) (by omega) (by omega)).b.resolve_right fun q => q.1 gm)
        have hmay := fun {β : Type} (f : Bool → Option β) => hmay.2 f
        have hr := rings_j (mo := 5) (mw := 20000) (ri := 3000) (re := 1000) gm.2.2.2.2.1 (by omega) (by omega) gf
        have hcn : c0 ≤ cs.length + 1 := by
          by_cases q0 : w % 8 = 0
          · have := d1 q0; omega
          · by_cases q1 : w % 8 = 1
            · have := d2 q1; omega
            · have := d3 q0 q1; omega
        have hll : lg.length ≤ 4000000000000 := by
          rcases g with ⟨e, he, h⟩ | ⟨w', gw, _, _, _, h⟩
          · have h9 : (0 : Int) = e := congrArg (fun r : Rt => r.2.2) h
            omega
          · have h3 := GQ.k gw
            have h4 := GQ.hK gw
            have h5 : lg = w'.2.2.2.2.2.2.2 := congrArg (fun r : Rt => r.2.1) h
            rw [h5]; omega
        have hcg := cng_j lg gone (by omega) (by omega) hll
        by_cases q0 : w % 8 = 0
        · have e0 := d1 q0
          have q1 : ¬ w % 8 = 1 := by omega
          refine ⟨(((i + 1 : Nat) : Int), (gone + ((ng lg : Nat) : Int), (joined + 1, (y1, (y2, (5, (20000, (3000, (1000, y7))))))))), ?_, ⟨i + 1, rfl, by omega, by omega, y1, y2, y7, rfl, gm, by omega, by show 0 ≤ gone + _; omega, by show joined + 1 ≤ _; omega, by show joined + 1 - (gone + _) = _; omega⟩, by simp only [Int.toNat_natCast]; omega⟩
          have hd : IntKind.wrap .i64 (joined + 1 - (gone + ((ng lg : Nat) : Int))) = (y1.length : Int) := by rw [wrap_i64' (by omega)]; omega
          unfold oneB
          simp (disch := (first | omega | (simp only [LNl]; omega))) only [↓SDl, SDr, if_pos, if_neg, ↓hxb, es, hcg, ht, decide_eq_true q0, decide_eq_false q1, hr, ↓hmay, wrap_i64', hd, ne_eq, not_true_eq_false, decide_false]
          rfl
        · by_cases q1 : w % 8 = 1
          · have e0 := d2 q1
            refine ⟨(((i + 1 : Nat) : Int), (gone + ((ng lg : Nat) : Int) + 1, (joined, (y1, (y2, (5, (20000, (3000, (1000, y7))))))))), ?_, ⟨i + 1, rfl, by omega, by omega, y1, y2, y7, rfl, gm, by omega, by show 0 ≤ gone + _ + 1; omega, by show joined ≤ _; omega, by show joined - (gone + _ + 1) = _; omega⟩, by simp only [Int.toNat_natCast]; omega⟩
            have hd : IntKind.wrap .i64 (joined - (gone + ((ng lg : Nat) : Int) + 1)) = (y1.length : Int) := by rw [wrap_i64' (by omega)]; omega
            unfold oneB
            simp (disch := (first | omega | (simp only [LNl]; omega))) only [↓SDl, SDr, if_pos, if_neg, ↓hxb, es, hcg, ht, decide_eq_false q0, decide_eq_true q1, hr, ↓hmay, wrap_i64', hd, ne_eq, not_true_eq_false, decide_false]
            rfl
          · have e0 := d3 q0 q1
            refine ⟨(((i + 1 : Nat) : Int), (gone + ((ng lg : Nat) : Int), (joined, (y1, (y2, (5, (20000, (3000, (1000, y7))))))))), ?_, ⟨i + 1, rfl, by omega, by omega, y1, y2, y7, rfl, gm, by omega, by show 0 ≤ gone + _; omega, by show joined ≤ _; omega, by show joined - (gone + _) = _; omega⟩, by simp only [Int.toNat_natCast]; omega⟩
            have hd : IntKind.wrap .i64 (joined - (gone + ((ng lg : Nat) : Int))) = (y1.length : Int) := by rw [wrap_i64' (by omega)]; omega
            unfold oneB
            simp (disch := (first | omega | (simp only [LNl]; omega))) only [↓SDl, SDr, if_pos, if_neg, ↓hxb, es, hcg, ht, decide_eq_false q0, decide_eq_false q1, hr, ↓hmay, wrap_i64', hd, ne_eq, not_true_eq_false, decide_false]
            rfl
      · rw [if_neg (by omega)] at es
        refine ⟨(((i + 1 : Nat) : Int), (gone, (joined, (cs, (ss, (5, (20000, (3000, (1000, now))))))))), ?_, ⟨i + 1, rfl, by omega, by omega, cs, ss, now, rfl, m, by omega, hg0, by show joined ≤ _; omega, hcnt⟩, by simp only [Int.toNat_natCast]; omega⟩
        unfold oneB
        simp (disch := (first | omega | (simp only [LNl]; omega))) only [↓SDl, SDr, if_pos, if_neg, ↓hxb, es, wrap_i64']
        rfl
    · left
      refine ⟨.inl (cs, (ss, (5, (20000, (3000, (1000, now)))))), ?_, _, _, _, rfl, m, by omega⟩
      unfold oneB
      simp (disch := (first | omega | (simp only [LNl]; omega))) only [↓SDl, SDr]
  · left
    refine ⟨.inl (cs, (ss, (5, (20000, (3000, (1000, now)))))), ?_, _, _, _, rfl, m, by omega⟩
    unfold oneB
    simp (disch := (first | omega | (simp only [LNl]; omega))) only [↓SDl, SDr]
theorem one_main (a : List Ca) (h : WfIs [(.tmp 0 false [(.dat (.list (.pair (.int .u8) (.pair (.int .i64) (.pair (.int .i64) (.int .i64))))))])] a) : dialtonelaw36_QueuesOne a = some true := by
  have k5 : a.length ≤ 9223372036854775807 := h.1.1.1
  have k6 : ∀ x ∈ a, 0 ≤ x.1 ∧ x.1 ≤ 255 := fun x hx => wfU8 (h.1.1.2 x hx).1
  have hs : Sizes 5 20000 3000 1000 := ⟨by omega, by omega, by omega, by omega⟩
  rcases newq_j 5 20000 3000 1000 with ⟨_, n1, _⟩ | ⟨q, _⟩
  · obtain ⟨cs, ss, now, e, m, hn⟩ := oneB_j a k5 k6
    have h0 := m.2.1
    obtain ⟨r, e2, r0, r1⟩ := advance_z (T := now + 20000) m (by omega) rfl (by omega)
    obtain ⟨⟨y1, y2, y3, y4, y5, y6, y7⟩, l, c⟩ := r
    simp only at r0 r1
    subst r0 r1
    have hw : IntKind.wrap .i64 (now + 20000) = now + 20000 := wrap_i64' (by omega)
    rw [one_eq]
    simp (disch := (first | omega | (simp only [LNl]; omega))) only [↓SDl, SDr, n1, ne_eq, not_true_eq_false, decide_false, e, hw, e2, List.length_nil, decide_true]
  · exact absurd hs q
end Go.Proofs.Ytkmfgldoljegoaa
