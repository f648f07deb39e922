import Derived.Test.YtkmfgldoljegoaaR2p
set_option linter.unusedVariables false
set_option linter.unusedSimpArgs false
set_option maxRecDepth 100000
set_option maxHeartbeats 4000000
namespace Go.Proofs.Ytkmfgldoljegoaa
open Go.RowKit
theorem iter_inv {α : Type} {f : α → Option α} (I : α → Prop) (h : ∀ w w', I w → f w = some w' → I w') : ∀ n w, I w → I (iter f n w) := by
  intro n
  induction n with
  | zero => intro w hw; exact hw
  | succ n ih =>
    intro w hw
    unfold iter
    cases hf : f w with
    | none => exact hw
    | some w' => exact ih w' (h w w' hw hf)
def ng (l : List Ac) : Nat := l.countP (fun a => decide (a.1 = 3 ∨ a.1 = 4))
theorem ng_snoc (l : List Ac) (a : Ac) : ng (l ++ [a]) = ng l + if a.1 = 3 ∨ a.1 = 4 then 1 else 0 := by
  unfold ng
  rw [List.countP_append, List.countP_cons, List.countP_nil]
  by_cases h : a.1 = 3 ∨ a.1 = 4 <;> simp [h]
structure PW (mo mw ri re : Int) (n0 c0 : Nat) (w : Wk) : Prop where
  p1 : w.2.2.1 = mo
  p2 : w.2.2.2.1 = mw
  p3 : w.2.2.2.2.1 = ri
  p4 : w.2.2.2.2.2.1 = re
  pl : w.1.length ≤ n0
  pc : w.1.length + ng w.2.2.2.2.2.2.2 = c0
section
variable {mo mw ri re : Int} {n0 c0 : Nat}
theorem mstep_par {w w' : Wk} (h : PW mo mw ri re n0 c0 w) (e : mstep w = some w') : PW mo mw ri re n0 c0 w' ∧ w'.2.2.2.2.2.2.1 = w.2.2.2.2.2.2.1 := by
  obtain ⟨cs, ss, m0, m1, m2, m3, now, acts⟩ := w
  obtain ⟨h1, h2, h3, h4, h5, h6⟩ := h
  simp only at h1 h2 h3 h4 h5 h6
  unfold mstep at e
  simp only at e
  split at e
  · cases e
    refine ⟨⟨h1, h2, h3, h4, ?_, ?_⟩, rfl⟩
    · show (setC _ _ _).length ≤ n0; rw [setC_len]; exact h5
    · show (setC _ _ _).length + ng (acts ++ [_]) = c0
      rw [setC_len, ng_snoc, if_neg (by simp)]; exact h6
  · cases e
theorem matchM_par {T : Int} {w : Wk} (h : PW mo mw ri re n0 c0 w) : PW mo mw ri re n0 c0 (matchM T w) ∧ (matchM T w).2.2.2.2.2.2.1 = w.2.2.2.2.2.2.1 :=
  iter_inv (f := mstep) (fun x => PW mo mw ri re n0 c0 x ∧ x.2.2.2.2.2.2.1 = w.2.2.2.2.2.2.1) (fun x y hx e => by
    have := mstep_par hx.1 e
    exact ⟨this.1, this.2.trans hx.2⟩) _ w ⟨h, rfl⟩
theorem remove_par (cs : List Ca) (ss : List Se) (now : Int) (acts : List Ac) {i : Nat} (hi : i < cs.length) : (removeM cs ss now acts i).1.length = cs.length - 1 ∧ ng (removeM cs ss now acts i).2.2 = ng acts := by
  unfold removeM
  refine ⟨erase_len cs hi, ?_⟩
  simp only
  split
  · simp only; rw [ng_snoc, if_neg (by simp)]; rfl
  · rfl
theorem silence_par (cs : List Ca) (ss : List Se) (now : Int) (acts : List Ac) (k : Nat) (st : Int) : (silenceM cs ss now acts k st).1.length = cs.length ∧ ng (silenceM cs ss now acts k st).2.2 = ng acts := by
  unfold silenceM
  exact ⟨setC_len .., by simp only; rw [ng_snoc, if_neg (by simp)]; rfl⟩
theorem pstep_par {T : Int} {K : Nat} {w w' : Wk} (hg : GW T K w) (h : PW mo mw ri re n0 c0 w) (e : pstep T w = some w') : PW mo mw ri re n0 c0 w' := by
  obtain ⟨cs, ss, m0, m1, m2, m3, now, acts⟩ := w
  obtain ⟨h1, h2, h3, h4, h5, h6⟩ := h
  simp only at h1 h2 h3 h4 h5 h6
  unfold pstep at e
  simp only at e
  split at e
  · cases e
  · rename_i t b i he
    split at e
    · cases e
    · rename_i ht
      obtain ⟨j, rfl, f1, f2, _, _, _, _⟩ := happen_ok (show GQ T K cs ss m1 m2 m3 now acts.length from hg) he (by omega)
      cases e
      rw [Int.toNat_natCast]
      refine (matchM_par (T := T) (w := ((happenM cs ss t acts b j).1, ((happenM cs ss t acts b j).2.1, (m0, (m1, (m2, (m3, (t, (happenM cs ss t acts b j).2.2)))))))) ⟨h1, h2, h3, h4, ?_, ?_⟩).1
      · simp only
        unfold happenM
        split
        · rename_i hb
          have hj := (f1 hb).2.1
          have := remove_par cs ss t acts hj
          simp only; omega
        · split
          · rw [(silence_par cs ss t acts j 4).1]; exact h5
          · exact h5
      · simp only
        unfold happenM
        split
        · rename_i hb
          have hj := (f1 hb).2.1
          have := remove_par cs ss t acts hj
          simp only
          rw [ng_snoc, if_pos (.inr rfl)]
          omega
        · split
          · rw [(silence_par cs ss t acts j 4).1, (silence_par cs ss t acts j 4).2]; exact h6
          · exact h6
theorem passM_par {T : Int} {K : Nat} {w : Wk} (hg : GW T K w) (h : PW mo mw ri re n0 c0 w) : PW mo mw ri re n0 c0 (passM T w) :=
  (iter_inv (f := pstep T) (fun x => GW T K x ∧ PW mo mw ri re n0 c0 x) (fun x y hx e => ⟨(pstep_ok hx.1 e).1, pstep_par hx.1 hx.2 e⟩) _ w ⟨hg, h⟩).2
end
def SB (B : Int) (cs : List Ca) : Prop := ∀ c ∈ cs, c.2.2.1 ≤ B
theorem SB.set {B : Int} {cs : List Ca} (h : SB B cs) (i : Nat) (a : Int) : SB B (setC cs i a) := by
  intro c hc
  unfold setC at hc
  by_cases hi : i < cs.length
  · rcases List.mem_or_eq_of_mem_set hc with e | e
    · exact h c e
    · rw [e]
      have := h _ (List.getElem_mem hi)
      rw [← getD_get dC hi] at this
      exact this
  · rw [List.set_eq_of_length_le (by omega)] at hc
    exact h c hc
theorem SB.erase {B : Int} {cs : List Ca} (h : SB B cs) (i : Nat) : SB B (cs.take i ++ cs.drop (i + 1)) := by
  intro c hc
  rcases List.mem_append.1 hc with e | e
  · exact h c (List.mem_of_mem_take e)
  · exact h c (List.mem_of_mem_drop e)
theorem match_since {B T : Int} {w : Wk} (h : SB B w.1) : SB B (matchM T w).1 :=
  iter_inv (f := mstep) (fun x => SB B x.1) (fun x y hx e => by
    obtain ⟨cs, ss, m0, m1, m2, m3, now, acts⟩ := x
    unfold mstep at e
    simp only at e hx
    split at e
    · cases e; exact hx.set _ _
    · cases e) _ w h
theorem pass_since {B T : Int} {w : Wk} (h : SB B w.1) : SB B (passM T w).1 :=
  iter_inv (f := pstep T) (fun x => SB B x.1) (fun x y hx e => by
    obtain ⟨cs, ss, m0, m1, m2, m3, now, acts⟩ := x
    unfold pstep at e
    simp only at e hx
    split at e
    · cases e
    · split at e
      · cases e
      · cases e
        refine match_since ?_
        simp only
        unfold happenM
        split
        · exact hx.erase _
        · split
          · exact hx.set _ _
          · exact hx) _ w h
theorem May.gq {cs : List Ca} {ss : List Se} {mo mw ri re now T : Int} (h : May cs ss mo mw ri re now) (h1 : now ≤ T) (h2 : T ≤ 1099511627776) (h3 : T - now ≤ 4000000000) : GQ T 2000000000000 cs ss mw ri re now 0 := by
  obtain ⟨⟨s1, s2, s3, s4⟩, n, lc, ls, v, d⟩ := h
  have d2 : ∀ k, k < ss.length → (ss.getD k dS).2.1 = 2 → now ≤ (ss.getD k dS).2.2.1 + ri := fun k hk e => d _ (mem_things.2 (.inr (.inl ⟨k, hk, e, rfl⟩)))
  have d3 : ∀ k, k < ss.length → (ss.getD k dS).2.1 = 4 → now ≤ (ss.getD k dS).2.2.1 + re := fun k hk e => d _ (mem_things.2 (.inr (.inr ⟨k, hk, e, rfl⟩)))
  refine ⟨v, by omega, by omega, n.1, h1, h2, s2, s3, s4, ?_, by omega, fun hm i hi => d _ (mem_things.2 (.inl ⟨hm, i, hi, rfl⟩)), d2, d3⟩
  have hb : (ss.map (phi T now)).sum ≤ ss.length * 13000000000 := sum_bound 13000000000 ss fun x hx => by
    obtain ⟨k, hk, e⟩ := List.mem_iff_getElem.1 hx
    have e' : ss.getD k dS = x := by rw [getD_get dS hk]; exact e
    have a2 := d2 k hk
    have a3 := d3 k hk
    rw [e'] at a2 a3
    unfold phi
    split
    · omega
    · split
      · have := a2 (by assumption); omega
      · split
        · have := a3 (by assumption); omega
        · omega
  have : ss.length * 13000000000 ≤ 100 * 13000000000 := Nat.mul_le_mul_right _ (by omega)
  unfold Phi
  omega
theorem clone_j {α β : Type} (l : List α) (d : α) (m : Int) (hm : 0 ≤ m ∧ m ≤ 100) (hl : l.length ≤ 1000) (f : List α → Option β) :
    joinO (bif (decide ((((List.length l) : Nat) : Int) = (0 : Int))) then
    some (Sum.inl ([] : List α))
   else
    bif (decide (((0 : Int) ≤ (((List.length l) : Nat) : Int)) ∧ (((((List.length l) : Nat) : Int) ≤ (((List.length l) : Nat) : Int)) ∧ ((((((List.length l) : Nat) : Int) * m) ≤ (140737488355328 : Int)) ∧ ((((List.length l) : Nat) : Int) ≤ (9223372036854775807 : Int)))))) then 
     bif (decide ((Int.toNat (((List.length l) : Nat) : Int)) ≤ (List.length (List.replicate (Int.toNat (((List.length l) : Nat) : Int)) d)))) then 
      bif (decide ((Int.toNat (((List.length l) : Nat) : Int)) ≤ (List.length (layL (List.replicate (Int.toNat (((List.length l) : Nat) : Int)) d) 0 (List.take (Int.toNat (((List.length l) : Nat) : Int)) l))))) then 
       some (Sum.inl (List.take (Int.toNat (((List.length l) : Nat) : Int)) (layL (List.replicate (Int.toNat (((List.length l) : Nat) : Int)) d) 0 (List.take (Int.toNat (((List.length l) : Nat) : Int)) l))))
      else none
     else none
    else none) f = f l := by
  by_cases h : l.length = 0
  · have hn := List.length_eq_zero_iff.1 h
    subst hn
    rfl
  · have hx : (l.length : Int) * m ≤ 1000 * 100 := Int.mul_le_mul (by omega) hm.2 hm.1 (by omega)
    have hlay : layL (List.replicate l.length d) 0 l = l := layL_all (by rw [List.length_replicate])
    have h0 : ¬ ((l.length : Int) = 0) := by omega
    simp only [Int.toNat_natCast, List.take_length, hlay, List.length_replicate, Nat.le_refl, decide_true, cond_true, decide_eq_false h0, cond_false]
    rw [decide_eq_true ⟨by omega, Int.le_refl _, by omega, by omega⟩]
    rfl
section
variable {cs : List Ca} {ss : List Se} {mo mw ri re now T num : Int}
theorem beg_no (hc : cs.length ≤ 1000) (hl : ss.length ≤ 1000) (h : ¬ (May cs ss mo mw ri re now ∧ (now ≤ T ∧ T ≤ 1099511627776) ∧ (1 ≤ num ∧ num ≤ 2147483647))) (K : Wk → Option Rt) :
    begB cs ss mo mw ri re now num T K = some (failR 2) ∧ dbegB cs ss mo mw ri re now num T K = some (failR 2) := by
  unfold begB dbegB
  rcases (may_j (cs := cs) (ss := ss) (mo := mo) (mw := mw) (ri := ri) (re := re) (now := now) hc hl).b with ⟨m, e1⟩ | ⟨m, e1⟩
  · have e2 := ((dmay_j (cs := cs) (ss := ss) (mo := mo) (mw := mw) (ri := ri) (re := re) (now := now) hc hl).b.resolve_right fun q => q.1 m)
    have e2 := fun {β : Type} (f : Bool → Option β) => e2.2 f
    by_cases t : now ≤ T ∧ T ≤ 1099511627776
    · have hn : ¬ (1 ≤ num ∧ num ≤ 2147483647) := fun q => h ⟨m, t, q⟩
      constructor
      · simp (disch := (first | omega | (simp only [LNl]; omega))) only [↓SDl, SDr, ↓e1, ↓wit_b]; rfl
      · simp (disch := (first | omega | (simp only [LNl]; omega))) only [↓SDl, SDr, ↓e2, ↓did_b]; rfl
    · constructor
      · simp (disch := (first | omega | (simp only [LNl]; omega))) only [↓SDl, SDr, ↓e1, ↓wit_b]; rfl
      · by_cases t1 : T < now
        · simp (disch := (first | omega | (simp only [LNl]; omega))) only [↓SDl, SDr, ↓e2, ↓did_b]; rfl
        · simp (disch := (first | omega | (simp only [LNl]; omega))) only [↓SDl, SDr, ↓e2, ↓did_b]; rfl
  · have e2 := ((dmay_j (cs := cs) (ss := ss) (mo := mo) (mw := mw) (ri := ri) (re := re) (now := now) hc hl).b.resolve_left fun q => m q.1)
    have e2 := fun {β : Type} (f : Bool → Option β) => e2.2 f
    constructor
    · simp (disch := (first | omega | (simp only [LNl]; omega))) only [↓SDl, SDr, ↓e1]; rfl
    · simp (disch := (first | omega | (simp only [LNl]; omega))) only [↓SDl, SDr, ↓e2]; rfl
theorem beg_yes (m : May cs ss mo mw ri re now) (t : now ≤ T ∧ T ≤ 1099511627776) (hn : 1 ≤ num ∧ num ≤ 2147483647) (h3 : T - now ≤ 4000000000) :
    ∃ cs' ss' n' acts', GQ T 2000000000000 cs' ss' mw ri re T acts'.length ∧ cs'.length ≤ cs.length ∧ cs'.length + ng acts' = cs.length ∧ ((∀ y ∈ things cs' ss' mw ri re, T < y.1) ∧ ∀ B, SB B cs → SB B cs') ∧
      ∀ K, begB cs ss mo mw ri re now num T K = K (cs', (ss', (mo, (mw, (ri, (re, (T, acts'))))))) ∧ dbegB cs ss mo mw ri re now num T K = K (cs', (ss', (mo, (mw, (ri, (re, (n', acts'))))))) := by
  have hg := m.gq t.1 t.2 h3
  have hc := hg.hc
  have hl := hg.hs
  have hpo := passM_ok (T := T) (K := 2000000000000) (w := (cs, (ss, (mo, (mw, (ri, (re, (now, []))))))) ) hg
  have hpp := passM_par (T := T) (K := 2000000000000) (w := (cs, (ss, (mo, (mw, (ri, (re, (now, []))))))) ) (mo := mo) (mw := mw) (ri := ri) (re := re) (n0 := cs.length) (c0 := cs.length) hg ⟨rfl, rfl, rfl, rfl, Nat.le_refl _, rfl⟩
  have hsb := fun (B : Int) (h : SB B cs) => pass_since (B := B) (T := T) (w := (cs, (ss, (mo, (mw, (ri, (re, (now, []))))))) ) h
  have hp1 := fun (δ : Type) => passL_j (δ := δ) (mo := mo) (acts := []) hg
  have hp2 := fun (δ : Type) => dpassL_j (δ := δ) (mo := mo) (acts := []) hg
  generalize passM T (cs, (ss, (mo, (mw, (ri, (re, (now, []))))))) = w at hpo hpp hp1 hp2 hsb
  obtain ⟨c1, s1, m0, m1, m2, m3, n1, a1⟩ := w
  obtain ⟨p1, p2, p3, p4, p5, p6⟩ := hpp
  simp only at p1 p2 p3 p4 p5 p6
  subst p1 p2 p3 p4
  obtain ⟨g, gn⟩ := hpo
  have g : GQ T 2000000000000 c1 s1 m1 m2 m3 n1 a1.length := g
  have hdue : ∀ y ∈ things c1 s1 m1 m2 m3, T < y.1 := by
    unfold pstep at gn
    simp only at gn
    cases hev : evt c1 s1 m1 m2 m3 with
    | none =>
      intro y hy
      rw [pick_none.1 hev] at hy
      cases hy
    | some x =>
      rw [hev] at gn
      obtain ⟨t0, b, i⟩ := x
      simp only at gn
      have ht : t0 > T := by
        by_cases q : t0 > T
        · exact q
        · rw [if_neg q] at gn; cases gn
      intro y hy
      have := (evt_min hev).2 y hy
      simp only at this
      omega
  have gT := (later_ok g g.hT (Int.le_refl _) (fun y hy => by have := hdue y hy; omega)).1
  refine ⟨c1, s1, n1, a1, gT, p5, p6, ⟨hdue, hsb⟩, fun K => ⟨?_, ?_⟩⟩
  · have e1 := ((may_j (cs := cs) (ss := ss) (mo := m0) (mw := m1) (ri := m2) (re := m3) (now := now) (by omega) (by omega)).b.resolve_right fun q => q.1 m)
    have e1 := fun {β : Type} (f : Bool → Option β) => e1.2 f
    have k1 := fun (β : Type) (f : List Ca → Option β) => clone_j cs ((0 : Int), ((0 : Int), ((0 : Int), (0 : Int)))) 32 (by omega) (by omega) f
    have k2 := fun (β : Type) (f : List Se → Option β) => clone_j ss ((0 : Int), ((0 : Int), ((0 : Int), ((0 : Int), (0 : Int))))) 40 (by omega) (by omega) f
    unfold begB
    simp only [k1, k2]
    simp (disch := (first | omega | (simp only [LNl]; omega))) only [↓SDl, SDr, ↓e1, ↓wit_b, hp1]
  · have e2 := ((dmay_j (cs := cs) (ss := ss) (mo := m0) (mw := m1) (ri := m2) (re := m3) (now := now) (by omega) (by omega)).b.resolve_right fun q => q.1 m)
    have e2 := fun {β : Type} (f : Bool → Option β) => e2.2 f
    unfold dbegB
    simp (disch := (first | omega | (simp only [LNl]; omega))) only [↓SDl, SDr, ↓e2, ↓did_b, hp2]
end
end Go.Proofs.Ytkmfgldoljegoaa
