import Derived.Test.YtkmfgldoljegoaaP2p
set_option linter.unusedVariables false
set_option linter.unusedSimpArgs false
set_option maxRecDepth 100000
set_option maxHeartbeats 4000000
namespace Go.Proofs.Ytkmfgldoljegoaa
open Go.RowKit
theorem thgs_eq (a1 : List Ca) (a2 : List Se) (a3 a4 a5 a6 a7 : Int) : queues_things (a1, (a2, (a3, (a4, (a5, (a6, a7)))))) =

  joinO (bif (decide (a4 ≠ (0 : Int))) then
    loopO (tgcB a1 a4) ((0 : Int), ([] : List (Int × (Bool × Int))))
   else
    some (Sum.inl ([] : List (Int × (Bool × Int))))) fun v14 =>
  joinO (bif (decide ((List.length v14) ≤ (List.length v14))) then 
    loopO (tgsB a2 a5 a6) ((0 : Int), (List.take (List.length v14) v14))
   else none) fun v25 =>
  bif (decide ((List.length v25) ≤ (List.length v25))) then 
   some (List.take (List.length v25) v25)
  else none := by kernel_rfl
noncomputable def mayLB (x12 : List Th) (a7 : Int) : Int → Option (Int ⊕ (Unit ⊕ Bool)) :=
(fun v13 =>
 bif (decide (v13 < (((List.length x12) : Nat) : Int))) then
 bif (decide (((0 : Int) ≤ v13) ∧ (v13 < (((List.length x12) : Nat) : Int)))) then 
 bindO x12[(Int.toNat v13)]? fun x14 =>
 bif (decide (x14.1 < a7)) then
 outO (outO (some Bool.false))
 else
 some (Sum.inl (Go.IntKind.wrap .i64 (v13 + (1 : Int))))
 else none
 else
 outO (some (Sum.inl ())))
theorem may_eq (a1 : List Ca) (a2 : List Se) (a3 a4 a5 a6 a7 : Int) : queues_MayQueue (a1, (a2, (a3, (a4, (a5, (a6, a7)))))) =

  joinO (bindO (queues_bounded (a1, (a2, (a3, (a4, (a5, (a6, a7))))))) fun x8 =>
   bif (!x8) then
    outO (some Bool.false)
   else
    bindO (queues_within (a7, ((0 : Int), (1099511627776 : Int)))) fun x9 =>
    bif (!x9) then
     outO (some Bool.false)
    else
     bif (decide ((((List.length a1) : Nat) : Int) > a3)) then
      outO (some Bool.false)
     else
      bif (decide ((((List.length a2) : Nat) : Int) > (100 : Int))) then
       outO (some Bool.false)
      else
       some (Sum.inl ())) fun _ =>
  bindO (queues_mayCallers (a1, (a2, (a3, (a4, (a5, (a6, a7))))))) fun x10 =>
  bif (!x10) then
   some Bool.false
  else
   bindO (queues_maySeats (a1, (a2, (a3, (a4, (a5, (a6, a7))))))) fun x11 =>
   bif (!x11) then
    some Bool.false
   else
    joinO (bindO (queues_things (a1, (a2, (a3, (a4, (a5, (a6, a7))))))) fun x12 =>
     loopO (mayLB x12 a7) (0 : Int)) fun _ =>
    some Bool.true := by kernel_rfl
theorem mono_le {n : Nat} (f : Nat → Int) (h : ∀ i, i + 1 < n → f i ≤ f (i + 1)) : ∀ i j, i ≤ j → j < n → f i ≤ f j := by
  intro i j hij hj
  induction j with
  | zero => rw [show i = 0 from by omega]; exact Int.le_refl _
  | succ j ih =>
    by_cases e : i = j + 1
    · rw [e]; exact Int.le_refl _
    · have := ih (by omega) (by omega)
      have := h j hj
      omega
theorem mono_lt {n : Nat} (f : Nat → Int) (h : ∀ i, i + 1 < n → f i < f (i + 1)) : ∀ i j, i < j → j < n → f i < f j := by
  intro i j hij hj
  induction j with
  | zero => omega
  | succ j ih =>
    have := h j hj
    by_cases e : i = j
    · rw [e]; exact this
    · have := ih (by omega) (by omega)
      omega
theorem getD_t (ss : List Se) {j k : Nat} (h : j < k) : (ss.take k).getD j dS = ss.getD j dS := getD_take ss dS h
theorem vq_P (cs : List Ca) (ss : List Se) (now : Int) : ((∀ i, i < cs.length → PC cs ss now i) ∧ ∀ k, k < ss.length → PS cs ss now k) ↔ VQ cs ss now := by
  constructor
  · rintro ⟨hc, hs⟩
    have mc : ∀ i j, i ≤ j → j < cs.length → (cs.getD i dC).2.2.1 ≤ (cs.getD j dC).2.2.1 := mono_le (fun i => (cs.getD i dC).2.2.1) fun i hi => (hc (i + 1) hi).2.2.1.1
    have ms : ∀ i j, i < j → j < ss.length → (ss.getD i dS).1 < (ss.getD j dS).1 := mono_lt (fun i => (ss.getD i dS).1) fun i hi => by
      have : (ss.getD i dS).1 + 1 ≤ (ss.getD (i + 1) dS).1 := (hs (i + 1) hi).1.1
      show (ss.getD i dS).1 < (ss.getD (i + 1) dS).1
      omega
    have c0 : ∀ i, i < cs.length → 0 ≤ (cs.getD i dC).2.2.1 := fun i hi => by
      have h0 : (0 : Int) ≤ (cs.getD 0 dC).2.2.1 := (hc 0 (by omega)).2.2.1.1
      have := mc 0 i (Nat.zero_le _) hi
      omega
    have s0 : ∀ i, i < ss.length → 1 ≤ (ss.getD i dS).1 := fun i hi => by
      have h0 : (0 : Int) + 1 ≤ (ss.getD 0 dS).1 := (hs 0 (by omega)).1.1
      by_cases e : i = 0
      · rw [e]; omega
      · have := ms 0 i (by omega) hi
        omega
    constructor
    · intro i hi
      obtain ⟨h1, h2, h3, h4, h5⟩ := hc i hi
      have := c0 i hi
      exact ⟨h1.1, h1.2, h2.1, h2.2, this, h3.2⟩
    · intro i j hij hj
      exact ⟨(hc j hj).2.2.2.1 i hij, mc i j (by omega) hj⟩
    · intro k hk
      obtain ⟨h1, h2, h3, h4⟩ := hs k hk
      have := s0 k hk
      refine ⟨this, h1.2, ?_, ?_, h2.1, h2.2, h3.1, h3.2⟩
      · show 1 ≤ (ss.getD k dS).2.1; rcases h4 with ⟨q | q, _⟩ | ⟨q, _⟩ | ⟨q, _⟩ <;> omega
      · show (ss.getD k dS).2.1 ≤ 4; rcases h4 with ⟨q | q, _⟩ | ⟨q, _⟩ | ⟨q, _⟩ <;> omega
    · exact ms
    · intro k hk hst
      obtain ⟨_, _, _, h4⟩ := hs k hk
      rcases h4 with ⟨_, q⟩ | ⟨q, _⟩ | ⟨q, _⟩
      · exact q
      · exfalso; have hst : (ss.getD k dS).2.1 = 1 ∨ (ss.getD k dS).2.1 = 4 := hst; omega
      · exfalso; have hst : (ss.getD k dS).2.1 = 1 ∨ (ss.getD k dS).2.1 = 4 := hst; omega
    · intro k hk hst
      have hst : (ss.getD k dS).2.1 = 3 := hst
      obtain ⟨_, _, _, h4⟩ := hs k hk
      rcases h4 with ⟨q | q, _⟩ | ⟨q, _⟩ | ⟨_, q, _⟩
      · omega
      · omega
      · omega
      · exact q
    · intro i hi hne
      obtain ⟨k, k1, k2, k3, k4⟩ := (hc i hi).2.2.2.2 hne
      rcases idxT_cases ss (cs.getD i dC).2.2.2 with ⟨e, _⟩ | ⟨k', e, e2, e3⟩
      · omega
      · have : k' = k := by omega
        subst this
        exact ⟨k', k2, e3, k3, k4⟩
    · intro k hk hst
      have hst : (ss.getD k dS).2.1 = 2 := hst
      obtain ⟨_, _, _, h4⟩ := hs k hk
      rcases h4 with ⟨q | q, _⟩ | ⟨_, _, i, i1, i2, i3⟩ | ⟨q, _⟩
      · omega
      · omega
      · rcases idxC_cases cs (ss.getD k dS).2.2.2.1 with ⟨e, _⟩ | ⟨i', e, e2, e3⟩
        · omega
        · have : i' = i := by omega
          subst this
          exact ⟨i', i2, e3, i3⟩
      · omega
    · intro k hk hst i hi
      have hst : (ss.getD k dS).2.1 = 3 := hst
      obtain ⟨_, _, _, h4⟩ := hs k hk
      rcases h4 with ⟨q | q, _⟩ | ⟨q, _⟩ | ⟨_, _, q, _⟩
      · omega
      · omega
      · omega
      · rcases idxC_cases cs (ss.getD k dS).2.2.2.1 with ⟨_, e⟩ | ⟨i', e, _⟩
        · exact e i hi
        · omega
    · intro j k hjk hk hj3 hk3
      have hk3 : (ss.getD k dS).2.1 = 3 := hk3
      obtain ⟨_, _, _, h4⟩ := hs k hk
      rcases h4 with ⟨q | q, _⟩ | ⟨q, _⟩ | ⟨_, _, _, q⟩
      · omega
      · omega
      · omega
      · intro e
        refine q ⟨j, by rw [List.length_take]; omega, ?_⟩
        rw [getD_t ss hjk]
        exact ⟨hj3, e⟩
  · intro h
    refine ⟨fun i hi => ?_, fun k hk => ?_⟩
    · have h1 := VF.ca h i hi
      refine ⟨⟨h1.1, h1.2.1⟩, ⟨h1.2.2.1, h1.2.2.2.1⟩, ⟨?_, h1.2.2.2.2.2⟩, fun j hj => (VF.cd h j i hj hi).1, fun hne => ?_⟩
      · cases i with
        | zero => exact h1.2.2.2.2.1
        | succ p => exact (VF.cd h p (p + 1) (by omega) hi).2
      · obtain ⟨k, k1, k2, k3, k4, k5⟩ := ringer h hi hne
        exact ⟨k, k2, k1, k4, k5⟩
    · have h1 := VF.se h k hk
      refine ⟨⟨?_, h1.2.1⟩, ⟨h1.2.2.2.2.1, h1.2.2.2.2.2.1⟩, ⟨h1.2.2.2.2.2.2.1, h1.2.2.2.2.2.2.2⟩, ?_⟩
      · cases k with
        | zero => have := h1.1; show (0 : Int) + 1 ≤ _; exact this
        | succ p => have := VF.sd h p (p + 1) (by omega) hk; show (ss.getD p dS).1 + 1 ≤ _; exact this
      · have l1 : 1 ≤ (ss.getD k dS).2.1 := h1.2.2.1
        have l2 : (ss.getD k dS).2.1 ≤ 4 := h1.2.2.2.1
        by_cases n1 : (ss.getD k dS).2.1 = 1
        · exact .inl ⟨.inl n1, VF.f0 h k hk (.inl n1)⟩
        · by_cases n4 : (ss.getD k dS).2.1 = 4
          · exact .inl ⟨.inr n4, VF.f0 h k hk (.inr n4)⟩
          · by_cases n2 : (ss.getD k dS).2.1 = 2
            · obtain ⟨i, i1, i2, i3, i4⟩ := ringee h hk n2
              have := VF.ca h i i1
              refine .inr (.inl ⟨n2, by rw [← i3]; exact this.1, i, i2, i1, i4⟩)
            · have n3 : (ss.getD k dS).2.1 = 3 := by omega
              refine .inr (.inr ⟨n3, VF.f1 h k hk n3, idxC_none fun j hj => VF.b1 h k hk n3 j hj, ?_⟩)
              rintro ⟨j, hj, e1, e2⟩
              rw [List.length_take] at hj
              rw [getD_t ss (show j < k from by omega)] at e1 e2
              exact VF.b2 h j k (by omega) hk e1 n3 e2
def Sizes (mo mw ri re : Int) : Prop := (1 ≤ mo ∧ mo ≤ 100) ∧ (0 ≤ mw ∧ mw ≤ 86400000) ∧ (1 ≤ ri ∧ ri ≤ 86400000) ∧ (0 ≤ re ∧ re ≤ 86400000)
theorem bnd_j (a1 : List Ca) (a2 : List Se) (a3 a4 a5 a6 a7 : Int) : Is (queues_bounded (a1, (a2, (a3, (a4, (a5, (a6, a7))))))) (Sizes a3 a4 a5 a6) := by
  unfold queues_bounded Sizes
  by_cases h1 : 1 ≤ a3 ∧ a3 ≤ 100
  · by_cases h2 : 0 ≤ a4 ∧ a4 ≤ 86400000
    · by_cases h3 : 1 ≤ a5 ∧ a5 ≤ 86400000
      · by_cases h4 : 0 ≤ a6 ∧ a6 ≤ 86400000
        · simp only [wit_b, decide_eq_true h1, decide_eq_true h2, decide_eq_true h3, decide_eq_true h4, cond_true]
          exact .inl ⟨⟨h1, h2, h3, h4⟩, rfl⟩
        · simp only [wit_b, decide_eq_true h1, decide_eq_true h2, decide_eq_true h3, decide_eq_false h4, cond_true]
          exact .inr ⟨fun q => h4 q.2.2.2, rfl⟩
      · simp only [wit_b, decide_eq_true h1, decide_eq_true h2, decide_eq_false h3, cond_true, cond_false]
        exact .inr ⟨fun q => h3 q.2.2.1, rfl⟩
    · simp only [wit_b, decide_eq_true h1, decide_eq_false h2, cond_true, cond_false]
      exact .inr ⟨fun q => h2 q.2.1, rfl⟩
  · simp only [wit_b, decide_eq_false h1, cond_true, cond_false]
    exact .inr ⟨fun q => h1 q.1, rfl⟩
theorem siz_j (a1 : List Ca) (a2 : List Se) (a3 a4 a5 a6 a7 : Int) : Is (dialtoneref36_sizes (a1, (a2, (a3, (a4, (a5, (a6, a7))))))) (Sizes a3 a4 a5 a6) := by
  unfold dialtoneref36_sizes Sizes
  by_cases h1 : 1 ≤ a3 ∧ a3 ≤ 100
  · by_cases h2 : 0 ≤ a4 ∧ a4 ≤ 86400000
    · by_cases h3 : 1 ≤ a5 ∧ a5 ≤ 86400000
      · by_cases h4 : 0 ≤ a6 ∧ a6 ≤ 86400000
        · simp only [frm_b, decide_eq_true h1, decide_eq_true h2, decide_eq_true h3, decide_eq_true h4, cond_true]
          exact .inl ⟨⟨h1, h2, h3, h4⟩, rfl⟩
        · simp only [frm_b, decide_eq_true h1, decide_eq_true h2, decide_eq_true h3, decide_eq_false h4, cond_true]
          exact .inr ⟨fun q => h4 q.2.2.2, rfl⟩
      · simp only [frm_b, decide_eq_true h1, decide_eq_true h2, decide_eq_false h3, cond_true, cond_false]
        exact .inr ⟨fun q => h3 q.2.2.1, rfl⟩
    · simp only [frm_b, decide_eq_true h1, decide_eq_false h2, cond_true, cond_false]
      exact .inr ⟨fun q => h2 q.2.1, rfl⟩
  · simp only [frm_b, decide_eq_false h1, cond_true, cond_false]
    exact .inr ⟨fun q => h1 q.1, rfl⟩
def May (cs : List Ca) (ss : List Se) (mo mw ri re now : Int) : Prop := Sizes mo mw ri re ∧ (0 ≤ now ∧ now ≤ 1099511627776) ∧ ((cs.length : Int) ≤ mo) ∧ ((ss.length : Int) ≤ 100) ∧ VQ cs ss now ∧ ∀ y ∈ things cs ss mw ri re, now ≤ y.1
section
variable {cs : List Ca} {ss : List Se} {mo mw ri re now : Int}
theorem sinceC (h : VQ cs ss now) (h2 : now ≤ 1099511627776) : ∀ i, i < cs.length → 0 ≤ (cs.getD i dC).2.2.1 ∧ (cs.getD i dC).2.2.1 ≤ 1099511627776 := fun i hi => by
  have := VF.ca h i hi
  omega
theorem sinceS (h : VQ cs ss now) (h2 : now ≤ 1099511627776) : ∀ i, i < ss.length → 0 ≤ (ss.getD i dS).2.2.1 ∧ (ss.getD i dS).2.2.1 ≤ 1099511627776 := fun i hi => by
  have := VF.se h i hi
  omega
theorem thgs_j (h : VQ cs ss now) (h2 : now ≤ 1099511627776) (hs : Sizes mo mw ri re) (hc : cs.length ≤ 1000) (hl : ss.length ≤ 1000) : queues_things (cs, (ss, (mo, (mw, (ri, (re, now)))))) = some (things cs ss mw ri re) := by
  rw [thgs_eq]
  obtain ⟨_, hw, hi, he⟩ := hs
  unfold things tgC
  by_cases e : mw = 0
  · subst e
    simp only [ne_eq, not_true_eq_false, decide_false, cond_false, joinO_inl, if_false, List.nil_append]
    simp (disch := (first | omega | (simp only [LNl]; omega))) only [↓SDl, SDr, List.take_nil, tgs_j ss ri re hl [] (Nat.zero_le _) (sinceS h h2) ⟨by omega, by omega⟩ he, List.nil_append]
  · have hln := flat_len (gC cs mw) (gC_len cs mw) cs.length
    simp (disch := (first | omega | (simp only [LNl]; omega))) only [↓SDl, SDr, ne_eq, e, not_false_eq_true, decide_true, tgc_j cs mw hc (sinceC h h2) hw, List.nil_append]
    rw [tgs_j ss ri re hl _ (by omega) (sinceS h h2) ⟨by omega, by omega⟩ he]
    rfl
theorem mayL_j (L : List Th) (now : Int) (hl : L.length ≤ 2000) : ((∀ i, i < L.length → now ≤ (L.getD i dT).1) ∧ loopO (mayLB L now) 0 = some (.inl ())) ∨ (¬ (∀ i, i < L.length → now ≤ (L.getD i dT).1) ∧ loopO (mayLB L now) 0 = some (.inr false)) := by
  refine loop_all (body := mayLB L now) L.length (fun i => now ≤ (L.getD i dT).1) _ _ (fun i hi hb => ?_) (fun i hi hb => ?_) ?_
  · obtain ⟨x, hx, hxb⟩ := get_at dT hi
    rw [hx] at hb
    unfold mayLB
    simp (disch := (first | omega | (simp only [LNl]; omega))) only [↓SDl, SDr, if_pos, if_neg, ↓hxb, wrap_i64']
    rfl
  · obtain ⟨x, hx, hxb⟩ := get_at dT hi
    rw [hx] at hb
    unfold mayLB
    simp (disch := (first | omega | (simp only [LNl]; omega))) only [↓SDl, SDr, if_pos, if_neg, ↓hxb]
  · unfold mayLB
    simp (disch := (first | omega | (simp only [LNl]; omega))) only [↓SDl, SDr, if_neg]
theorem all_getD {α : Type} (L : List α) (d : α) (p : α → Prop) : (∀ i, i < L.length → p (L.getD i d)) ↔ ∀ y ∈ L, p y := by
  constructor
  · intro h y hy
    obtain ⟨i, hi, e⟩ := List.mem_iff_getElem.1 hy
    have := h i hi
    rwa [getD_get d hi, e] at this
  · intro h i hi
    rw [getD_get d hi]
    exact h _ (List.getElem_mem hi)
theorem may_j (hc : cs.length ≤ 1000) (hl : ss.length ≤ 1000) : Is (queues_MayQueue (cs, (ss, (mo, (mw, (ri, (re, now))))))) (May cs ss mo mw ri re now) := by
  rw [may_eq]
  unfold May
  rcases (bnd_j cs ss mo mw ri re now).b with ⟨b1, e1⟩ | ⟨b1, e1⟩
  · by_cases b2 : 0 ≤ now ∧ now ≤ 1099511627776
    · by_cases b3 : (cs.length : Int) ≤ mo
      · by_cases b4 : (ss.length : Int) ≤ 100
        · have hv := vq_P cs ss now
          rcases (mcl_j cs ss mo mw ri re now hc hl).b with ⟨b5, e5⟩ | ⟨b5, e5⟩
          · rcases (mse_j cs ss mo mw ri re now hc hl).b with ⟨b6, e6⟩ | ⟨b6, e6⟩
            · have hvq := hv.1 ⟨b5, b6⟩
              have ht := thgs_j (mo := mo) hvq b2.2 b1 hc hl
              have hln := things_len cs ss mw ri re
              have ha := all_getD (things cs ss mw ri re) dT (fun y => now ≤ y.1)
              rcases mayL_j (things cs ss mw ri re) now (by omega) with ⟨b7, e7⟩ | ⟨b7, e7⟩
              · simp (disch := (first | omega | (simp only [LNl]; omega))) only [↓SDl, SDr, ↓e1, ↓e5, ↓e6, ↓wit_b, ht, e7]
                exact .inl ⟨⟨b1, b2, b3, b4, hvq, ha.1 b7⟩, rfl⟩
              · simp (disch := (first | omega | (simp only [LNl]; omega))) only [↓SDl, SDr, ↓e1, ↓e5, ↓e6, ↓wit_b, ht, e7]
                exact .inr ⟨fun q => b7 (ha.2 q.2.2.2.2.2), rfl⟩
            · simp (disch := (first | omega | (simp only [LNl]; omega))) only [↓SDl, SDr, ↓e1, ↓e5, ↓e6, ↓wit_b]
              exact .inr ⟨fun q => b6 (hv.2 q.2.2.2.2.1).2, rfl⟩
          · simp (disch := (first | omega | (simp only [LNl]; omega))) only [↓SDl, SDr, ↓e1, ↓e5, ↓wit_b]
            exact .inr ⟨fun q => b5 (hv.2 q.2.2.2.2.1).1, rfl⟩
        · simp (disch := (first | omega | (simp only [LNl]; omega))) only [↓SDl, SDr, ↓e1, ↓wit_b]
          exact .inr ⟨fun q => b4 q.2.2.2.1, rfl⟩
      · simp (disch := (first | omega | (simp only [LNl]; omega))) only [↓SDl, SDr, ↓e1, ↓wit_b]
        exact .inr ⟨fun q => b3 q.2.2.1, rfl⟩
    · simp (disch := (first | omega | (simp only [LNl]; omega))) only [↓SDl, SDr, ↓e1, ↓wit_b]
      exact .inr ⟨fun q => b2 q.2.1, rfl⟩
  · simp (disch := (first | omega | (simp only [LNl]; omega))) only [↓SDl, SDr, ↓e1]
    exact .inr ⟨fun q => b1 q.1, rfl⟩
end
