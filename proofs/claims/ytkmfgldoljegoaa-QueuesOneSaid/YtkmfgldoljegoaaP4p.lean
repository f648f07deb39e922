import Derived.Test.YtkmfgldoljegoaaP3p
set_option linter.unusedVariables false
set_option linter.unusedSimpArgs false
set_option maxRecDepth 100000
set_option maxHeartbeats 4000000
namespace Go.Proofs.Ytkmfgldoljegoaa
open Go.RowKit
theorem thgs_eq (a1 : List Ca) (a2 : List Se) (a3 a4 a5 a6 a7 : Int) : queues_things (a1, (a2, (a3, (a4, (a5, (a6, a7)))))) =

  joinO (bif (decide (a4 ≠ (0 : Int))) then
    loopO (tgcB a1 a4) ((0 : Int), ([] : List (Int × (Bool × Int))))
   else
    some (Sum.inl ([] : List (Int × (Bool × Int))))) fun v14 =>
  joinO (bif (decide ((List.length v14) ≤ (List.length v14))) then 
    loopO (tgsB a2 a5 a6) ((0 : Int), (List.take (List.length v14) v14))
   else none) fun v25 =>
  bif (decide ((List.length v25) ≤ (List.length v25))) then 
   some (List.take (List.length v25) v25)
  else none := by kernel_rfl
noncomputable def mayLB (x12 : List Th) (a7 : Int) : Int → Option (Int ⊕ (Unit ⊕ Bool)) :=
(fun v13 =>
 bif (decide (v13 < (((List.length x12) : Nat) : Int))) then
 bif (decide (((0 : Int) ≤ v13) ∧ (v13 < (((List.length x12) : Nat) : Int)))) then 
 bindO x12[(Int.toNat v13)]? fun x14 =>
 bif (decide (x14.1 < a7)) then
 outO (outO (some Bool.false))
 else
 some (Sum.inl (Go.IntKind.wrap .i64 (v13 + (1 : Int))))
 else none
 else
 outO (some (Sum.inl ())))
theorem may_eq (a1 : List Ca) (a2 : List Se) (a3 a4 a5 a6 a7 : Int) : queues_MayQueue (a1, (a2, (a3, (a4, (a5, (a6, a7)))))) =

  joinO (bindO (queues_bounded (a1, (a2, (a3, (a4, (a5, (a6, a7))))))) fun x8 =>
   bif (!x8) then
    outO (some Bool.false)
   else
    bindO (queues_within (a7, ((0 : Int), (1099511627776 : Int)))) fun x9 =>
    bif (!x9) then
     outO (some Bool.false)
    else
     bif (decide ((((List.length a1) : Nat) : Int) > a3)) then
      outO (some Bool.false)
     else
      bif (decide ((((List.length a2) : Nat) : Int) > (100 : Int))) then
       outO (some Bool.false)
      else
       some (Sum.inl ())) fun _ =>
  bindO (queues_mayCallers (a1, (a2, (a3, (a4, (a5, (a6, a7))))))) fun x10 =>
  bif (!x10) then
   some Bool.false
  else
   bindO (queues_maySeats (a1, (a2, (a3, (a4, (a5, (a6, a7))))))) fun x11 =>
   bif (!x11) then
    some Bool.false
   else
    joinO (bindO (queues_things (a1, (a2, (a3, (a4, (a5, (a6, a7))))))) fun x12 =>
     loopO (mayLB x12 a7) (0 : Int)) fun _ =>
    some Bool.true := by kernel_rfl
theorem mono_le {n : Nat} (f : Nat → Int) (h : ∀ i, i + 1 < n → f i ≤ f (i + 1)) : ∀ i j, i ≤ j → j < n → f i ≤ f j := by
  intro i j hij hj
  induction j with
  | zero => rw [show i = 0 from by omega]; exact Int.le_refl _
  | succ j ih =>
    by_cases e : i = j + 1
    · rw [e]; exact Int.le_refl _
    · have := ih (by omega) (by omega)
      have := h j hj
      omega
theorem mono_lt {n : Nat} (f : Nat → Int) (h : ∀ i, i + 1 < n → f i < f (i + 1)) : ∀ i j, i < j → j < n → f i < f j := by
  intro i j hij hj
  induction j with
  | zero => omega
  | succ j ih =>
    have := h j hj
    by_cases e : i = j
    · rw [e]; exact this
    · have := ih (by omega) (by omega)
      omega
theorem getD_t (ss : List Se) {j k : Nat} (h : j < k) : (ss.take k).getD j dS = ss.getD j dS := getD_take ss dS h
theorem vq_P (cs : List Ca) (ss : List Se) (now : Int) : ((∀ i, i < cs.length → PC cs ss now i) ∧ ∀ k, k < ss.length → PS cs ss now k) ↔ VQ cs ss now := by
  constructor
  · rintro ⟨hc, hs⟩
    have mc : ∀ i j, i ≤ j → j < cs.length → (cs.getD i dC).2.2.1 ≤ (cs.getD j dC).2.2.1 := mono_le (fun i => (cs.getD i dC).2.2.1) fun i hi => (hc (i + 1) hi).2.2.1.1
    have ms : ∀ i j, i < j → j < ss.length → (ss.getD i dS).1 < (ss.getD j dS).1 := mono_lt (fun i => (ss.getD i dS).1) fun i hi => by
      have : (ss.getD i dS).1 + 1 ≤ (ss.getD (i + 1) dS).1 := (hs (i + 1) hi).1.1
      show (ss.getD i dS).1 < (ss.getD (i + 1) dS).1
      omega
    have c0 : ∀ i, i < cs.length → 0 ≤ (cs.getD i dC).2.2.1 := fun i hi => by
      have h0 : (0 : Int) ≤ (cs.getD 0 dC).2.2.1 := (hc 0 (by omega)).2.2.1.1
      have := mc 0 i (Nat.zero_le _) hi
      omega
    have s0 : ∀ i, i < ss.length → 1 ≤ (ss.getD i dS).1 := fun i hi => by
      have h0 : (0 : Int) + 1 ≤ (ss.getD 0 dS).1 := (hs 0 (by omega)).1.1
      by_cases e : i = 0
      · rw [e]; omega
      · have := ms 0 i (by omega) hi
        omega
    constructor
    · intro i hi
      obtain ⟨h1, h2, h3, h4, h5⟩ := hc i hi
      have := c0 i hi
      exact ⟨h1.1, h1.2, h2.1, h2.2, this, h3.2⟩
    · intro i j hij hj
      exact ⟨(hc j hj).2.2.2.1 i hij, mc i j (by omega) hj⟩
    · intro k hk
      obtain ⟨h1, h2, h3, h4⟩ := hs k hk
      have := s0 k hk
      refine ⟨this, h1.2, ?_, ?_, h2.1, h2.2, h3.1, h3.2⟩
      · show 1 ≤ (ss.getD k dS).2.1; rcases h4 with ⟨q | q, _⟩ | ⟨q, _⟩ | ⟨q, _⟩ <;> omega
      · show (ss.getD k dS).2.1 ≤ 4; rcases h4 with ⟨q | q, _⟩ | ⟨q, _⟩ | ⟨q, _⟩ <;> omega
    · exact ms
    · intro k hk hst
      obtain ⟨_, _, _, h4⟩ := hs k hk
      rcases h4 with ⟨_, q⟩ | ⟨q, _⟩ | ⟨q, _⟩
      · exact q
      · exfalso; have hst : (ss.getD k dS).2.1 = 1 ∨ (ss.getD k dS).2.1 = 4 := hst; omega
      · exfalso; have hst : (ss.getD k dS).2.1 = 1 ∨ (ss.getD k dS).2.1 = 4 := hst; omega
    · intro k hk hst
      have hst : (ss.getD k dS).2.1 = 3 := hst
      obtain ⟨_, _, _, h4⟩ := hs k hk
      rcases h4 with ⟨q | q, _⟩ | ⟨q, _⟩ | ⟨_, q, _⟩
      · omega
      · omega
      · omega
      · exact q
    · intro i hi hne
      obtain ⟨k, k1, k2, k3, k4⟩ := (hc i hi).2.2.2.2 hne
      rcases idxT_cases ss (cs.getD i dC).2.2.2 with ⟨e, _⟩ | ⟨k', e, e2, e3⟩
      · omega
      · have : k' = k := by omega
        subst this
        exact ⟨k', k2, e3, k3, k4⟩
    · intro k hk hst
      have hst : (ss.getD k dS).2.1 = 2 := hst
      obtain ⟨_, _, _, h4⟩ := hs k hk
      rcases h4 with ⟨q | q, _⟩ | ⟨_, _, i, i1, i2, i3⟩ | ⟨q, _⟩
      · omega
      · omega
      · rcases idxC_cases cs (ss.getD k dS).2.2.2.1 with ⟨e, _⟩ | ⟨i', e, e2, e3⟩
        · omega
        · have : i' = i := by omega
          subst this
          exact ⟨i', i2, e3, i3⟩
      · omega
    · intro k hk hst i hi
      have hst : (ss.getD k dS).2.1 = 3 := hst
      obtain ⟨_, _, _, h4⟩ := hs k hk
      rcases h4 with ⟨q | q, _⟩ | ⟨q, _⟩ | ⟨_, _, q, _⟩
      · omega
      · omega
      · omega
      · rcases idxC_cases cs (ss.getD k dS).2.2.2.1 with ⟨_, e⟩ | ⟨i', e, _⟩
        · exact e i hi
        · omega
    · intro j k hjk hk hj3 hk3
      have hk3 : (ss.getD k dS).2.1 = 3 := hk3
      obtain ⟨_, _, _, h4⟩ := hs k hk
      rcases h4 with ⟨q | q, _⟩ | ⟨q, _⟩ | ⟨_, _, _, q⟩
      · omega
      · omega
      · omega
      · intro e
        refine q ⟨j, by rw [List.length_take]; omega, ?_⟩
        rw [getD_t ss hjk]
        exact ⟨hj3, e⟩
  · intro h
    refine ⟨fun i hi => ?_, fun k hk => ?_⟩
    · have h1 := VF.ca h i hi
      refine ⟨⟨h1.1, h1.2.1⟩, ⟨h1.2.2.1, h1.2.2.2.1⟩, ⟨?_, h1.2.2.2.2.2⟩, fun j hj => (VF.cd h j i hj hi).1, fun hne => ?_⟩
      · cases i with
        | zero => exact h1.2.2.2.2.1
        | succ p => exact (VF.cd h p (p + 1) (by omega) hi).2
      · obtain ⟨k, k1, k2, k3, k4, k5⟩ := ringer h hi hne
        exact ⟨k, k2, k1, k4, k5⟩
    · have h1 := VF.se h k hk
      refine ⟨⟨?_, h1.2.1⟩, ⟨h1.2.2.2.2.1, h1.2.2.2.2.2.1⟩, ⟨h1.2.2.2.2.2.2.1, h1.2.2.2.2.2.2.2⟩, ?_⟩
      · cases k with
        | zero => have := h1.1; show (0 : Int) + 1 ≤ _; exact this
        | succ p => have := VF.sd h p (p + 1) (by omega) hk; show (ss.getD p dS).1 + 1 ≤ _; exact this
      · have l1 : 1 ≤ (ss.getD k dS).2.1 := h1.2.2.1
        have l2 : (ss.getD k dS).2.1 ≤ 4 := h1.2.2.2.1
        by_cases n1 : (ss.getD k dS).2.1 = 1
        · exact .inl ⟨.inl n1, VF.f0 h k hk (.inl n1)⟩
        · by_cases n4 : (ss.getD k dS).2.1 = 4
          · exact .inl ⟨.inr n4, VF.f0 h k hk (.inr n4)⟩
          · by_cases n2 : (ss.getD k dS).2.1 = 2
            · obtain ⟨i, i1, i2, i3, i4⟩ := ringee h hk n2
              have := VF.ca h i i1
              refine .inr (.inl ⟨n2, by rw [← i3]; exact this.1, i, i2, i1, i4⟩)
            · have n3 : (ss.getD k dS).2.1 = 3 := by omega
              refine .inr (.inr ⟨n3, VF.f1 h k hk n3, idxC_none fun j hj => VF.b1 h k hk n3 j hj, ?_⟩)
              rintro ⟨j, hj, e1, e2⟩
              rw [List.length_take] at hj
              rw [getD_t ss (show j < k from by omega)] at e1 e2
              exact VF.b2 h j k (by omega) hk e1 n3 e2
theorem vq_D (cs : List Ca) (ss : List Se) (now : Int) : ((∀ i, i < cs.length → DC cs ss now i) ∧ ∀ k, k < ss.length → DS cs ss now k) ↔ VQ cs ss now := by
  constructor
  · rintro ⟨hc, hs⟩
    have mc : ∀ i j, i ≤ j → j < cs.length → (cs.getD i dC).2.2.1 ≤ (cs.getD j dC).2.2.1 := mono_le (fun i => (cs.getD i dC).2.2.1) fun i hi => (hc (i + 1) hi).2.2.2.2.1
    have ms : ∀ i j, i < j → j < ss.length → (ss.getD i dS).1 < (ss.getD j dS).1 := mono_lt (fun i => (ss.getD i dS).1) fun i hi => (hs (i + 1) hi).2.1
    constructor
    · intro i hi
      obtain ⟨h1, h2, h3, h4, h5, _⟩ := hc i hi
      exact ⟨h1.1, h1.2, h3.1, h3.2, h4.1, h4.2⟩
    · intro i j hij hj
      refine ⟨fun e => ?_, mc i j (by omega) hj⟩
      have h1 := (hc i (by omega)).2.1
      have h2 := (hc j hj).2.1
      have e : (cs.getD i dC).1 = (cs.getD j dC).1 := e
      rw [e] at h1
      omega
    · intro k hk
      obtain ⟨h1, h2, h3, h4, h5, _⟩ := hs k hk
      exact ⟨h1.1, h1.2, h5.1, h5.2, h3.1, h3.2, h4.1, h4.2⟩
    · exact ms
    · intro k hk hst
      have hst : (ss.getD k dS).2.1 = 1 ∨ (ss.getD k dS).2.1 = 4 := hst
      obtain ⟨_, _, _, _, _, _, _, h8⟩ := hs k hk
      exact h8 (by omega) (by omega)
    · intro k hk hst
      obtain ⟨_, _, _, _, _, _, h7, _⟩ := hs k hk
      exact (h7 hst).1
    · intro i hi hne
      obtain ⟨k, k1, k2, k3, k4⟩ := (hc i hi).2.2.2.2.2.2 hne
      rcases idxT_cases ss (cs.getD i dC).2.2.2 with ⟨e, _⟩ | ⟨k', e, e2, e3⟩
      · omega
      · have : k' = k := by omega
        subst this
        exact ⟨k', k2, e3, k3, k4⟩
    · intro k hk hst
      obtain ⟨_, _, _, _, _, h6, _, _⟩ := hs k hk
      obtain ⟨_, i, i1, i2, i3⟩ := h6 hst
      rcases idxC_cases cs (ss.getD k dS).2.2.2.1 with ⟨e, _⟩ | ⟨i', e, e2, e3⟩
      · omega
      · have : i' = i := by omega
        subst this
        exact ⟨i', i2, e3, i3⟩
    · intro k hk hst i hi e
      exact (hc i hi).2.2.2.2.2.1 ⟨k, hk, hst, e.symm⟩
    · intro j k hjk hk hj3 hk3 e
      obtain ⟨_, _, _, _, _, _, h7, _⟩ := hs k hk
      exact (h7 hk3).2 j hjk ⟨hj3, e⟩
  · intro h
    refine ⟨fun i hi => ?_, fun k hk => ?_⟩
    · have h1 := VF.ca h i hi
      refine ⟨⟨h1.1, h1.2.1⟩, idxC_at h hi, ⟨h1.2.2.1, h1.2.2.2.1⟩, ⟨h1.2.2.2.2.1, h1.2.2.2.2.2⟩, ?_, ?_, fun hne => ?_⟩
      · cases i with
        | zero => exact h1.2.2.2.2.1
        | succ p => exact (VF.cd h p (p + 1) (by omega) hi).2
      · rintro ⟨k, hk, e1, e2⟩
        exact VF.b1 h k hk e1 i hi e2.symm
      · obtain ⟨k, k1, k2, k3, k4, k5⟩ := ringer h hi hne
        exact ⟨k, k2, k1, k4, k5⟩
    · have h1 := VF.se h k hk
      refine ⟨⟨h1.1, h1.2.1⟩, ?_, ⟨h1.2.2.2.2.1, h1.2.2.2.2.2.1⟩, ⟨h1.2.2.2.2.2.2.1, h1.2.2.2.2.2.2.2⟩, ⟨h1.2.2.1, h1.2.2.2.1⟩, fun n2 => ?_, fun n3 => ?_, fun n2 n3 => ?_⟩
      · cases k with
        | zero => have := h1.1; show (0 : Int) < (ss.getD 0 dS).1; have this : 1 ≤ (ss.getD 0 dS).1 := this; omega
        | succ p => exact VF.sd h p (p + 1) (by omega) hk
      · obtain ⟨i, i1, i2, i3, i4⟩ := ringee h hk n2
        have := VF.ca h i i1
        exact ⟨by rw [← i3]; exact ⟨this.1, this.2.1⟩, i, i2, i1, i4⟩
      · exact ⟨VF.f1 h k hk n3, fun j hj e => VF.b2 h j k hj hk e.1 n3 e.2⟩
      · have l1 : 1 ≤ (ss.getD k dS).2.1 := h1.2.2.1
        have l2 : (ss.getD k dS).2.1 ≤ 4 := h1.2.2.2.1
        exact VF.f0 h k hk (by show (ss.getD k dS).2.1 = 1 ∨ (ss.getD k dS).2.1 = 4; omega)
def Sizes (mo mw ri re : Int) : Prop := (1 ≤ mo ∧ mo ≤ 100) ∧ (0 ≤ mw ∧ mw ≤ 86400000) ∧ (1 ≤ ri ∧ ri ≤ 86400000) ∧ (0 ≤ re ∧ re ≤ 86400000)
theorem bnd_j (a1 : List Ca) (a2 : List Se) (a3 a4 a5 a6 a7 : Int) : Is (queues_bounded (a1, (a2, (a3, (a4, (a5, (a6, a7))))))) (Sizes a3 a4 a5 a6) := by
  unfold queues_bounded Sizes
  by_cases h1 : 1 ≤ a3 ∧ a3 ≤ 100
  · by_cases h2 : 0 ≤ a4 ∧ a4 ≤ 86400000
    · by_cases h3 : 1 ≤ a5 ∧ a5 ≤ 86400000
      · by_cases h4 : 0 ≤ a6 ∧ a6 ≤ 86400000
        · simp only [wit_b, decide_eq_true h1, decide_eq_true h2, decide_eq_true h3, decide_eq_true h4, cond_true]
          exact .inl ⟨⟨h1, h2, h3, h4⟩, rfl⟩
        · simp only [wit_b, decide_eq_true h1, decide_eq_true h2, decide_eq_true h3, decide_eq_false h4, cond_true]
          exact .inr ⟨fun q => h4 q.2.2.2, rfl⟩
      · simp only [wit_b, decide_eq_true h1, decide_eq_true h2, decide_eq_false h3, cond_true, cond_false]
        exact .inr ⟨fun q => h3 q.2.2.1, rfl⟩
    · simp only [wit_b, decide_eq_true h1, decide_eq_false h2, cond_true, cond_false]
      exact .inr ⟨fun q => h2 q.2.1, rfl⟩
  · simp only [wit_b, decide_eq_false h1, cond_true, cond_false]
    exact .inr ⟨fun q => h1 q.1, rfl⟩
theorem siz_j (a1 : List Ca) (a2 : List Se) (a3 a4 a5 a6 a7 : Int) : Is (dialtoneref36_sizes (a1, (a2, (a3, (a4, (a5, (a6, a7))))))) (Sizes a3 a4 a5 a6) := by
  unfold dialtoneref36_sizes Sizes
  by_cases h1 : 1 ≤ a3 ∧ a3 ≤ 100
  · by_cases h2 : 0 ≤ a4 ∧ a4 ≤ 86400000
    · by_cases h3 : 1 ≤ a5 ∧ a5 ≤ 86400000
      · by_cases h4 : 0 ≤ a6 ∧ a6 ≤ 86400000
        · simp only [frm_b, decide_eq_true h1, decide_eq_true h2, decide_eq_true h3, decide_eq_true h4, cond_true]
          exact .inl ⟨⟨h1, h2, h3, h4⟩, rfl⟩
        · simp only [frm_b, decide_eq_true h1, decide_eq_true h2, decide_eq_true h3, decide_eq_false h4, cond_true]
          exact .inr ⟨fun q => h4 q.2.2.2, rfl⟩
      · simp only [frm_b, decide_eq_true h1, decide_eq_true h2, decide_eq_false h3, cond_true, cond_false]
        exact .inr ⟨fun q => h3 q.2.2.1, rfl⟩
    · simp only [frm_b, decide_eq_true h1, decide_eq_false h2, cond_true, cond_false]
      exact .inr ⟨fun q => h2 q.2.1, rfl⟩
  · simp only [frm_b, decide_eq_false h1, cond_true, cond_false]
    exact .inr ⟨fun q => h1 q.1, rfl⟩
def May (cs : List Ca) (ss : List Se) (mo mw ri re now : Int) : Prop := Sizes mo mw ri re ∧ (0 ≤ now ∧ now ≤ 1099511627776) ∧ ((cs.length : Int) ≤ mo) ∧ ((ss.length : Int) ≤ 100) ∧ VQ cs ss now ∧ ∀ y ∈ things cs ss mw ri re, now ≤ y.1
section
variable {cs : List Ca} {ss : List Se} {mo mw ri re now : Int}
theorem sinceC (h : VQ cs ss now) (h2 : now ≤ 1099511627776) : ∀ i, i < cs.length → 0 ≤ (cs.getD i dC).2.2.1 ∧ (cs.getD i dC).2.2.1 ≤ 1099511627776 := fun i hi => by
  have := VF.ca h i hi
  omega
theorem sinceS (h : VQ cs ss now) (h2 : now ≤ 1099511627776) : ∀ i, i < ss.length → 0 ≤ (ss.getD i dS).2.2.1 ∧ (ss.getD i dS).2.2.1 ≤ 1099511627776 := fun i hi => by
  have := VF.se h i hi
  omega
theorem thgs_j (h : VQ cs ss now) (h2 : now ≤ 1099511627776) (hs : Sizes mo mw ri re) (hc : cs.length ≤ 1000) (hl : ss.length ≤ 1000) : queues_things (cs, (ss, (mo, (mw, (ri, (re, now)))))) = some (things cs ss mw ri re) := by
  rw [thgs_eq]
  obtain ⟨_, hw, hi, he⟩ := hs
  unfold things tgC
  by_cases e : mw = 0
  · subst e
    simp only [ne_eq, not_true_eq_false, decide_false, cond_false, joinO_inl, if_false, List.nil_append]
    simp (disch := (first | omega | (simp only [LNl]; omega))) only [↓SDl, SDr, List.take_nil, tgs_j ss ri re hl [] (Nat.zero_le _) (sinceS h h2) ⟨by omega, by omega⟩ he, List.nil_append]
  · have hln := flat_len (gC cs mw) (gC_len cs mw) cs.length
    simp (disch := (first | omega | (simp only [LNl]; omega))) only [↓SDl, SDr, ne_eq, e, not_false_eq_true, decide_true, tgc_j cs mw hc (sinceC h h2) hw, List.nil_append]
    rw [tgs_j ss ri re hl _ (by omega) (sinceS h h2) ⟨by omega, by omega⟩ he]
    rfl
theorem mayL_j (L : List Th) (now : Int) (hl : L.length ≤ 2000) : ((∀ i, i < L.length → now ≤ (L.getD i dT).1) ∧ loopO (mayLB L now) 0 = some (.inl ())) ∨ (¬ (∀ i, i < L.length → now ≤ (L.getD i dT).1) ∧ loopO (mayLB L now) 0 = some (.inr false)) := by
  refine loop_all (body := mayLB L now) L.length (fun i => now ≤ (L.getD i dT).1) _ _ (fun i hi hb => ?_) (fun i hi hb => ?_) ?_
  · obtain ⟨x, hx, hxb⟩ := get_at dT hi
    rw [hx] at hb
    unfold mayLB
    simp (disch := (first | omega | (simp only [LNl]; omega))) only [↓SDl, SDr, if_pos, if_neg, ↓hxb, wrap_i64']
    rfl
  · obtain ⟨x, hx, hxb⟩ := get_at dT hi
    rw [hx] at hb
    unfold mayLB
    simp (disch := (first | omega | (simp only [LNl]; omega))) only [↓SDl, SDr, if_pos, if_neg, ↓hxb]
  · unfold mayLB
    simp (disch := (first | omega | (simp only [LNl]; omega))) only [↓SDl, SDr, if_neg]
theorem all_getD {α : Type} (L : List α) (d : α) (p : α → Prop) : (∀ i, i < L.length → p (L.getD i d)) ↔ ∀ y ∈ L, p y := by
  constructor
  · intro h y hy
    obtain ⟨i, hi, e⟩ := List.mem_iff_getElem.1 hy
    have := h i hi
    rwa [getD_get d hi, e] at this
  · intro h i hi
    rw [getD_get d hi]
    exact h _ (List.getElem_mem hi)
theorem may_j (hc : cs.length ≤ 1000) (hl : ss.length ≤ 1000) : Is (queues_MayQueue (cs, (ss, (mo, (mw, (ri, (re, now))))))) (May cs ss mo mw ri re now) := by
  rw [may_eq]
  unfold May
  rcases (bnd_j cs ss mo mw ri re now).b with ⟨b1, e1⟩ | ⟨b1, e1⟩
  · by_cases b2 : 0 ≤ now ∧ now ≤ 1099511627776
    · by_cases b3 : (cs.length : Int) ≤ mo
      · by_cases b4 : (ss.length : Int) ≤ 100
        · have hv := vq_P cs ss now
          rcases (mcl_j cs ss mo mw ri re now hc hl).b with ⟨b5, e5⟩ | ⟨b5, e5⟩
          · rcases (mse_j cs ss mo mw ri re now hc hl).b with ⟨b6, e6⟩ | ⟨b6, e6⟩
            · have hvq := hv.1 ⟨b5, b6⟩
              have ht := thgs_j (mo := mo) hvq b2.2 b1 hc hl
              have hln := things_len cs ss mw ri re
              have ha := all_getD (things cs ss mw ri re) dT (fun y => now ≤ y.1)
              rcases mayL_j (things cs ss mw ri re) now (by omega) with ⟨b7, e7⟩ | ⟨b7, e7⟩
              · simp (disch := (first | omega | (simp only [LNl]; omega))) only [↓SDl, SDr, ↓e1, ↓e5, ↓e6, ↓wit_b, ht, e7]
                exact .inl ⟨⟨b1, b2, b3, b4, hvq, ha.1 b7⟩, rfl⟩
              · simp (disch := (first | omega | (simp only [LNl]; omega))) only [↓SDl, SDr, ↓e1, ↓e5, ↓e6, ↓wit_b, ht, e7]
                exact .inr ⟨fun q => b7 (ha.2 q.2.2.2.2.2), rfl⟩
            · simp (disch := (first | omega | (simp only [LNl]; omega))) only [↓SDl, SDr, ↓e1, ↓e5, ↓e6, ↓wit_b]
              exact .inr ⟨fun q => b6 (hv.2 q.2.2.2.2.1).2, rfl⟩
          · simp (disch := (first | omega | (simp only [LNl]; omega))) only [↓SDl, SDr, ↓e1, ↓e5, ↓wit_b]
            exact .inr ⟨fun q => b5 (hv.2 q.2.2.2.2.1).1, rfl⟩
        · simp (disch := (first | omega | (simp only [LNl]; omega))) only [↓SDl, SDr, ↓e1, ↓wit_b]
          exact .inr ⟨fun q => b4 q.2.2.2.1, rfl⟩
      · simp (disch := (first | omega | (simp only [LNl]; omega))) only [↓SDl, SDr, ↓e1, ↓wit_b]
        exact .inr ⟨fun q => b3 q.2.2.1, rfl⟩
    · simp (disch := (first | omega | (simp only [LNl]; omega))) only [↓SDl, SDr, ↓e1, ↓wit_b]
      exact .inr ⟨fun q => b2 q.2.1, rfl⟩
  · simp (disch := (first | omega | (simp only [LNl]; omega))) only [↓SDl, SDr, ↓e1]
    exact .inr ⟨fun q => b1 q.1, rfl⟩
def encT : Option Th → Int × (Int × (Int × Bool))
  | none => (-1, (-1, (-1, false)))
  | some (t, (true, i)) => (t, (i, (-1, true)))
  | some (t, (false, i)) => (t, (-1, (i, true)))
def enc2 : Option Th → Int × Int
  | none => (-1, -1)
  | some (t, (_, i)) => (i, t)
def enc3 : Option Th → Int × (Int × Int)
  | none => (-1, (-1, -1))
  | some (t, (true, i)) => (-1, (i, t))
  | some (t, (false, i)) => (i, (-1, t))
theorem duc_j (hmw : 0 ≤ mw ∧ mw ≤ 86400000) (hc : cs.length ≤ 1000) (hb : ∀ i, i < cs.length → 0 ≤ (cs.getD i dC).2.2.1 ∧ (cs.getD i dC).2.2.1 ≤ 1099511627776) :
    loopO (ducB cs mw) (0, (-1, -1)) = some (.inl (enc2 (pick ltT (tgC cs mw)))) ∧ ∀ x, pick ltT (tgC cs mw) = some x → x.2.1 = true ∧ 0 ≤ x.1 := by
  unfold tgC
  by_cases hm : mw = 0
  · rw [if_neg (by omega)]
    refine ⟨?_, fun x hx => by cases hx⟩
    rw [loopO_eq]
    unfold ducB
    by_cases hn : cs.length = 0
    · simp (disch := (first | omega | (simp only [LNl]; omega))) only [↓SDl, SDr, if_neg]
      rfl
    · simp (disch := (first | omega | (simp only [LNl]; omega))) only [↓SDl, SDr, if_pos, if_neg]
      rfl
  · rw [if_pos (by omega)]
    have := fold_j (gC cs mw) (pk ltT) (fun i s => ((i : Int), enc2 s)) cs.length (body := ducB cs mw) (fun s => Sum.inl (enc2 s)) none (fun i s => ∀ x, s = some x → x.2.1 = true ∧ 0 ≤ x.1) (fun x hx => by cases hx) (fun i hi s hs => ?_) (fun s hs => ?_)
    · exact this
    · obtain ⟨x, hx, hxb⟩ := get_at dC hi
      have hbi := hb i hi
      unfold gC
      rw [hx] at hbi ⊢
      simp only [List.foldl_cons, List.foldl_nil]
      cases s with
      | none =>
        refine ⟨?_, fun y hy => by cases hy; exact ⟨rfl, by show 0 ≤ x.2.2.1 + mw; omega⟩⟩
        show ducB cs mw ((i : Int), (-1, -1)) = _
        unfold ducB
        simp (disch := (first | omega | (simp only [LNl]; omega))) only [↓SDl, SDr, if_pos, if_neg, ↓hxb, wrap_i64']
        rfl
      | some y =>
        obtain ⟨h1, h2⟩ := hs y rfl
        obtain ⟨t, b, q⟩ := y
        simp only at h1 h2
        subst h1
        show ducB cs mw ((i : Int), (q, t)) = _ ∧ _
        unfold ducB pk ltT
        by_cases e : x.2.2.1 + mw < t
        · have e' := decide_eq_true e
          simp (disch := (first | omega | (simp only [LNl]; omega))) only [↓SDl, SDr, if_pos, if_neg, ↓hxb, wrap_i64', e']
          exact ⟨rfl, fun y hy => by cases hy; exact ⟨rfl, by show 0 ≤ x.2.2.1 + mw; omega⟩⟩
        · have e' := decide_eq_false e
          simp (disch := (first | omega | (simp only [LNl]; omega))) only [↓SDl, SDr, if_pos, if_neg, ↓hxb, wrap_i64', e', Bool.false_eq_true]
          exact ⟨rfl, fun y hy => by cases hy; exact ⟨rfl, h2⟩⟩
    · show ducB cs mw ((cs.length : Int), enc2 s) = _
      unfold ducB
      simp (disch := (first | omega | (simp only [LNl]; omega))) only [↓SDl, SDr, if_neg]
theorem dus_j (hri : 1 ≤ ri ∧ ri ≤ 86400000) (hre : 0 ≤ re ∧ re ≤ 86400000) (hl : ss.length ≤ 1000) (hb : ∀ i, i < ss.length → 0 ≤ (ss.getD i dS).2.2.1 ∧ (ss.getD i dS).2.2.1 ≤ 1099511627776) (s0 : Option Th) (h0 : ∀ x, s0 = some x → 0 ≤ x.1) :
    loopO (dusB ss ri re) (0, enc3 s0) = some (.inl (enc3 ((tgS ss ri re).foldl (pk ltT) s0))) ∧ ∀ x, (tgS ss ri re).foldl (pk ltT) s0 = some x → 0 ≤ x.1 := by
  refine fold_j (gS ss ri re) (pk ltT) (fun i s => ((i : Int), enc3 s)) ss.length (body := dusB ss ri re) (fun s => Sum.inl (enc3 s)) s0 (fun i s => ∀ x, s = some x → 0 ≤ x.1) h0 (fun i hi s hs => ?_) (fun s hs => ?_)
  · obtain ⟨x, hx, hxb⟩ := get_at dS hi
    have hbi := hb i hi
    unfold gS
    rw [hx] at hbi ⊢
    have hd : ∀ (s : Option Th), ∃ p q r, enc3 s = (p, (q, r)) ∧ (∀ y, s = some y → r = y.1) ∧ (s = none → r = -1) := by
      intro s
      cases s with
      | none => exact ⟨-1, -1, -1, rfl, (by simp), fun _ => rfl⟩
      | some y => obtain ⟨t, b, q⟩ := y; cases b <;> exact ⟨_, _, t, rfl, fun y hy => by cases hy; rfl, fun h => by cases h⟩
    have go : ∀ (t : Int), 0 ≤ t → (r : Option ((Int × (Int × (Int × Int))) ⊕ ((Int × (Int × Int)) ⊕ (Int × (Int × (Int × Bool)))))) → (∀ p q v, enc3 s = (p, (q, v)) → r = if v < 0 ∨ t < v then some (.inl (((i + 1 : Nat) : Int), ((i : Int), (-1, t)))) else some (.inl (((i + 1 : Nat) : Int), (p, (q, v))))) →
        r = some (.inl (((i + 1 : Nat) : Int), enc3 (pk ltT s (t, (false, (i : Int)))))) ∧ ∀ y, pk ltT s (t, (false, (i : Int))) = some y → 0 ≤ y.1 := by
      intro t ht r hr
      cases s with
      | none =>
        rw [hr (-1) (-1) (-1) rfl, if_pos (by omega)]
        exact ⟨rfl, fun y hy => by cases hy; exact ht⟩
      | some y =>
        have hy0 := hs y rfl
        obtain ⟨p, q, v, e1, e2, _⟩ := hd (some y)
        have ev := e2 y rfl
        rw [hr p q v e1]
        rw [show pk ltT (some y) (t, (false, (i : Int))) = if ltT (t, (false, (i : Int))) y = true then some (t, (false, (i : Int))) else some y from rfl]
        unfold ltT
        by_cases e : t < y.1
        · rw [if_pos (by omega), if_pos (decide_eq_true e)]
          exact ⟨rfl, fun z hz => by cases hz; exact ht⟩
        · rw [if_neg (by omega), if_neg (by simp [e])]
          exact ⟨by rw [e1], fun z hz => by cases hz; exact hy0⟩
    by_cases n2 : x.2.1 = 2
    · rw [if_pos n2]
      simp only [List.foldl_cons, List.foldl_nil]
      refine go (x.2.2.1 + ri) (by omega) _ (fun p q v e => ?_)
      simp only [e]
      unfold dusB
      by_cases c1 : v < 0
      · rw [if_pos (.inl c1)]
        simp (disch := (first | omega | (simp only [LNl]; omega))) only [↓SDl, SDr, if_pos, if_neg, ↓hxb, wrap_i64']
        rfl
      · by_cases c2 : x.2.2.1 + ri < v
        · rw [if_pos (.inr c2)]
          simp (disch := (first | omega | (simp only [LNl]; omega))) only [↓SDl, SDr, if_pos, if_neg, ↓hxb, wrap_i64']
          rfl
        · rw [if_neg (by omega)]
          simp (disch := (first | omega | (simp only [LNl]; omega))) only [↓SDl, SDr, if_pos, if_neg, ↓hxb, wrap_i64']
          rfl
    · rw [if_neg n2]
      by_cases n4 : x.2.1 = 4
      · rw [if_pos n4]
        simp only [List.foldl_cons, List.foldl_nil]
        refine go (x.2.2.1 + re) (by omega) _ (fun p q v e => ?_)
        simp only [e]
        unfold dusB
        by_cases c1 : v < 0
        · rw [if_pos (.inl c1)]
          simp (disch := (first | omega | (simp only [LNl]; omega))) only [↓SDl, SDr, if_pos, if_neg, ↓hxb, wrap_i64']
          rfl
        · by_cases c2 : x.2.2.1 + re < v
          · rw [if_pos (.inr c2)]
            simp (disch := (first | omega | (simp only [LNl]; omega))) only [↓SDl, SDr, if_pos, if_neg, ↓hxb, wrap_i64']
            rfl
          · rw [if_neg (by omega)]
            simp (disch := (first | omega | (simp only [LNl]; omega))) only [↓SDl, SDr, if_pos, if_neg, ↓hxb, wrap_i64']
            rfl
      · rw [if_neg n4]
        simp only [List.foldl_nil]
        refine ⟨?_, hs⟩
        obtain ⟨p, q, v, e, _⟩ := hd s
        simp only [e]
        unfold dusB
        simp (disch := (first | omega | (simp only [LNl]; omega))) only [↓SDl, SDr, if_pos, if_neg, ↓hxb, wrap_i64']
        rfl
  · obtain ⟨p, q, v, e⟩ : ∃ p q v, enc3 s = (p, (q, v)) := ⟨_, _, _, rfl⟩
    show dusB ss ri re ((ss.length : Int), enc3 s) = _
    rw [e]
    unfold dusB
    simp (disch := (first | omega | (simp only [LNl]; omega))) only [↓SDl, SDr, if_neg]
theorem due_j (h : VQ cs ss now) (h2 : now ≤ 1099511627776) (hw : 0 ≤ mw ∧ mw ≤ 86400000) (hi : 1 ≤ ri ∧ ri ≤ 86400000) (he : 0 ≤ re ∧ re ≤ 86400000) (hc : cs.length ≤ 1000) (hl : ss.length ≤ 1000) (t : Int) :
    dialtoneref36_due (cs, (ss, (mo, (mw, (ri, (re, t)))))) = some (encT (evt cs ss mw ri re)) := by
  rw [due_eq]
  obtain ⟨d1, d2⟩ := duc_j hw hc (sinceC h h2)
  have hb := sinceS h h2
  obtain ⟨u1, u2⟩ := dus_j hi he hl hb (pick ltT (tgC cs mw)) (fun x hx => (d2 x hx).2)
  have e3 : enc3 (pick ltT (tgC cs mw)) = (-1, enc2 (pick ltT (tgC cs mw))) := by
    cases hp : pick ltT (tgC cs mw) with
    | none => rfl
    | some x =>
      obtain ⟨t, b, i⟩ := x
      have := (d2 _ hp).1
      simp only at this
      subst this
      rfl
  have hev : evt cs ss mw ri re = (tgS ss ri re).foldl (pk ltT) (pick ltT (tgC cs mw)) := by
    unfold evt things
    rw [pick_app]
  rw [d1, joinO_inl]
  rw [e3] at u1
  obtain ⟨p, q, hpq⟩ : ∃ p q, enc2 (pick ltT (tgC cs mw)) = (p, q) := ⟨_, _, rfl⟩
  rw [hpq] at u1 ⊢
  simp only [u1, joinO_inl]
  rw [hev]
  cases hr : (tgS ss ri re).foldl (pk ltT) (pick ltT (tgC cs mw)) with
  | none => rfl
  | some x =>
    have h0 := u2 x hr
    obtain ⟨t, b, i⟩ := x
    simp only at h0
    cases b
    · show some (t, (-1, (i, decide (t ≥ 0)))) = some (t, (-1, (i, true))); rw [decide_eq_true h0]
    · show some (t, (i, (-1, decide (t ≥ 0)))) = some (t, (i, (-1, true))); rw [decide_eq_true h0]
theorem dmay_j (hc : cs.length ≤ 1000) (hl : ss.length ≤ 1000) : Is (dialtoneref36_MayQueue (cs, (ss, (mo, (mw, (ri, (re, now))))))) (May cs ss mo mw ri re now) := by
  unfold dialtoneref36_MayQueue May
  rcases (siz_j cs ss mo mw ri re now).b with ⟨b1, e1⟩ | ⟨b1, e1⟩
  · by_cases b2 : 0 ≤ now ∧ now ≤ 1099511627776
    · by_cases b3 : (cs.length : Int) ≤ mo
      · by_cases b4 : (ss.length : Int) ≤ 100
        · have hv := vq_D cs ss now
          rcases (dcl_j cs ss mo mw ri re now hc hl).b with ⟨b5, e5⟩ | ⟨b5, e5⟩
          · rcases (dse_j cs ss mo mw ri re now hc hl).b with ⟨b6, e6⟩ | ⟨b6, e6⟩
            · have hvq := hv.1 ⟨b5, b6⟩
              have ht := due_j (mo := mo) hvq b2.2 b1.2.1 b1.2.2.1 b1.2.2.2 hc hl now
              simp (disch := (first | omega | (simp only [LNl]; omega))) only [↓SDl, SDr, ↓e1, ↓e5, ↓e6, ↓frm_b, ht]
              cases hev : evt cs ss mw ri re with
              | none =>
                refine .inl ⟨⟨b1, b2, b3, b4, hvq, fun y hy => ?_⟩, rfl⟩
                rw [pick_none.1 hev] at hy
                cases hy
              | some x =>
                obtain ⟨m1, m2⟩ := evt_min hev
                have key : Is (some (decide (x.1 ≥ now))) (Sizes mo mw ri re ∧ (0 ≤ now ∧ now ≤ 1099511627776) ∧ ((cs.length : Int) ≤ mo) ∧ ((ss.length : Int) ≤ 100) ∧ VQ cs ss now ∧ ∀ y ∈ things cs ss mw ri re, now ≤ y.1) := by
                  refine Is.d ⟨fun q => ⟨b1, b2, b3, b4, hvq, fun y hy => by have := m2 y hy; omega⟩, fun q => q.2.2.2.2.2 x m1⟩
                obtain ⟨t, b, i⟩ := x
                cases b <;> exact key
            · simp (disch := (first | omega | (simp only [LNl]; omega))) only [↓SDl, SDr, ↓e1, ↓e5, ↓e6, ↓frm_b]
              exact .inr ⟨fun q => b6 (hv.2 q.2.2.2.2.1).2, rfl⟩
          · simp (disch := (first | omega | (simp only [LNl]; omega))) only [↓SDl, SDr, ↓e1, ↓e5, ↓frm_b]
            exact .inr ⟨fun q => b5 (hv.2 q.2.2.2.2.1).1, rfl⟩
        · simp (disch := (first | omega | (simp only [LNl]; omega))) only [↓SDl, SDr, ↓e1, ↓frm_b]
          exact .inr ⟨fun q => b4 q.2.2.2.1, rfl⟩
      · simp (disch := (first | omega | (simp only [LNl]; omega))) only [↓SDl, SDr, ↓e1, ↓frm_b]
        exact .inr ⟨fun q => b3 q.2.2.1, rfl⟩
    · simp (disch := (first | omega | (simp only [LNl]; omega))) only [↓SDl, SDr, ↓e1, ↓frm_b]
      exact .inr ⟨fun q => b2 q.2.1, rfl⟩
  · simp (disch := (first | omega | (simp only [LNl]; omega))) only [↓SDl, SDr, ↓e1]
    exact .inr ⟨fun q => b1 q.1, rfl⟩
end
