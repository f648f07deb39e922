import Derived.Test.YtkmfgldoljegoaaM2p
set_option linter.unusedVariables false
set_option linter.unusedSimpArgs false
set_option maxRecDepth 100000
namespace Go.Proofs.Ytkmfgldoljegoaa
open Go.RowKit
def freeC (cs : List Ca) : List Int := (List.range cs.length).flatMap fun i => if (cs.getD i dC).2.2.2 = 0 then [(i : Int)] else []
def freeS (ss : List Se) : List Int := (List.range ss.length).flatMap fun i => if (ss.getD i dS).2.1 = 1 then [(i : Int)] else []
def ltC (cs : List Ca) (a b : Int) : Bool := decide ((cs.getD a.toNat dC).2.1 > (cs.getD b.toNat dC).2.1)
def ltS (ss : List Se) (a b : Int) : Bool := decide ((ss.getD a.toNat dS).2.2.1 < (ss.getD b.toNat dS).2.2.1)
def nextC (cs : List Ca) : Option Int := pick (ltC cs) (freeC cs)
def nextS (ss : List Se) : Option Int := pick (ltS ss) (freeS ss)
theorem mem_flat {α : Type} (p : Nat → Prop) [DecidablePred p] (f : Nat → α) (n : Nat) (x : α) : x ∈ ((List.range n).flatMap fun i => if p i then [f i] else []) ↔ ∃ i, i < n ∧ p i ∧ x = f i := by
  rw [List.mem_flatMap]
  constructor
  · rintro ⟨i, hi, hx⟩
    by_cases h : p i
    · rw [if_pos h] at hx; exact ⟨i, List.mem_range.1 hi, h, List.mem_singleton.1 hx⟩
    · rw [if_neg h] at hx; cases hx
  · rintro ⟨i, h1, h2, h3⟩
    exact ⟨i, List.mem_range.2 h1, by rw [if_pos h2, h3]; exact List.mem_singleton.2 rfl⟩
theorem mem_freeC {cs : List Ca} {x : Int} : x ∈ freeC cs ↔ ∃ i : Nat, i < cs.length ∧ (cs.getD i dC).2.2.2 = 0 ∧ x = (i : Int) := mem_flat (fun i => (cs.getD i dC).2.2.2 = 0) (fun i => (i : Int)) _ x
theorem mem_freeS {ss : List Se} {x : Int} : x ∈ freeS ss ↔ ∃ i : Nat, i < ss.length ∧ (ss.getD i dS).2.1 = 1 ∧ x = (i : Int) := mem_flat (fun i => (ss.getD i dS).2.1 = 1) (fun i => (i : Int)) _ x
theorem nextC_cases (cs : List Ca) : (nextC cs = none ∧ ∀ i, i < cs.length → (cs.getD i dC).2.2.2 ≠ 0) ∨ ∃ i : Nat, nextC cs = some (i : Int) ∧ i < cs.length ∧ (cs.getD i dC).2.2.2 = 0 := by
  cases h : nextC cs with
  | none =>
    left
    refine ⟨rfl, fun i hi h0 => ?_⟩
    have := mem_freeC.2 ⟨i, hi, h0, rfl⟩
    rw [pick_none.1 h] at this
    cases this
  | some x =>
    right
    obtain ⟨i, h1, h2, h3⟩ := mem_freeC.1 (pick_mem h)
    exact ⟨i, by rw [h3], h1, h2⟩
theorem nextS_cases (ss : List Se) : (nextS ss = none ∧ ∀ i, i < ss.length → (ss.getD i dS).2.1 ≠ 1) ∨ ∃ i : Nat, nextS ss = some (i : Int) ∧ i < ss.length ∧ (ss.getD i dS).2.1 = 1 := by
  cases h : nextS ss with
  | none =>
    left
    refine ⟨rfl, fun i hi h0 => ?_⟩
    have := mem_freeS.2 ⟨i, hi, h0, rfl⟩
    rw [pick_none.1 h] at this
    cases this
  | some x =>
    right
    obtain ⟨i, h1, h2, h3⟩ := mem_freeS.1 (pick_mem h)
    exact ⟨i, by rw [h3], h1, h2⟩
def gC (cs : List Ca) (mw : Int) (i : Nat) : List Th := [((cs.getD i dC).2.2.1 + mw, (true, (i : Int)))]
def gS (ss : List Se) (ri re : Int) (i : Nat) : List Th := if (ss.getD i dS).2.1 = 2 then [((ss.getD i dS).2.2.1 + ri, (false, (i : Int)))] else if (ss.getD i dS).2.1 = 4 then [((ss.getD i dS).2.2.1 + re, (false, (i : Int)))] else []
def tgC (cs : List Ca) (mw : Int) : List Th := if mw ≠ 0 then (List.range cs.length).flatMap (gC cs mw) else []
def tgS (ss : List Se) (ri re : Int) : List Th := (List.range ss.length).flatMap (gS ss ri re)
def things (cs : List Ca) (ss : List Se) (mw ri re : Int) : List Th := tgC cs mw ++ tgS ss ri re
def ltT (a b : Th) : Bool := decide (a.1 < b.1)
def evt (cs : List Ca) (ss : List Se) (mw ri re : Int) : Option Th := pick ltT (things cs ss mw ri re)
theorem gC_len (cs : List Ca) (mw : Int) (i : Nat) : (gC cs mw i).length ≤ 1 := Nat.le_refl _
theorem gS_len (ss : List Se) (ri re : Int) (i : Nat) : (gS ss ri re i).length ≤ 1 := by
  unfold gS; split
  · exact Nat.le_refl _
  · split
    · exact Nat.le_refl _
    · exact Nat.zero_le _
theorem things_len (cs : List Ca) (ss : List Se) (mw ri re : Int) : (things cs ss mw ri re).length ≤ cs.length + ss.length := by
  unfold things tgC tgS
  rw [List.length_append]
  have h2 := flat_len (gS ss ri re) (gS_len ss ri re) ss.length
  split
  · have h1 := flat_len (gC cs mw) (gC_len cs mw) cs.length; omega
  · rw [List.length_nil]; omega
theorem mem_things {cs : List Ca} {ss : List Se} {mw ri re : Int} {x : Th} : x ∈ things cs ss mw ri re ↔
    (mw ≠ 0 ∧ ∃ i : Nat, i < cs.length ∧ x = ((cs.getD i dC).2.2.1 + mw, (true, (i : Int)))) ∨ (∃ k : Nat, k < ss.length ∧ (ss.getD k dS).2.1 = 2 ∧ x = ((ss.getD k dS).2.2.1 + ri, (false, (k : Int)))) ∨ (∃ k : Nat, k < ss.length ∧ (ss.getD k dS).2.1 = 4 ∧ x = ((ss.getD k dS).2.2.1 + re, (false, (k : Int)))) := by
  unfold things tgC tgS
  rw [List.mem_append]
  constructor
  · rintro (h | h)
    · left
      split at h
      · rename_i hm
        obtain ⟨i, hi, hx⟩ := List.mem_flatMap.1 h
        exact ⟨hm, i, List.mem_range.1 hi, List.mem_singleton.1 hx⟩
      · cases h
    · right
      obtain ⟨k, hk, hx⟩ := List.mem_flatMap.1 h
      unfold gS at hx
      split at hx
      · rename_i e; exact .inl ⟨k, List.mem_range.1 hk, e, List.mem_singleton.1 hx⟩
      · split at hx
        · rename_i e; exact .inr ⟨k, List.mem_range.1 hk, e, List.mem_singleton.1 hx⟩
        · cases hx
  · rintro (⟨hm, i, hi, hx⟩ | ⟨k, hk, e, hx⟩ | ⟨k, hk, e, hx⟩)
    · left
      rw [if_pos hm]
      exact List.mem_flatMap.2 ⟨i, List.mem_range.2 hi, by rw [hx]; exact List.mem_singleton.2 rfl⟩
    · right
      exact List.mem_flatMap.2 ⟨k, List.mem_range.2 hk, by unfold gS; rw [if_pos e, hx]; exact List.mem_singleton.2 rfl⟩
    · right
      exact List.mem_flatMap.2 ⟨k, List.mem_range.2 hk, by unfold gS; rw [if_neg (by omega), if_pos e, hx]; exact List.mem_singleton.2 rfl⟩
theorem evt_min {cs : List Ca} {ss : List Se} {mw ri re : Int} {x : Th} (h : evt cs ss mw ri re = some x) : x ∈ things cs ss mw ri re ∧ ∀ y ∈ things cs ss mw ri re, x.1 ≤ y.1 := by
  refine ⟨pick_mem h, fun y hy => ?_⟩
  rcases pick_some (fun t : Th => t.1) (lt := ltT) (fun x y => by unfold ltT; exact decide_eq_true_iff) (things cs ss mw ri re) with ⟨h1, h2⟩ | ⟨z, h1, a, b, h2, h3, h4⟩
  · rw [h1] at hy; cases hy
  · unfold evt at h
    rw [h1] at h
    cases h
    rw [h2] at hy
    rcases List.mem_append.1 hy with e | e
    · have := h3 y e; omega
    · rcases List.mem_cons.1 e with e | e
      · rw [e]; exact Int.le_refl _
      · exact h4 y e
def phi (T now : Int) (s : Se) : Nat := if s.2.1 = 1 then (3 * (T - now)).toNat + 1 else if s.2.1 = 2 then (3 * (T - s.2.2.1)).toNat else if s.2.1 = 4 then (3 * (T - s.2.2.1)).toNat + 2 else 0
def Phi (T now : Int) (cs : List Ca) (ss : List Se) : Nat := (ss.map (phi T now)).sum + 3 * cs.length
structure GQ (T : Int) (K : Nat) (cs : List Ca) (ss : List Se) (mw ri re now : Int) (n : Nat) : Prop where
  v : VQ cs ss now
  hc : cs.length ≤ 100
  hs : ss.length ≤ 100
  h0 : 0 ≤ now
  hT : now ≤ T
  hM : T ≤ 1099511627776
  hw : 0 ≤ mw ∧ mw ≤ 86400000
  hi : 1 ≤ ri ∧ ri ≤ 86400000
  he : 0 ≤ re ∧ re ≤ 86400000
  k : Phi T now cs ss + n ≤ K
  hK : K ≤ 3000000000000
  d1 : mw ≠ 0 → ∀ i, i < cs.length → now ≤ (cs.getD i dC).2.2.1 + mw
  d2 : ∀ k, k < ss.length → (ss.getD k dS).2.1 = 2 → now ≤ (ss.getD k dS).2.2.1 + ri
  d3 : ∀ k, k < ss.length → (ss.getD k dS).2.1 = 4 → now ≤ (ss.getD k dS).2.2.1 + re
def GW (T : Int) (K : Nat) (w : Wk) : Prop := GQ T K w.1 w.2.1 w.2.2.2.1 w.2.2.2.2.1 w.2.2.2.2.2.1 w.2.2.2.2.2.2.1 w.2.2.2.2.2.2.2.length
def PhiW (T : Int) (w : Wk) : Nat := Phi T w.2.2.2.2.2.2.1 w.1 w.2.1
theorem Phi_set (T now : Int) (cs : List Ca) (ss : List Se) (k : Nat) (s : Se) (hk : k < ss.length) : ((ss.set k s).map (phi T now)).sum + phi T now (ss.getD k dS) = (ss.map (phi T now)).sum + phi T now s := sum_set (phi T now) dS ss k s hk
def mstep : Wk → Option Wk := fun (cs, (ss, (mo, (mw, (ri, (re, (now, acts))))))) =>
  match nextC cs, nextS ss with
  | some c, some s => some (setC cs c.toNat (ss.getD s.toNat dS).1, (setS ss s.toNat 2 now (cs.getD c.toNat dC).1, (mo, (mw, (ri, (re, (now, acts ++ [(1, ((cs.getD c.toNat dC).1, (ss.getD s.toNat dS).1))])))))))
  | _, _ => none
theorem match_ok {T : Int} {K : Nat} {cs : List Ca} {ss : List Se} {mw ri re now : Int} {acts : List Ac} (h : GQ T K cs ss mw ri re now acts.length) {i k : Nat} (hi : i < cs.length) (hk : k < ss.length) (ha : (cs.getD i dC).2.2.2 = 0) (hs : (ss.getD k dS).2.1 = 1) (a : Ac) :
    GQ T K (setC cs i (ss.getD k dS).1) (setS ss k 2 now (cs.getD i dC).1) mw ri re now (acts ++ [a]).length ∧ Phi T now (setC cs i (ss.getD k dS).1) (setS ss k 2 now (cs.getD i dC).1) < Phi T now cs ss := by
  have hp := Phi_set T now cs ss k ((ss.getD k dS).1, (2, (now, ((cs.getD i dC).1, (ss.getD k dS).2.2.2.2)))) hk
  have e1 : phi T now (ss.getD k dS) = (3 * (T - now)).toNat + 1 := by unfold phi; rw [if_pos hs]
  have e2 : phi T now ((ss.getD k dS).1, (2, (now, ((cs.getD i dC).1, (ss.getD k dS).2.2.2.2)))) = (3 * (T - now)).toNat := by unfold phi; rfl
  have hP : Phi T now (setC cs i (ss.getD k dS).1) (setS ss k 2 now (cs.getD i dC).1) + 1 = Phi T now cs ss := by
    unfold Phi
    rw [setC_len]
    unfold setS
    omega
  refine ⟨⟨h.v.match hi hk ha hs h.h0, by rw [setC_len]; exact h.hc, by rw [setS_len]; exact h.hs, h.h0, h.hT, h.hM, h.hw, h.hi, h.he, ?_, h.hK, ?_, ?_, ?_⟩, by omega⟩
  · have := h.k
    rw [List.length_append, List.length_singleton]; omega
  · intro hm j hj
    rw [setC_len] at hj
    rw [setC_getD cs i _ hi]
    have := h.d1 hm j hj
    split
    · rename_i e; subst e; exact this
    · exact this
  · intro j hj
    rw [setS_len] at hj
    rw [setS_getD ss k _ _ _ hk]
    have := h.d2 j hj
    have := h.hi
    split
    · intro _; simp only; omega
    · exact h.d2 j hj
  · intro j hj
    rw [setS_len] at hj
    rw [setS_getD ss k _ _ _ hk]
    split
    · intro q; simp at q
    · exact h.d3 j hj
theorem mstep_ok {T : Int} {K : Nat} {w w' : Wk} (h : GW T K w) (e : mstep w = some w') : GW T K w' ∧ PhiW T w' < PhiW T w := by
  obtain ⟨cs, ss, mo, mw, ri, re, now, acts⟩ := w
  unfold mstep at e
  simp only at e
  rcases nextC_cases cs with ⟨h1, h2⟩ | ⟨i, h1, h2, h3⟩
  · rw [h1] at e; simp at e
  · rcases nextS_cases ss with ⟨g1, g2⟩ | ⟨k, g1, g2, g3⟩
    · rw [h1, g1] at e; simp at e
    · rw [h1, g1] at e
      simp only [Option.some.injEq, Int.toNat_natCast] at e
      subst e
      exact match_ok (show GQ T K cs ss mw ri re now acts.length from h) h2 g2 h3 g3 _
def matchM (T : Int) (w : Wk) : Wk := iter mstep (PhiW T w) w
theorem matchM_ok {T : Int} {K : Nat} {w : Wk} (h : GW T K w) : GW T K (matchM T w) ∧ PhiW T (matchM T w) ≤ PhiW T w ∧ mstep (matchM T w) = none := by
  have := iter_ok (f := mstep) (fun x => GW T K x ∧ PhiW T x ≤ PhiW T w) (PhiW T) (fun x y hx e => by
    have := mstep_ok hx.1 e
    exact ⟨⟨this.1, by omega⟩, this.2⟩) (PhiW T w) w ⟨h, Nat.le_refl _⟩ (Nat.le_refl _)
  exact ⟨this.1.1, this.1.2, this.2⟩
def idxC (cs : List Ca) (call : Int) : Int := if cs.findIdx (fun c => decide (c.1 = call)) < cs.length then ((cs.findIdx (fun c => decide (c.1 = call)) : Nat) : Int) else -1
def idxT (ss : List Se) (id : Int) : Int := if ss.findIdx (fun c => decide (c.1 = id)) < ss.length then ((ss.findIdx (fun c => decide (c.1 = id)) : Nat) : Int) else -1
theorem find_at {α : Type} (p : α → Bool) (l : List α) (d : α) {i : Nat} (hi : i < l.length) (h : p (l.getD i d) = true) (hu : ∀ j, j < i → p (l.getD j d) = false) : l.findIdx p = i := by
  rw [List.findIdx_eq hi]
  rw [getD_get d hi] at h
  exact ⟨h, fun j hj => by have := hu j hj; rwa [getD_get d (by omega)] at this⟩
theorem find_none {α : Type} (p : α → Bool) (l : List α) (d : α) (hu : ∀ j, j < l.length → p (l.getD j d) = false) : l.findIdx p = l.length := by
  rw [List.findIdx_eq_length]
  intro x hx
  obtain ⟨i, hi, e⟩ := List.mem_iff_getElem.1 hx
  have := hu i hi
  rw [getD_get d hi, e] at this
  exact this
theorem idxC_some {cs : List Ca} {i : Nat} (hi : i < cs.length) {call : Int} (h : (cs.getD i dC).1 = call) (hu : ∀ j, j < i → (cs.getD j dC).1 ≠ call) : idxC cs call = (i : Int) := by
  unfold idxC
  rw [find_at _ cs dC hi (decide_eq_true h) (fun j hj => decide_eq_false (hu j hj)), if_pos hi]
theorem idxC_none {cs : List Ca} {call : Int} (hu : ∀ j, j < cs.length → (cs.getD j dC).1 ≠ call) : idxC cs call = -1 := by
  unfold idxC
  rw [find_none _ cs dC (fun j hj => decide_eq_false (hu j hj)), if_neg (by omega)]
theorem idxT_some {ss : List Se} {i : Nat} (hi : i < ss.length) {id : Int} (h : (ss.getD i dS).1 = id) (hu : ∀ j, j < i → (ss.getD j dS).1 ≠ id) : idxT ss id = (i : Int) := by
  unfold idxT
  rw [find_at _ ss dS hi (decide_eq_true h) (fun j hj => decide_eq_false (hu j hj)), if_pos hi]
theorem idxT_none {ss : List Se} {id : Int} (hu : ∀ j, j < ss.length → (ss.getD j dS).1 ≠ id) : idxT ss id = -1 := by
  unfold idxT
  rw [find_none _ ss dS (fun j hj => decide_eq_false (hu j hj)), if_neg (by omega)]
theorem idxC_at {cs : List Ca} {ss : List Se} {now : Int} (h : VQ cs ss now) {i : Nat} (hi : i < cs.length) : idxC cs (cs.getD i dC).1 = (i : Int) :=
  idxC_some hi rfl fun j hj => (VF.cd h j i hj hi).1
theorem idxT_at {cs : List Ca} {ss : List Se} {now : Int} (h : VQ cs ss now) {i : Nat} (hi : i < ss.length) : idxT ss (ss.getD i dS).1 = (i : Int) :=
  idxT_some hi rfl fun j hj e => by have := VF.sd h j i hj hi; omega
def removeM (cs : List Ca) (ss : List Se) (now : Int) (acts : List Ac) (i : Nat) : List Ca × (List Se × List Ac) :=
  (cs.take i ++ cs.drop (i + 1),
    if (cs.getD i dC).2.2.2 ≠ 0 then (setS ss (idxT ss (cs.getD i dC).2.2.2).toNat 1 now 0, acts ++ [(2, ((cs.getD i dC).1, (cs.getD i dC).2.2.2))]) else (ss, acts))
def silenceM (cs : List Ca) (ss : List Se) (now : Int) (acts : List Ac) (k : Nat) (st : Int) : List Ca × (List Se × List Ac) :=
  (setC cs (idxC cs (ss.getD k dS).2.2.2.1).toNat 0, (setS ss k st now 0, acts ++ [(2, ((ss.getD k dS).2.2.2.1, (ss.getD k dS).1))]))
theorem erase_set (cs : List Ca) (i : Nat) (x : Ca) : (cs.set i x).take i ++ (cs.set i x).drop (i + 1) = cs.take i ++ cs.drop (i + 1) := by
  rw [List.take_set_of_le (Nat.le_refl _), List.drop_set_of_lt (Nat.lt_succ_self _)]
theorem ringer {cs : List Ca} {ss : List Se} {now : Int} (h : VQ cs ss now) {i : Nat} (hi : i < cs.length) (ha : (cs.getD i dC).2.2.2 ≠ 0) : ∃ k, k < ss.length ∧ idxT ss (cs.getD i dC).2.2.2 = (k : Int) ∧ (ss.getD k dS).1 = (cs.getD i dC).2.2.2 ∧ (ss.getD k dS).2.1 = 2 ∧ (ss.getD k dS).2.2.2.1 = (cs.getD i dC).1 := by
  obtain ⟨k, k1, k2, k3, k4⟩ := VF.l1 h i hi ha
  exact ⟨k, k1, by rw [← k2]; exact idxT_at h k1, k2, k3, k4⟩
theorem ringee {cs : List Ca} {ss : List Se} {now : Int} (h : VQ cs ss now) {k : Nat} (hk : k < ss.length) (hs : (ss.getD k dS).2.1 = 2) : ∃ i, i < cs.length ∧ idxC cs (ss.getD k dS).2.2.2.1 = (i : Int) ∧ (cs.getD i dC).1 = (ss.getD k dS).2.2.2.1 ∧ (cs.getD i dC).2.2.2 = (ss.getD k dS).1 := by
  obtain ⟨i, i1, i2, i3⟩ := VF.l2 h k hk hs
  exact ⟨i, i1, by rw [← i2]; exact idxC_at h i1, i2, i3⟩
section
variable {T : Int} {K : Nat} {cs : List Ca} {ss : List Se} {mw ri re now : Int} {acts : List Ac}
theorem silence_ok (h : GQ T K cs ss mw ri re now acts.length) {k : Nat} (hk : k < ss.length) (hs : (ss.getD k dS).2.1 = 2) (st : Int) (hst : st = 1 ∨ st = 4) (hle : 3 * (T - now) + 2 ≤ 3 * (T - (ss.getD k dS).2.2.1) - 1) :
    GQ T K (silenceM cs ss now acts k st).1 (silenceM cs ss now acts k st).2.1 mw ri re now (silenceM cs ss now acts k st).2.2.length ∧ Phi T now (silenceM cs ss now acts k st).1 (silenceM cs ss now acts k st).2.1 < Phi T now cs ss := by
  obtain ⟨i, i1, i2, i3, i4⟩ := ringee h.v hk hs
  unfold silenceM
  simp only [i2, Int.toNat_natCast]
  have hp := Phi_set T now cs ss k ((ss.getD k dS).1, (st, (now, (0, (ss.getD k dS).2.2.2.2)))) hk
  have e1 : phi T now (ss.getD k dS) = (3 * (T - (ss.getD k dS).2.2.1)).toNat := by unfold phi; rw [if_neg (by omega), if_pos hs]
  have e2 : phi T now ((ss.getD k dS).1, (st, (now, (0, (ss.getD k dS).2.2.2.2)))) ≤ (3 * (T - now)).toNat + 2 := by
    unfold phi; rcases hst with e | e <;> subst e <;> simp <;> omega
  have hT := h.hT
  have hP : Phi T now (setC cs i 0) (setS ss k st now 0) + 1 ≤ Phi T now cs ss := by
    unfold Phi
    rw [setC_len]
    unfold setS
    omega
  refine ⟨⟨h.v.silence i1 hk hs i3 i4 st hst h.h0, by rw [setC_len]; exact h.hc, by rw [setS_len]; exact h.hs, h.h0, h.hT, h.hM, h.hw, h.hi, h.he, ?_, h.hK, ?_, ?_, ?_⟩, by omega⟩
  · have := h.k
    rw [List.length_append, List.length_singleton]; omega
  · intro hm j hj
    rw [setC_len] at hj
    rw [setC_getD cs i _ i1]
    have := h.d1 hm j hj
    split
    · rename_i e; subst e; exact this
    · exact this
  · intro j hj
    rw [setS_len] at hj
    rw [setS_getD ss k _ _ _ hk]
    split
    · intro q; simp only at q; omega
    · exact h.d2 j hj
  · intro j hj
    rw [setS_len] at hj
    rw [setS_getD ss k _ _ _ hk]
    have := h.he
    split
    · intro q; simp only; omega
    · exact h.d3 j hj
theorem free_ok (h : GQ T K cs ss mw ri re now acts.length) {k : Nat} (hk : k < ss.length) (hs : (ss.getD k dS).2.1 = 4) :
    GQ T K cs (setS ss k 1 now 0) mw ri re now acts.length ∧ Phi T now cs (setS ss k 1 now 0) < Phi T now cs ss := by
  have hp := Phi_set T now cs ss k ((ss.getD k dS).1, (1, (now, (0, (ss.getD k dS).2.2.2.2)))) hk
  have e1 : phi T now (ss.getD k dS) = (3 * (T - (ss.getD k dS).2.2.1)).toNat + 2 := by unfold phi; rw [if_neg (by omega), if_neg (by omega), if_pos hs]
  have e2 : phi T now ((ss.getD k dS).1, (1, (now, (0, (ss.getD k dS).2.2.2.2)))) = (3 * (T - now)).toNat + 1 := by unfold phi; rfl
  have hT := h.hT
  have hq := (VF.se h.v k hk)
  have hP : Phi T now cs (setS ss k 1 now 0) + 1 ≤ Phi T now cs ss := by
    unfold Phi
    unfold setS
    omega
  refine ⟨⟨h.v.rest hk (by omega) 1 (.inl rfl) h.h0, h.hc, by rw [setS_len]; exact h.hs, h.h0, h.hT, h.hM, h.hw, h.hi, h.he, ?_, h.hK, h.d1, ?_, ?_⟩, by omega⟩
  · have := h.k
    omega
  · intro j hj
    rw [setS_len] at hj
    rw [setS_getD ss k _ _ _ hk]
    split
    · intro q; simp at q
    · exact h.d2 j hj
  · intro j hj
    rw [setS_len] at hj
    rw [setS_getD ss k _ _ _ hk]
    split
    · intro q; simp at q
    · exact h.d3 j hj
theorem remove_ok (h : GQ T K cs ss mw ri re now acts.length) {i : Nat} (hi : i < cs.length) (l : List Ac) (hl : l.length ≤ 1) :
    GQ T K (removeM cs ss now acts i).1 (removeM cs ss now acts i).2.1 mw ri re now ((removeM cs ss now acts i).2.2 ++ l).length ∧ Phi T now (removeM cs ss now acts i).1 (removeM cs ss now acts i).2.1 < Phi T now cs ss := by
  unfold removeM
  have hlen := erase_len cs hi
  have hk := h.k
  by_cases ha : (cs.getD i dC).2.2.2 = 0
  · rw [if_neg (by simpa using ha)]
    dsimp only
    have hP : Phi T now (cs.take i ++ cs.drop (i + 1)) ss + 3 = Phi T now cs ss := by
      unfold Phi
      rw [hlen]; omega
    refine ⟨⟨h.v.gone hi ha, by show List.length _ ≤ _; rw [hlen]; have := h.hc; omega, h.hs, h.h0, h.hT, h.hM, h.hw, h.hi, h.he, ?_, h.hK, ?_, h.d2, h.d3⟩, by omega⟩
    · rw [List.length_append]; omega
    · intro hm j hj
      rw [hlen] at hj
      rw [getD_erase, if_pos hi]
      split
      · exact h.d1 hm j (by omega)
      · exact h.d1 hm (j + 1) (by omega)
  · rw [if_pos (by simpa using ha)]
    obtain ⟨k, k1, k2, k3, k4, k5⟩ := ringer h.v hi ha
    dsimp only
    simp only [k2, Int.toNat_natCast]
    have hp := Phi_set T now cs ss k ((ss.getD k dS).1, (1, (now, (0, (ss.getD k dS).2.2.2.2)))) k1
    have e1 : phi T now (ss.getD k dS) = (3 * (T - (ss.getD k dS).2.2.1)).toNat := by unfold phi; rw [if_neg (by omega), if_pos k4]
    have e2 : phi T now ((ss.getD k dS).1, (1, (now, (0, (ss.getD k dS).2.2.2.2)))) = (3 * (T - now)).toNat + 1 := by unfold phi; rfl
    have hq := (VF.se h.v k k1)
    have hP : Phi T now (cs.take i ++ cs.drop (i + 1)) (setS ss k 1 now 0) + 2 ≤ Phi T now cs ss := by
      unfold Phi
      rw [hlen]
      unfold setS
      omega
    have hv := (h.v.silence hi k1 k4 k5.symm k3.symm 1 (.inl rfl) h.h0).gone (i := i) (by rw [setC_len]; exact hi) (by rw [setC_getD cs i _ hi, if_pos rfl])
    unfold setC at hv
    rw [erase_set] at hv
    refine ⟨⟨hv, by show List.length _ ≤ _; rw [hlen]; have := h.hc; omega, by rw [setS_len]; exact h.hs, h.h0, h.hT, h.hM, h.hw, h.hi, h.he, ?_, h.hK, ?_, ?_, ?_⟩, by omega⟩
    · rw [List.length_append, List.length_append, List.length_singleton]; omega
    · intro hm j hj
      rw [hlen] at hj
      rw [getD_erase, if_pos hi]
      split
      · exact h.d1 hm j (by omega)
      · exact h.d1 hm (j + 1) (by omega)
    · intro j hj
      rw [setS_len] at hj
      rw [setS_getD ss k _ _ _ k1]
      split
      · intro q; simp at q
      · exact h.d2 j hj
    · intro j hj
      rw [setS_len] at hj
      rw [setS_getD ss k _ _ _ k1]
      split
      · intro q; simp at q
      · exact h.d3 j hj
theorem later_ok (h : GQ T K cs ss mw ri re now acts.length) {t : Int} (h1 : now ≤ t) (h2 : t ≤ T) (h3 : ∀ y ∈ things cs ss mw ri re, t ≤ y.1) : GQ T K cs ss mw ri re t acts.length ∧ Phi T t cs ss ≤ Phi T now cs ss := by
  have hP : Phi T t cs ss ≤ Phi T now cs ss := by
    unfold Phi
    have := sum_le (f := phi T t) (g := phi T now) ss (fun s hs => by unfold phi; split <;> omega)
    omega
  refine ⟨⟨h.v.later h1, h.hc, h.hs, by have := h.h0; omega, h2, h.hM, h.hw, h.hi, h.he, by have := h.k; omega, h.hK, ?_, ?_, ?_⟩, hP⟩
  · intro hm i hi
    exact h3 _ (mem_things.2 (.inl ⟨hm, i, hi, rfl⟩))
  · intro k hk e
    exact h3 _ (mem_things.2 (.inr (.inl ⟨k, hk, e, rfl⟩)))
  · intro k hk e
    exact h3 _ (mem_things.2 (.inr (.inr ⟨k, hk, e, rfl⟩)))
end
def happenM (cs : List Ca) (ss : List Se) (now : Int) (acts : List Ac) (b : Bool) (i : Nat) : List Ca × (List Se × List Ac) :=
  if b = true then ((removeM cs ss now acts i).1, ((removeM cs ss now acts i).2.1, (removeM cs ss now acts i).2.2 ++ [(4, ((cs.getD i dC).1, 0))]))
  else if (ss.getD i dS).2.1 = 2 then silenceM cs ss now acts i 4
  else (cs, (setS ss i 1 now 0, acts))
def pstep (T : Int) : Wk → Option Wk := fun (cs, (ss, (mo, (mw, (ri, (re, (now, acts))))))) =>
  match evt cs ss mw ri re with
  | none => none
  | some (t, (b, i)) => if t > T then none else some (matchM T ((happenM cs ss t acts b i.toNat).1, ((happenM cs ss t acts b i.toNat).2.1, (mo, (mw, (ri, (re, (t, (happenM cs ss t acts b i.toNat).2.2))))))))
theorem happen_ok {T : Int} {K : Nat} {cs : List Ca} {ss : List Se} {mw ri re now : Int} {acts : List Ac} (h : GQ T K cs ss mw ri re now acts.length) {t i : Int} {b : Bool} (e : evt cs ss mw ri re = some (t, (b, i))) (ht : t ≤ T) :
    ∃ j : Nat, i = (j : Int) ∧ (b = true → mw ≠ 0 ∧ j < cs.length ∧ (cs.getD j dC).2.2.1 + mw = t) ∧ (b = false → j < ss.length ∧ ((ss.getD j dS).2.1 = 2 ∧ (ss.getD j dS).2.2.1 + ri = t ∨ (ss.getD j dS).2.1 = 4 ∧ (ss.getD j dS).2.2.1 + re = t)) ∧ now ≤ t ∧
    GQ T K cs ss mw ri re t acts.length ∧
    GQ T K (happenM cs ss t acts b j).1 (happenM cs ss t acts b j).2.1 mw ri re t (happenM cs ss t acts b j).2.2.length ∧ Phi T t (happenM cs ss t acts b j).1 (happenM cs ss t acts b j).2.1 < Phi T now cs ss := by
  obtain ⟨m1, m2⟩ := evt_min e
  rcases mem_things.1 m1 with ⟨hm, j, hj, ex⟩ | ⟨j, hj, hs, ex⟩ | ⟨j, hj, hs, ex⟩
  · cases ex
    have hn := h.d1 hm j hj
    obtain ⟨g, gp⟩ := later_ok h hn ht m2
    have := remove_ok g hj [(4, ((cs.getD j dC).1, 0))] (Nat.le_refl _)
    refine ⟨j, rfl, fun _ => ⟨hm, hj, rfl⟩, (by simp), hn, g, ?_⟩
    unfold happenM
    rw [if_pos rfl]
    exact ⟨this.1, Nat.lt_of_lt_of_le this.2 gp⟩
  · cases ex
    have hn := h.d2 j hj hs
    obtain ⟨g, gp⟩ := later_ok h hn ht m2
    have := silence_ok g hj hs 4 (.inr rfl) (by have := h.hi; omega)
    refine ⟨j, rfl, (by simp), fun _ => ⟨hj, .inl ⟨hs, rfl⟩⟩, hn, g, ?_⟩
    unfold happenM
    rw [if_neg (by simp), if_pos hs]
    exact ⟨this.1, Nat.lt_of_lt_of_le this.2 gp⟩
  · cases ex
    have hn := h.d3 j hj hs
    obtain ⟨g, gp⟩ := later_ok h hn ht m2
    have := free_ok g hj hs
    refine ⟨j, rfl, (by simp), fun _ => ⟨hj, .inr ⟨hs, rfl⟩⟩, hn, g, ?_⟩
    unfold happenM
    rw [if_neg (by simp), if_neg (by omega)]
    exact ⟨this.1, Nat.lt_of_lt_of_le this.2 gp⟩
theorem pstep_ok {T : Int} {K : Nat} {w w' : Wk} (h : GW T K w) (e : pstep T w = some w') : GW T K w' ∧ PhiW T w' < PhiW T w := by
  obtain ⟨cs, ss, mo, mw, ri, re, now, acts⟩ := w
  unfold pstep at e
  simp only at e
  split at e
  · cases e
  · rename_i t b i he
    split at e
    · cases e
    · rename_i ht
      obtain ⟨j, rfl, _, _, _, _, g1, g2⟩ := happen_ok (show GQ T K cs ss mw ri re now acts.length from h) he (by omega)
      cases e
      rw [Int.toNat_natCast]
      have := matchM_ok (T := T) (K := K) (w := ((happenM cs ss t acts b j).1, ((happenM cs ss t acts b j).2.1, (mo, (mw, (ri, (re, (t, (happenM cs ss t acts b j).2.2)))))))) g1
      refine ⟨this.1, Nat.lt_of_le_of_lt this.2.1 g2⟩
def passM (T : Int) (w : Wk) : Wk := iter (pstep T) (PhiW T w) w
end Go.Proofs.Ytkmfgldoljegoaa
