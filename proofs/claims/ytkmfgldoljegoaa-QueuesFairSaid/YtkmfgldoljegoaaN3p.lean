import Derived.Test.YtkmfgldoljegoaaN2p
import Derived.Test.YtkmfgldoljegoaaP1p
set_option linter.unusedVariables false
set_option linter.unusedSimpArgs false
set_option maxRecDepth 100000
set_option maxHeartbeats 4000000
namespace Go.Proofs.Ytkmfgldoljegoaa
open Go.RowKit
theorem tgc_j {δ : Type} (cs : List Ca) (mw : Int) (h : cs.length ≤ 1000) (hb : ∀ i, i < cs.length → 0 ≤ (cs.getD i dC).2.2.1 ∧ (cs.getD i dC).2.2.1 ≤ 1099511627776) (hw : 0 ≤ mw ∧ mw ≤ 86400000) :
    loopO (tgcB (δ := δ) cs mw) ((0 : Int), ([] : List Th)) = some (.inl ((List.range cs.length).flatMap (gC cs mw))) := by
  have := gather_j (gC cs mw) (gC_len cs mw) cs.length (body := tgcB (δ := δ) cs mw) (fun l => .inl l) [] (fun i hi l hl => ?_) (fun l hl => ?_)
  · rw [List.nil_append] at this; exact this
  · simp only [List.length_nil, Nat.zero_add] at hl
    obtain ⟨x, hx, hxb⟩ := get_at dC hi
    have hbi := hb i hi
    unfold gC
    rw [hx] at hbi ⊢
    unfold tgcB
    simp (disch := (first | omega | (simp only [LNl]; omega))) only [↓SDl, SDr, if_pos, if_neg, ↓hxb, wrap_i64', decide_true]
    rfl
  · unfold tgcB
    simp (disch := (first | omega | (simp only [LNl]; omega))) only [↓SDl, SDr, if_pos, if_neg, decide_false]
theorem tgs_j {δ : Type} (ss : List Se) (ri re : Int) (h : ss.length ≤ 1000) (l0 : List Th) (h0 : l0.length ≤ 1000) (hb : ∀ i, i < ss.length → 0 ≤ (ss.getD i dS).2.2.1 ∧ (ss.getD i dS).2.2.1 ≤ 1099511627776) (hi : 0 ≤ ri ∧ ri ≤ 86400000) (he : 0 ≤ re ∧ re ≤ 86400000) :
    loopO (tgsB (δ := δ) ss ri re) ((0 : Int), l0) = some (.inl (l0 ++ tgS ss ri re)) := by
  refine gather_j (gS ss ri re) (gS_len ss ri re) ss.length (body := tgsB (δ := δ) ss ri re) (fun l => .inl l) l0 (fun i hi l hl => ?_) (fun l hl => ?_)
  · obtain ⟨x, hx, hxb⟩ := get_at dS hi
    have hbi := hb i hi
    unfold gS
    rw [hx] at hbi ⊢
    unfold tgsB
    by_cases e : x.2.1 = 2
    · simp (disch := (first | omega | (simp only [LNl]; omega))) only [↓SDl, SDr, if_pos, if_neg, ↓hxb, e, wrap_i64', decide_true]
      rfl
    · by_cases e2 : x.2.1 = 4
      · simp (disch := (first | omega | (simp only [LNl]; omega))) only [↓SDl, SDr, if_pos, if_neg, ↓hxb, e, e2, wrap_i64', decide_true, decide_false]
        rfl
      · simp (disch := (first | omega | (simp only [LNl]; omega))) only [↓SDl, SDr, if_pos, if_neg, ↓hxb, e, e2, wrap_i64', decide_false, List.append_nil]
        rfl
  · unfold tgsB
    simp (disch := (first | omega | (simp only [LNl]; omega))) only [↓SDl, SDr, if_pos, if_neg, decide_false]
theorem thg_j {δ : Type} (cs : List Ca) (ss : List Se) (mw ri re : Int) (hc : cs.length ≤ 1000) (hs : ss.length ≤ 1000) (hbc : ∀ i, i < cs.length → 0 ≤ (cs.getD i dC).2.2.1 ∧ (cs.getD i dC).2.2.1 ≤ 1099511627776) (hbs : ∀ i, i < ss.length → 0 ≤ (ss.getD i dS).2.2.1 ∧ (ss.getD i dS).2.2.1 ≤ 1099511627776)
    (hw : 0 ≤ mw ∧ mw ≤ 86400000) (hi : 0 ≤ ri ∧ ri ≤ 86400000) (he : 0 ≤ re ∧ re ≤ 86400000) : thgB (δ := δ) cs ss mw ri re = some (.inl (things cs ss mw ri re)) := by
  unfold thgB things tgC
  by_cases e : mw = 0
  · subst e
    simp only [ne_eq, not_true_eq_false, decide_false, cond_false, joinO_inl, if_false, List.nil_append]
    simp (disch := (first | omega | (simp only [LNl]; omega))) only [↓SDl, SDr, List.take_nil, tgs_j ss ri re hs [] (Nat.zero_le _) hbs hi he, List.nil_append]
  · have hl := flat_len (gC cs mw) (gC_len cs mw) cs.length
    simp (disch := (first | omega | (simp only [LNl]; omega))) only [↓SDl, SDr, ne_eq, e, not_false_eq_true, decide_true, tgc_j cs mw hc hbc hw, List.nil_append]
    rw [tgs_j ss ri re hs _ (by omega) hbs hi he]
    rfl
theorem lst_j {δ : Type} (L : List Th) (hl : L.length ≤ 1000) : lstK (δ := δ) L = some (.inl (lidx ltT L dT L.length)) := by
  unfold lstK
  have : ∀ {δ : Type}, loopO (lstB (δ := δ) L) ((0 : Int), (-1 : Int)) = some (.inl (lidx ltT L dT L.length)) := by
    intro δ
    refine least_j ltT L dT (body := lstB (δ := δ) L) (fun k => (Sum.inl k : Int ⊕ δ)) (fun i k hi hk => ?_) (fun i j hi hj => ?_) (fun k => ?_)
    · unfold lstB
      simp (disch := (first | omega | (simp only [LNl]; omega))) only [↓SDl, SDr, if_pos, if_neg, wrap_i64']
      rfl
    · obtain ⟨x, hx, hxb⟩ := get_at dT hi
      obtain ⟨y, hy, hyb⟩ := get_at dT hj
      rw [hx, hy]
      unfold lstB ltT
      by_cases e : x.1 < y.1
      · simp (disch := (first | omega | (simp only [LNl]; omega))) only [↓SDl, SDr, if_pos, if_neg, ↓hxb, ↓hyb, e, wrap_i64', decide_true]
        rfl
      · simp (disch := (first | omega | (simp only [LNl]; omega))) only [↓SDl, SDr, if_pos, if_neg, ↓hxb, ↓hyb, e, wrap_i64', decide_false, Bool.false_eq_true]
        rfl
    · unfold lstB
      simp (disch := (first | omega | (simp only [LNl]; omega))) only [↓SDl, SDr, if_pos, if_neg]
  rw [this]
  rfl
theorem get_at' {α β : Type} {l : List α} {i : Nat} (d : α) (h : i < l.length) (f : α → Option β) : bindO l[i]? f = f (l.getD i d) := by rw [get_D' d h]; rfl
theorem take_all' {α : Type} {n : Nat} {l : List α} (h : l.length = n) : List.take n l = l := by rw [← h, List.take_length]
theorem take_drop_all {α : Type} (l : List α) (k : Nat) : List.take (List.length l - k) (List.drop k l) = List.drop k l := List.take_of_length_le (by rw [List.length_drop]; omega)
section
variable {T : Int} {K : Nat} {cs : List Ca} {ss : List Se} {mo mw ri re now : Int} {acts : List Ac}
theorem hap_j {δ : Type} (h : GQ T K cs ss mw ri re now acts.length) {t : Int} {b : Bool} {j : Nat} (hc1 : b = true → j < cs.length) (hs1 : b = false → j < ss.length ∧ ((ss.getD j dS).2.1 = 2 ∨ (ss.getD j dS).2.1 = 4)) :
    hapB (δ := δ) cs ss mo mw ri re now acts (t, (b, (j : Int))) (t, (b, (j : Int))) = some (.inl ((happenM cs ss t acts b j).1, ((happenM cs ss t acts b j).2.1, (mo, (mw, (ri, (re, (t, (happenM cs ss t acts b j).2.2)))))))) := by
  have hc := h.hc
  have hs := h.hs
  have hk := h.k
  have hK := h.hK
  cases b with
  | true =>
    have hj := hc1 rfl
    obtain ⟨x, hx, hxb⟩ := get_at dC hj
    have hxb' := fun {β : Type} (f : Ca → Option β) => (get_at' dC hj f).trans (congrArg f hx)
    have hlen := erase_len cs hj
    unfold hapB happenM removeM
    by_cases ha : (cs.getD j dC).2.2.2 = 0
    · rw [hx] at ha
      simp (disch := (first | omega | (simp only [LNl]; omega))) only [↓SDl, SDr, if_pos, if_neg, ↓hxb, ↓hxb', ha, hx, wrap_i64', Int.toNat_natCast, ne_eq, not_true_eq_false, decide_false, take_drop_all, Int.toNat_natCast_add_one]
    · obtain ⟨k, k1, k2, k3, k4, k5⟩ := ringer h.v hj ha
      rw [hx] at ha k2 k3 k5
      obtain ⟨y, hy, hyb⟩ := get_at dS k1
      have hyb' := fun {β : Type} (f : Se → Option β) => (get_at' dS k1 f).trans (congrArg f hy)
      rw [hy] at k3 k4 k5
      have hi2 := idxC_at h.v hj
      rw [hx] at hi2
      simp (disch := (first | omega | (simp only [LNl]; omega))) only [↓SDl, SDr, if_pos, if_neg, ↓hxb, ↓hxb', ↓hyb, ↓hyb', ha, hx, hy, k2, k3, k5, ↓sof_b, ↓cof_b, hi2, wrap_i64', Int.toNat_natCast, ne_eq, not_false_eq_true, decide_true, take_drop_all, Int.toNat_natCast_add_one, ↓setget_b, List.length_set, take_set_len, List.set_set]
      rw [erase_set]
      unfold setS
      rw [hy, k3]
  | false =>
    obtain ⟨hj, hst⟩ := hs1 rfl
    obtain ⟨x, hx, hxb⟩ := get_at dS hj
    have hxb' := fun {β : Type} (f : Se → Option β) => (get_at' dS hj f).trans (congrArg f hx)
    unfold hapB happenM silenceM setS setC
    rw [hx] at hst
    by_cases h2 : x.2.1 = 2
    · obtain ⟨i, i1, i2, i3, i4⟩ := ringee h.v hj (by rw [hx]; exact h2)
      obtain ⟨y, hy, hyb⟩ := get_at dC i1
      have hyb' := fun {β : Type} (f : Ca → Option β) => (get_at' dC i1 f).trans (congrArg f hy)
      rw [hx] at i2
      simp (disch := (first | omega | (simp only [LNl]; omega))) only [↓SDl, SDr, if_pos, if_neg, ↓hxb, ↓hxb', ↓hyb, ↓hyb', h2, hx, hy, i2, ↓cof_b, wrap_i64', Int.toNat_natCast, decide_true, ↓setget_b, List.length_set, take_set_len, List.set_set, Bool.false_eq_true]
    · simp (disch := (first | omega | (simp only [LNl]; omega))) only [↓SDl, SDr, if_pos, if_neg, ↓hxb, ↓hxb', h2, hx, wrap_i64', Int.toNat_natCast, decide_false, ↓setget_b, List.length_set, take_set_len, List.set_set, Bool.false_eq_true]
theorem GQ.bc (h : GQ T K cs ss mw ri re now acts.length) : ∀ i, i < cs.length → 0 ≤ (cs.getD i dC).2.2.1 ∧ (cs.getD i dC).2.2.1 ≤ 1099511627776 := fun i hi => by
  have := VF.ca h.v i hi
  have := h.hT
  have := h.hM
  omega
theorem GQ.bs (h : GQ T K cs ss mw ri re now acts.length) : ∀ i, i < ss.length → 0 ≤ (ss.getD i dS).2.2.1 ∧ (ss.getD i dS).2.2.1 ≤ 1099511627776 := fun i hi => by
  have := VF.se h.v i hi
  have := h.hT
  have := h.hM
  omega
theorem pass_none {δ : Type} (h : GQ T K cs ss mw ri re now acts.length) (e : pstep T (cs, (ss, (mo, (mw, (ri, (re, (now, acts))))))) = none) :
    passB (δ := δ) T (cs, (ss, (mo, (mw, (ri, (re, (now, acts))))))) = some (.inr (.inl (cs, (ss, (mo, (mw, (ri, (re, (now, acts))))))))) := by
  have hc := h.hc
  have hs := h.hs
  have hi := h.hi
  have hl := things_len cs ss mw ri re
  unfold passB
  unfold pstep at e
  simp only at e
  simp only [thg_j cs ss mw ri re (by omega) (by omega) h.bc h.bs h.hw ⟨by omega, by omega⟩ h.he, joinO_inl, lst_j _ (show (things cs ss mw ri re).length ≤ 1000 from by omega)]
  rcases lidx_cases ltT (things cs ss mw ri re) dT with ⟨_, e1, e2⟩ | ⟨j, hj, e1, e2⟩
  · simp (disch := (first | omega | (simp only [LNl]; omega))) only [↓SDl, SDr, e2]
  · obtain ⟨x, hx, hxb⟩ := get_at dT hj
    have hev : evt cs ss mw ri re = some x := by unfold evt; rw [e1, hx]
    rw [hev] at e
    obtain ⟨t, b, i⟩ := x
    simp only at e
    have ht : t > T := by
      by_cases q : t > T
      · exact q
      · rw [if_neg q] at e; cases e
    simp (disch := (first | omega | (simp only [LNl]; omega))) only [↓SDl, SDr, e2, ↓hxb, ht, decide_true]
theorem pass_some {δ : Type} (h : GQ T K cs ss mw ri re now acts.length) {w' : Wk} (e : pstep T (cs, (ss, (mo, (mw, (ri, (re, (now, acts))))))) = some w') :
    passB (δ := δ) T (cs, (ss, (mo, (mw, (ri, (re, (now, acts))))))) = some (.inl w') := by
  have hc := h.hc
  have hs := h.hs
  have hi := h.hi
  have hl := things_len cs ss mw ri re
  unfold passB
  unfold pstep at e
  simp only at e
  simp only [thg_j cs ss mw ri re (by omega) (by omega) h.bc h.bs h.hw ⟨by omega, by omega⟩ h.he, joinO_inl, lst_j _ (show (things cs ss mw ri re).length ≤ 1000 from by omega)]
  rcases lidx_cases ltT (things cs ss mw ri re) dT with ⟨_, e1, e2⟩ | ⟨j, hj, e1, e2⟩
  · have hev : evt cs ss mw ri re = none := by unfold evt; rw [e1]
    rw [hev] at e
    cases e
  · obtain ⟨x, hx, hxb⟩ := get_at dT hj
    have hev : evt cs ss mw ri re = some x := by unfold evt; rw [e1, hx]
    obtain ⟨t, b, i⟩ := x
    rw [hev] at e
    simp only at e
    have ht : ¬ t > T := by
      intro q
      rw [if_pos q] at e; cases e
    rw [if_neg ht] at e
    obtain ⟨q, rfl, f1, f2, _, _, g1, _⟩ := happen_ok h hev (by omega)
    have hh := hap_j (δ := Wk ⊕ (Wk ⊕ δ)) (mo := mo) h (t := t) (b := b) (j := q) (fun hb => (f1 hb).2.1) (fun hb => ⟨(f2 hb).1, (f2 hb).2.imp And.left And.left⟩)
    rw [Int.toNat_natCast] at e
    have hm := matchL_j (δ := Wk ⊕ (Wk ⊕ δ)) (mo := mo) g1
    generalize happenM cs ss t acts b q = X at hh hm e
    obtain ⟨X1, X2, X3⟩ := X
    simp only at hh hm e
    generalize matchM T (X1, (X2, (mo, (mw, (ri, (re, (t, X3))))))) = Y at hm e
    cases e
    obtain ⟨y1, y2, y3, y4, y5, y6, y7, y8⟩ := w'
    simp (disch := (first | omega | (simp only [LNl]; omega))) only [↓SDl, SDr, e2, ↓hxb, ht, decide_false, hh, hm]
theorem passL_j {δ : Type} (h : GQ T K cs ss mw ri re now acts.length) : loopO (passB (δ := δ) T) (cs, (ss, (mo, (mw, (ri, (re, (now, acts))))))) = some (.inl (passM T (cs, (ss, (mo, (mw, (ri, (re, (now, acts))))))))) :=
  iter_j (f := pstep T) (body := passB (δ := δ) T) (fun w => GW T K w) (PhiW T) (fun w => Sum.inl w) (fun w w' hw e => pstep_ok hw e)
    (fun w w' hw e => by obtain ⟨cs, ss, mo, mw, ri, re, now, acts⟩ := w; exact pass_some hw e)
    (fun w hw e => by obtain ⟨cs, ss, mo, mw, ri, re, now, acts⟩ := w; exact pass_none hw e) _ _ (show GW T K (cs, (ss, (mo, (mw, (ri, (re, (now, acts))))))) from h) (Nat.le_refl _)
end
end Go.Proofs.Ytkmfgldoljegoaa
