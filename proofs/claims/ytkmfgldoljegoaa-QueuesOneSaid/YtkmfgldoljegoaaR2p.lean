import Derived.Test.YtkmfgldoljegoaaR1p
import Derived.Test.YtkmfgldoljegoaaP4p
set_option linter.unusedVariables false
set_option linter.unusedSimpArgs false
set_option maxRecDepth 100000
set_option maxHeartbeats 4000000
namespace Go.Proofs.Ytkmfgldoljegoaa
open Go.RowKit
theorem dnc_j {δ : Type} (cs : List Ca) (h : cs.length ≤ 1000) : loopO (dncB (δ := δ) cs) ((0 : Int), (-1 : Int)) = some (.inl ((cs.length : Int), toI (nextC cs))) := by
  have := fold_j (fun i => if (cs.getD i dC).2.2.2 = 0 then [(i : Int)] else []) (pk (ltC cs)) (fun i s => ((i : Int), toI s)) cs.length (body := dncB (δ := δ) cs) (fun s => (Sum.inl ((cs.length : Int), toI s) : (Int × Int) ⊕ δ)) none (fun i s => ∀ x, s = some x → ∃ q : Nat, x = (q : Int) ∧ q < i) (fun x hx => by cases hx) (fun i hi s hs => ?_) (fun s hs => ?_)
  · exact this.1
  · obtain ⟨x, hx, hxb⟩ := get_at dC hi
    simp only [hx]
    by_cases e : x.2.2.2 = 0
    · rw [if_pos e]
      simp only [List.foldl_cons, List.foldl_nil]
      cases s with
      | none =>
        refine ⟨?_, fun y hy => by cases hy; exact ⟨i, rfl, by omega⟩⟩
        unfold dncB toI
        simp (disch := (first | omega | (simp only [LNl]; omega))) only [↓SDl, SDr, if_pos, if_neg, ↓hxb, wrap_i64']
        rfl
      | some y =>
        obtain ⟨q, rfl, hq⟩ := hs y rfl
        obtain ⟨z, hz, hzb⟩ := get_at dC (show q < cs.length from by omega)
        rw [show pk (ltC cs) (some (q : Int)) (i : Int) = if ltC cs (i : Int) (q : Int) = true then some (i : Int) else some (q : Int) from rfl]
        unfold ltC
        rw [Int.toNat_natCast, Int.toNat_natCast, hx, hz]
        unfold dncB toI
        by_cases g : x.2.1 > z.2.1
        · rw [if_pos (decide_eq_true g)]
          simp (disch := (first | omega | (simp only [LNl]; omega))) only [↓SDl, SDr, if_pos, if_neg, ↓hxb, ↓hzb, wrap_i64']
          exact ⟨rfl, fun y hy => by cases hy; exact ⟨i, rfl, by omega⟩⟩
        · rw [if_neg (by simpa using g)]
          simp (disch := (first | omega | (simp only [LNl]; omega))) only [↓SDl, SDr, if_pos, if_neg, ↓hxb, ↓hzb, wrap_i64']
          exact ⟨rfl, fun y hy => by cases hy; exact ⟨q, rfl, by omega⟩⟩
    · rw [if_neg e]
      simp only [List.foldl_nil]
      refine ⟨?_, fun y hy => by obtain ⟨q, h1, h2⟩ := hs y hy; exact ⟨q, h1, by omega⟩⟩
      unfold dncB
      simp (disch := (first | omega | (simp only [LNl]; omega))) only [↓SDl, SDr, if_pos, if_neg, ↓hxb, wrap_i64']
      rfl
  · unfold dncB
    simp (disch := (first | omega | (simp only [LNl]; omega))) only [↓SDl, SDr, if_neg]
theorem dns_j {δ : Type} (cs : List Se) (h : cs.length ≤ 1000) : loopO (dnsB (δ := δ) cs) ((0 : Int), (-1 : Int)) = some (.inl ((cs.length : Int), toI (nextS cs))) := by
  have := fold_j (fun i => if (cs.getD i dS).2.1 = 1 then [(i : Int)] else []) (pk (ltS cs)) (fun i s => ((i : Int), toI s)) cs.length (body := dnsB (δ := δ) cs) (fun s => (Sum.inl ((cs.length : Int), toI s) : (Int × Int) ⊕ δ)) none (fun i s => ∀ x, s = some x → ∃ q : Nat, x = (q : Int) ∧ q < i) (fun x hx => by cases hx) (fun i hi s hs => ?_) (fun s hs => ?_)
  · exact this.1
  · obtain ⟨x, hx, hxb⟩ := get_at dS hi
    simp only [hx]
    by_cases e : x.2.1 = 1
    · rw [if_pos e]
      simp only [List.foldl_cons, List.foldl_nil]
      cases s with
      | none =>
        refine ⟨?_, fun y hy => by cases hy; exact ⟨i, rfl, by omega⟩⟩
        unfold dnsB toI
        simp (disch := (first | omega | (simp only [LNl]; omega))) only [↓SDl, SDr, if_pos, if_neg, ↓hxb, wrap_i64']
        rfl
      | some y =>
        obtain ⟨q, rfl, hq⟩ := hs y rfl
        obtain ⟨z, hz, hzb⟩ := get_at dS (show q < cs.length from by omega)
        rw [show pk (ltS cs) (some (q : Int)) (i : Int) = if ltS cs (i : Int) (q : Int) = true then some (i : Int) else some (q : Int) from rfl]
        unfold ltS
        rw [Int.toNat_natCast, Int.toNat_natCast, hx, hz]
        unfold dnsB toI
        by_cases g : x.2.2.1 < z.2.2.1
        · rw [if_pos (decide_eq_true g)]
          simp (disch := (first | omega | (simp only [LNl]; omega))) only [↓SDl, SDr, if_pos, if_neg, ↓hxb, ↓hzb, wrap_i64']
          exact ⟨rfl, fun y hy => by cases hy; exact ⟨i, rfl, by omega⟩⟩
        · rw [if_neg (by simpa using g)]
          simp (disch := (first | omega | (simp only [LNl]; omega))) only [↓SDl, SDr, if_pos, if_neg, ↓hxb, ↓hzb, wrap_i64']
          exact ⟨rfl, fun y hy => by cases hy; exact ⟨q, rfl, by omega⟩⟩
    · rw [if_neg e]
      simp only [List.foldl_nil]
      refine ⟨?_, fun y hy => by obtain ⟨q, h1, h2⟩ := hs y hy; exact ⟨q, h1, by omega⟩⟩
      unfold dnsB
      simp (disch := (first | omega | (simp only [LNl]; omega))) only [↓SDl, SDr, if_pos, if_neg, ↓hxb, wrap_i64']
      rfl
  · unfold dnsB
    simp (disch := (first | omega | (simp only [LNl]; omega))) only [↓SDl, SDr, if_neg]
theorem idxC_gone {cs : List Ca} {ss : List Se} {now : Int} (h : VQ cs ss now) {i : Nat} (hi : i < cs.length) : idxC (cs.take i ++ cs.drop (i + 1)) (cs.getD i dC).1 = -1 := by
  refine idxC_none fun j hj => ?_
  rw [erase_len cs hi] at hj
  rw [getD_erase, if_pos hi]
  split
  · exact (VF.cd h j i (by omega) hi).1
  · exact fun e => (VF.cd h i (j + 1) (by omega) (by omega)).1 e.symm
theorem at_j {δ : Type} (cs : List Ca) (ss : List Se) (now : Int) (h : VQ cs ss now) (a : Int) (hl : ss.length ≤ 1000) (hn : ∀ k, k < ss.length → (ss.getD k dS).1 ≠ a) : loopO (datB (δ := δ) ss a) 0 = some (.inl ((posS ss a : Nat) : Int)) := by
  have hp := posS_le ss a
  refine loopO_from (fun q => (q : Int)) (posS ss a) rfl (fun q hq => ?_) ?_
  · obtain ⟨x, hx, hxb⟩ := get_at dS (show q < ss.length from by omega)
    have h1 := posS_lt hq
    have h2 := hn q (by omega)
    rw [hx] at h1 h2
    unfold datB
    simp (disch := (first | omega | (simp only [LNl]; omega))) only [↓SDl, SDr, if_pos, if_neg, ↓hxb, wrap_i64']
    rfl
  · unfold datB
    by_cases e : posS ss a < ss.length
    · obtain ⟨x, hx, hxb⟩ := get_at dS e
      have h1 := posS_ge h (Nat.le_refl _) e
      rw [hx] at h1
      simp (disch := (first | omega | (simp only [LNl]; omega))) only [↓SDl, SDr, if_pos, if_neg, ↓hxb]
    · simp (disch := (first | omega | (simp only [LNl]; omega))) only [↓SDl, SDr, if_neg]
section
variable {T : Int} {K : Nat} {cs : List Ca} {ss : List Se} {mo mw ri re now : Int} {acts : List Ac}
theorem dmatch_none {δ : Type} (h : GQ T K cs ss mw ri re now acts.length) (e : mstep (cs, (ss, (mo, (mw, (ri, (re, (now, acts))))))) = none) :
    dmatchB (δ := δ) (cs, (ss, (mo, (mw, (ri, (re, (now, acts))))))) = some (.inr (.inl (cs, (ss, (mo, (mw, (ri, (re, (now, acts))))))))) := by
  have hc := h.hc
  have hs := h.hs
  unfold dmatchB
  simp only [dnc_j cs (show cs.length ≤ 1000 from by omega), dns_j ss (show ss.length ≤ 1000 from by omega), joinO_inl]
  rcases mstep_none_iff.1 e with e1 | e1
  · simp only at e1
    simp (disch := (first | omega | (simp only [LNl]; omega))) only [↓SDl, SDr, e1, toI]
  · simp only at e1
    rcases nextC_cases cs with ⟨h1, _⟩ | ⟨i, h1, _, _⟩
    · simp (disch := (first | omega | (simp only [LNl]; omega))) only [↓SDl, SDr, h1, toI]
    · simp (disch := (first | omega | (simp only [LNl]; omega))) only [↓SDl, SDr, h1, e1, toI]
theorem dmatch_some {δ : Type} (h : GQ T K cs ss mw ri re now acts.length) {w' : Wk} (e : mstep (cs, (ss, (mo, (mw, (ri, (re, (now, acts))))))) = some w') :
    dmatchB (δ := δ) (cs, (ss, (mo, (mw, (ri, (re, (now, acts))))))) = some (.inl w') := by
  have hc := h.hc
  have hs := h.hs
  have hk := h.k
  have hK := h.hK
  unfold mstep at e
  simp only at e
  rcases nextC_cases cs with ⟨h1, h2⟩ | ⟨i, h1, h2, h3⟩
  · rw [h1] at e; simp at e
  · rcases nextS_cases ss with ⟨g1, g2⟩ | ⟨k, g1, g2, g3⟩
    · rw [h1, g1] at e; simp at e
    · rw [h1, g1] at e
      simp only [Option.some.injEq, Int.toNat_natCast] at e
      subst e
      obtain ⟨x, hx, hxb⟩ := get_at dC h2
      obtain ⟨y, hy, hyb⟩ := get_at dS g2
      unfold dmatchB setC setS
      simp only [dnc_j cs (show cs.length ≤ 1000 from by omega), dns_j ss (show ss.length ≤ 1000 from by omega), joinO_inl, h1, g1, toI, hx, hy]
      simp (disch := (first | omega | (simp only [LNl]; omega))) only [↓SDl, SDr, ↓hxb, ↓hyb, ↓setget_b, List.length_set, take_set_len, List.set_set, Int.toNat_natCast]
theorem dmatchL_j {δ : Type} (h : GQ T K cs ss mw ri re now acts.length) : loopO (dmatchB (δ := δ)) (cs, (ss, (mo, (mw, (ri, (re, (now, acts))))))) = some (.inl (matchM T (cs, (ss, (mo, (mw, (ri, (re, (now, acts))))))))) :=
  iter_j (f := mstep) (body := dmatchB (δ := δ)) (fun w => GW T K w) (PhiW T) (fun w => Sum.inl w) (fun w w' hw e => mstep_ok hw e)
    (fun w w' hw e => by obtain ⟨cs, ss, mo, mw, ri, re, now, acts⟩ := w; exact dmatch_some hw e)
    (fun w hw e => by obtain ⟨cs, ss, mo, mw, ri, re, now, acts⟩ := w; exact dmatch_none hw e) _ _ (show GW T K (cs, (ss, (mo, (mw, (ri, (re, (now, acts))))))) from h) (Nat.le_refl _)
theorem dend_j (h : GQ T K cs ss mw ri re now acts.length) : joinO (loopO dmatchB (cs, (ss, (mo, (mw, (ri, (re, (now, acts)))))))) endL = some (resM (matchM T (cs, (ss, (mo, (mw, (ri, (re, (now, acts))))))))) := by
  rw [dmatchL_j h, joinO_inl, endL_j]
theorem dhap_j {δ : Type} (h : GQ T K cs ss mw ri re now acts.length) {t : Int} {b : Bool} {j : Nat} (hc1 : b = true → j < cs.length) (hs1 : b = false → j < ss.length ∧ ((ss.getD j dS).2.1 = 2 ∨ (ss.getD j dS).2.1 = 4)) :
    dhapB (δ := δ) cs ss mo mw ri re acts t (if b = true then (j : Int) else -1) (if b = true then -1 else (j : Int)) = some (.inl ((happenM cs ss t acts b j).1, ((happenM cs ss t acts b j).2.1, (mo, (mw, (ri, (re, (t, (happenM cs ss t acts b j).2.2)))))))) := by
  have hc := h.hc
  have hs := h.hs
  have hk := h.k
  have hK := h.hK
  cases b with
  | true =>
    have hj := hc1 rfl
    obtain ⟨x, hx, hxb⟩ := get_at dC hj
    have hxb' := fun {β : Type} (f : Ca → Option β) => (get_at' dC hj f).trans (congrArg f hx)
    have hlen := erase_len cs hj
    simp only [if_true]
    unfold dhapB happenM removeM
    by_cases ha : (cs.getD j dC).2.2.2 = 0
    · rw [hx] at ha
      simp (disch := (first | omega | (simp only [LNl]; omega))) only [↓SDl, SDr, if_pos, if_neg, ↓hxb, ↓hxb', ha, hx, wrap_i64', Int.toNat_natCast, ne_eq, not_true_eq_false, decide_false, take_drop_all, Int.toNat_natCast_add_one]
    · obtain ⟨k, k1, k2, k3, k4, k5⟩ := ringer h.v hj ha
      rw [hx] at ha k2 k3 k5
      obtain ⟨y, hy, hyb⟩ := get_at dS k1
      have hyb' := fun {β : Type} (f : Se → Option β) => (get_at' dS k1 f).trans (congrArg f hy)
      rw [hy] at k3 k4 k5
      have hi2 := idxC_gone h.v hj
      rw [hx] at hi2
      unfold setS
      simp (disch := (first | omega | (simp only [LNl]; omega))) only [↓SDl, SDr, if_pos, if_neg, ↓hxb, ↓hyb, ↓hxb', ↓hyb', ha, hx, hy, k2, k3, k5, ↓rst_b, ↓wts_b, hi2, wrap_i64', Int.toNat_natCast, ne_eq, not_false_eq_true, decide_true, take_drop_all, Int.toNat_natCast_add_one, ↓setget_b, List.length_set, take_set_len, List.set_set]
  | false =>
    obtain ⟨hj, hst⟩ := hs1 rfl
    obtain ⟨x, hx, hxb⟩ := get_at dS hj
    have hxb' := fun {β : Type} (f : Se → Option β) => (get_at' dS hj f).trans (congrArg f hx)
    have hf0 := VF.f0 h.v j hj
    simp only [Bool.false_eq_true, if_false]
    unfold dhapB happenM silenceM setS setC
    rw [hx] at hst
    by_cases h2 : x.2.1 = 2
    · obtain ⟨i, i1, i2, i3, i4⟩ := ringee h.v hj (by rw [hx]; exact h2)
      obtain ⟨y, hy, hyb⟩ := get_at dC i1
      have hyb' := fun {β : Type} (f : Ca → Option β) => (get_at' dC i1 f).trans (congrArg f hy)
      rw [hx] at i2
      simp (disch := (first | omega | (simp only [LNl]; omega))) only [↓SDl, SDr, if_pos, if_neg, ↓hxb, ↓hyb, ↓hxb', ↓hyb', h2, hx, hy, i2, ↓wts_b, wrap_i64', Int.toNat_natCast, decide_true, ↓setget_b, List.length_set, take_set_len, List.set_set, Bool.false_eq_true]
    · have hc0 : x.2.2.2.1 = 0 := by
        have := hf0 (.inr (by show (ss.getD j dS).2.1 = 4; rw [hx]; omega))
        simp only [hx] at this
        exact this
      simp (disch := (first | omega | (simp only [LNl]; omega))) only [↓SDl, SDr, if_pos, if_neg, ↓hxb, ↓hxb', h2, hx, hc0, wrap_i64', Int.toNat_natCast, decide_false, ↓setget_b, List.length_set, take_set_len, List.set_set, Bool.false_eq_true]
theorem due_b {β : Type} (h : GQ T K cs ss mw ri re now acts.length) (t : Int) (f : Int × (Int × (Int × Bool)) → Option β) : bindO (dialtoneref36_due (cs, (ss, (mo, (mw, (ri, (re, t))))))) f = f (encT (evt cs ss mw ri re)) := by
  have hc := h.hc
  have hs := h.hs
  have hT := h.hT
  have hM := h.hM
  rw [due_j h.v (by omega) h.hw h.hi h.he (by omega) (by omega)]; rfl
theorem dpass_none {δ : Type} (h : GQ T K cs ss mw ri re now acts.length) (e : pstep T (cs, (ss, (mo, (mw, (ri, (re, (now, acts))))))) = none) :
    dpassB (δ := δ) T (cs, (ss, (mo, (mw, (ri, (re, (now, acts))))))) = some (.inr (.inl (cs, (ss, (mo, (mw, (ri, (re, (now, acts))))))))) := by
  have hd := fun {β : Type} (f : Int × (Int × (Int × Bool)) → Option β) => due_b (mo := mo) h now f
  unfold dpassB
  unfold pstep at e
  simp only at e
  cases hev : evt cs ss mw ri re with
  | none =>
    rw [hev] at hd
    simp (disch := (first | omega | (simp only [LNl]; omega))) only [↓SDl, SDr, ↓hd, encT]
  | some x =>
    rw [hev] at hd e
    obtain ⟨t, b, i⟩ := x
    simp only at e
    have ht : t > T := by
      by_cases q : t > T
      · exact q
      · rw [if_neg q] at e; cases e
    cases b with
    | true => simp (disch := (first | omega | (simp only [LNl]; omega))) only [↓SDl, SDr, ↓hd, encT, ht, decide_true]
    | false => simp (disch := (first | omega | (simp only [LNl]; omega))) only [↓SDl, SDr, ↓hd, encT, ht, decide_true]
theorem dpass_some {δ : Type} (h : GQ T K cs ss mw ri re now acts.length) {w' : Wk} (e : pstep T (cs, (ss, (mo, (mw, (ri, (re, (now, acts))))))) = some w') :
    dpassB (δ := δ) T (cs, (ss, (mo, (mw, (ri, (re, (now, acts))))))) = some (.inl w') := by
  have hd := fun {β : Type} (f : Int × (Int × (Int × Bool)) → Option β) => due_b (mo := mo) h now f
  unfold dpassB
  unfold pstep at e
  simp only at e
  cases hev : evt cs ss mw ri re with
  | none => rw [hev] at e; cases e
  | some x =>
    obtain ⟨t, b, i⟩ := x
    have hev' := hev
    rw [hev] at hd e
    simp only at e
    have ht : ¬ t > T := by
      intro q
      rw [if_pos q] at e; cases e
    rw [if_neg ht] at e
    obtain ⟨q, rfl, f1, f2, _, _, g1, _⟩ := happen_ok h hev' (by omega)
    have hh := dhap_j (δ := Wk ⊕ (Wk ⊕ δ)) (mo := mo) h (t := t) (b := b) (j := q) (fun hb => (f1 hb).2.1) (fun hb => ⟨(f2 hb).1, (f2 hb).2.imp And.left And.left⟩)
    rw [Int.toNat_natCast] at e
    have hm := dmatchL_j (δ := Wk ⊕ (Wk ⊕ δ)) (mo := mo) g1
    generalize happenM cs ss t acts b q = X at hh hm e
    obtain ⟨X1, X2, X3⟩ := X
    simp only at hh hm e
    generalize matchM T (X1, (X2, (mo, (mw, (ri, (re, (t, X3))))))) = Y at hm e
    cases e
    obtain ⟨y1, y2, y3, y4, y5, y6, y7, y8⟩ := w'
    cases b with
    | true =>
      simp only [if_true] at hh
      simp (disch := (first | omega | (simp only [LNl]; omega))) only [↓SDl, SDr, ↓hd, encT, ht, decide_false, hh, hm]
    | false =>
      simp only [Bool.false_eq_true, if_false] at hh
      simp (disch := (first | omega | (simp only [LNl]; omega))) only [↓SDl, SDr, ↓hd, encT, ht, decide_false, hh, hm]
theorem dpassL_j {δ : Type} (h : GQ T K cs ss mw ri re now acts.length) : loopO (dpassB (δ := δ) T) (cs, (ss, (mo, (mw, (ri, (re, (now, acts))))))) = some (.inl (passM T (cs, (ss, (mo, (mw, (ri, (re, (now, acts))))))))) :=
  iter_j (f := pstep T) (body := dpassB (δ := δ) T) (fun w => GW T K w) (PhiW T) (fun w => Sum.inl w) (fun w w' hw e => pstep_ok hw e)
    (fun w w' hw e => by obtain ⟨cs, ss, mo, mw, ri, re, now, acts⟩ := w; exact dpass_some hw e)
    (fun w hw e => by obtain ⟨cs, ss, mo, mw, ri, re, now, acts⟩ := w; exact dpass_none hw e) _ _ (show GW T K (cs, (ss, (mo, (mw, (ri, (re, (now, acts))))))) from h) (Nat.le_refl _)
end
section
variable {T : Int} {K : Nat} {cs : List Ca} {ss : List Se} {mo mw ri re now : Int} {acts : List Ac}
theorem dAdvanceR_j (h : GQ T K cs ss mw ri re now acts.length) : dAdvanceR now (cs, (ss, (mo, (mw, (ri, (re, (now, acts))))))) = some (resM (matchM T (cs, (ss, (mo, (mw, (ri, (re, (now, acts))))))))) := by
  unfold dAdvanceR
  simp (disch := (first | omega | (simp only [LNl]; omega))) only [↓SDl, SDr]
  exact dend_j h
theorem dJoinR_j (h : GQ T K cs ss mw ri re now acts.length) (call pr : Int) (hT : now = T) (hc : 1 ≤ call ∧ call ≤ 2147483647) (hK : Phi T now cs ss + acts.length + 3 ≤ K) :
    (¬ (0 ≤ pr ∧ pr ≤ 10) ∧ dJoinR call pr now (cs, (ss, (mo, (mw, (ri, (re, (now, acts))))))) = some (failR 2)) ∨
    ((0 ≤ pr ∧ pr ≤ 10) ∧ (idxC cs call ≥ 0 ∨ Busy ss call) ∧ dJoinR call pr now (cs, (ss, (mo, (mw, (ri, (re, (now, acts))))))) = some (failR 7)) ∨
    ((0 ≤ pr ∧ pr ≤ 10) ∧ ¬ (idxC cs call ≥ 0) ∧ ¬ Busy ss call ∧ (cs.length : Int) ≥ mo ∧ dJoinR call pr now (cs, (ss, (mo, (mw, (ri, (re, (now, acts))))))) = some (failR 10)) ∨
    ((0 ≤ pr ∧ pr ≤ 10) ∧ ¬ (idxC cs call ≥ 0) ∧ ¬ Busy ss call ∧ (cs.length : Int) < mo ∧ (cs.length < 100 → GQ T K (cs ++ [(call, (pr, (now, 0)))]) ss mw ri re now acts.length ∧ dJoinR call pr now (cs, (ss, (mo, (mw, (ri, (re, (now, acts))))))) = some (resM (matchM T (cs ++ [(call, (pr, (now, 0)))], (ss, (mo, (mw, (ri, (re, (now, acts)))))))))) ) := by
  have h1 := h.hc
  have h2 := h.hs
  unfold dJoinR
  by_cases hp : 0 ≤ pr ∧ pr ≤ 10
  · right
    by_cases hi : idxC cs call ≥ 0
    · left
      refine ⟨hp, .inl hi, ?_⟩
      simp (disch := (first | omega | (simp only [LNl]; omega))) only [↓SDl, SDr, ↓frm_b, ↓wts_b, hp, hi, decide_true, and_self]
      rfl
    · rcases (dbz_j cs ss mo mw ri re now call (by omega)).b with ⟨hb, bz⟩ | ⟨hb, bz⟩
      · left
        refine ⟨hp, .inr hb, ?_⟩
        simp (disch := (first | omega | (simp only [LNl]; omega))) only [↓SDl, SDr, ↓frm_b, ↓wts_b, ↓bz, hp, hi, decide_true, decide_false, and_self]
        rfl
      · right
        by_cases hm : (cs.length : Int) ≥ mo
        · left
          refine ⟨hp, hi, hb, hm, ?_⟩
          simp (disch := (first | omega | (simp only [LNl]; omega))) only [↓SDl, SDr, ↓frm_b, ↓wts_b, ↓bz, hp, hi, hm, decide_true, decide_false, and_self]
          rfl
        · right
          refine ⟨hp, hi, hb, by omega, fun h100 => ?_⟩
          have hg : GQ T K (cs ++ [(call, (pr, (now, 0)))]) ss mw ri re now acts.length := by
            have hn : ∀ i, i < cs.length → (cs.getD i dC).1 ≠ call := by
              intro i hil e
              have := idxC_at h.v hil
              rw [e] at this
              omega
            have hl : (cs ++ [(call, (pr, (now, 0)))]).length = cs.length + 1 := by rw [List.length_append, List.length_singleton]
            refine ⟨h.v.comes ⟨hc.1, hc.2, hp.1, hp.2⟩ rfl rfl h.h0 hn (fun k hk e1 e2 => hb ⟨k, hk, e1, e2⟩), by rw [hl]; omega, h.hs, h.h0, h.hT, h.hM, h.hw, h.hi, h.he, ?_, h.hK, ?_, h.d2, h.d3⟩
            · unfold Phi at hK ⊢
              rw [hl]; omega
            · intro hmw i hi
              rw [getD_snoc]
              have := h.hw
              split
              · rename_i q; exact h.d1 hmw i q
              · split
                · show now ≤ now + mw; omega
                · rename_i q1 q2; rw [hl] at hi; omega
          refine ⟨hg, ?_⟩
          have he := dend_j (mo := mo) hg
          simp (disch := (first | omega | (simp only [LNl]; omega))) only [↓SDl, SDr, ↓frm_b, ↓wts_b, ↓bz, hp, hi, hm, decide_true, decide_false, and_self]
          exact he
  · left
    refine ⟨hp, ?_⟩
    simp (disch := (first | omega | (simp only [LNl]; omega))) only [↓SDl, SDr, ↓frm_b, hp, decide_false]
    rfl
theorem dLeaveR_j (h : GQ T K cs ss mw ri re now acts.length) (call : Int) :
    (idxC cs call = -1 ∧ dLeaveR call now (cs, (ss, (mo, (mw, (ri, (re, (now, acts))))))) = some (failR 8)) ∨
    (∃ i : Nat, idxC cs call = (i : Int) ∧ i < cs.length ∧ GQ T K (removeM cs ss now acts i).1 (removeM cs ss now acts i).2.1 mw ri re now (removeM cs ss now acts i).2.2.length ∧
      dLeaveR call now (cs, (ss, (mo, (mw, (ri, (re, (now, acts))))))) = some (resM (matchM T ((removeM cs ss now acts i).1, ((removeM cs ss now acts i).2.1, (mo, (mw, (ri, (re, (now, (removeM cs ss now acts i).2.2)))))))))) := by
  have h1 := h.hc
  have h2 := h.hs
  have hk := h.k
  have hK := h.hK
  by_cases hf : cs.findIdx (fun c => decide (c.1 = call)) < cs.length
  · right
    generalize hj : cs.findIdx (fun c => decide (c.1 = call)) = j at hf
    have hi : idxC cs call = (j : Int) := by unfold idxC; rw [hj, if_pos hf]
    have hg := (remove_ok h hf [] (Nat.zero_le _)).1
    rw [List.append_nil] at hg
    refine ⟨j, hi, hf, hg, ?_⟩
    have he := dend_j (mo := mo) hg
    obtain ⟨x, hx, hxb⟩ := get_at dC hf
    have hxb' := fun {β : Type} (f : Ca → Option β) => (get_at' dC hf f).trans (congrArg f hx)
    have hlen := erase_len cs hf
    revert he
    unfold dLeaveR removeM
    by_cases ha : (cs.getD j dC).2.2.2 = 0
    · rw [hx] at ha
      intro he
      simp only [hx, ha, ne_eq, not_true_eq_false, if_false] at he ⊢
      simp (maxSteps := 1000000) (disch := (first | omega | (simp only [LNl]; omega))) only [↓SDl, SDr, if_pos, if_neg, ↓hxb, ↓hxb', ha, hx, hi, ↓wts_b, wrap_i64', Int.toNat_natCast, ne_eq, not_true_eq_false, decide_false, take_drop_all, Int.toNat_natCast_add_one]
      exact he
    · obtain ⟨k, k1, k2, k3, k4, k5⟩ := ringer h.v hf ha
      rw [hx] at ha k2 k3 k5
      obtain ⟨y, hy, hyb⟩ := get_at dS k1
      have hyb' := fun {β : Type} (f : Se → Option β) => (get_at' dS k1 f).trans (congrArg f hy)
      rw [hy] at k3 k4 k5
      have hi2 := idxC_gone h.v hf
      rw [hx] at hi2
      intro he
      unfold setS at he ⊢
      simp only [hx, hy, ha, k2, k3, k5, Int.toNat_natCast, ne_eq, not_false_eq_true, if_true] at he ⊢
      simp (maxSteps := 1000000) (disch := (first | omega | (simp only [LNl]; omega))) only [↓SDl, SDr, if_pos, if_neg, ↓hxb, ↓hyb, ↓hxb', ↓hyb', ha, hx, hy, hi, k2, k3, k5, ↓rst_b, ↓wts_b, hi2, wrap_i64', Int.toNat_natCast, ne_eq, not_false_eq_true, decide_true, take_drop_all, Int.toNat_natCast_add_one, ↓setget_b, List.length_set, take_set_len, List.set_set, erase_set]
      exact he
  · left
    have hi : idxC cs call = -1 := by unfold idxC; rw [if_neg hf]
    refine ⟨hi, ?_⟩
    unfold dLeaveR
    simp (maxSteps := 1000000) (disch := (first | omega | (simp only [LNl]; omega))) only [↓SDl, SDr, ↓wts_b, hi]
    rfl
theorem dLoginR_j (h : GQ T K cs ss mw ri re now acts.length) (hT : now = T) (hK2 : K + 3 ≤ 3000000000000) {a : Int} (ha : 1 ≤ a ∧ a ≤ 2147483647) :
    dLoginR a now (cs, (ss, (mo, (mw, (ri, (re, (now, acts))))))) = if idxT ss a ≥ 0 then some (failR 7) else if ss.length ≥ 100 then some (failR 10) else some (resM (matchM T (cs, (insS ss (a, (1, (now, (0, 0)))) (posS ss a), (mo, (mw, (ri, (re, (now, acts))))))))) := by
  have h1 := h.hc
  have h2 := h.hs
  have hk := h.k
  have hK := h.hK
  unfold dLoginR
  by_cases hi : idxT ss a ≥ 0
  · simp (disch := (first | omega | (simp only [LNl]; omega))) only [↓SDl, SDr, ↓rst_b, hi, decide_true]
    rfl
  · rw [if_neg hi]
    by_cases hs : ss.length ≥ 100
    · rw [if_pos hs]
      have hs' : ((ss.length : Nat) : Int) ≥ 100 := by omega
      simp (disch := (first | omega | (simp only [LNl]; omega))) only [↓SDl, SDr, ↓rst_b, hi, hs', decide_true, decide_false]
      rfl
    · rw [if_neg hs]
      have hn : ∀ k, k < ss.length → (ss.getD k dS).1 ≠ a := by
        rcases idxT_cases ss a with ⟨_, g⟩ | ⟨k, g, _⟩
        · exact g
        · omega
      have hg := login_ok h hT hK2 (by omega) ha hn
      have he := dend_j (mo := mo) hg
      have hat := at_j (δ := Rt) cs ss now h.v a (by omega) hn
      have hl := insS_len ss (a, (1, (now, (0, 0)))) (posS_le ss a)
      have hp := posS_le ss a
      unfold insS at he hl
      have e3 : List.take (posS ss a) ss ++ (a, (1, (now, (0, 0)))) :: List.drop (posS ss a) ss = (List.take (posS ss a) ss ++ [(a, (1, (now, (0, 0))))]) ++ List.drop (posS ss a) ss := by rw [List.append_assoc]; rfl
      unfold insS
      rw [e3] at he ⊢
      revert he
      clear hg e3
      generalize posS ss a = p at hat hp
      generalize hR : (some (resM (matchM T (cs, (List.take p ss ++ [(a, (1, (now, (0, 0))))] ++ List.drop p ss, (mo, (mw, (ri, (re, (now, acts)))))))))) = R
      intro he
      simp (disch := (first | omega | (simp only [LNl]; omega))) only [↓SDl, SDr, ↓rst_b, hi, decide_false]
      rw [hat, joinO_inl]
      simp (disch := (first | omega | (simp only [LNl]; omega))) only [↓SDl, SDr, Int.toNat_natCast, take_drop_all]
      exact he
theorem dLogoutR_j (h : GQ T K cs ss mw ri re now acts.length) (hT : now = T) (hK2 : K + 3 ≤ 3000000000000) (a : Int) :
    (idxT ss a = -1 ∧ dLogoutR a now (cs, (ss, (mo, (mw, (ri, (re, (now, acts))))))) = some (failR 8)) ∨ ∃ k : Nat, idxT ss a = (k : Int) ∧ k < ss.length ∧
     ((ss.getD k dS).2.1 = 3 → dLogoutR a now (cs, (ss, (mo, (mw, (ri, (re, (now, acts))))))) = some (failR 9)) ∧
     ((ss.getD k dS).2.1 = 2 → GQ T (K + 3) (silenceM cs ss now acts k 1).1 (ss.take k ++ ss.drop (k + 1)) mw ri re now (silenceM cs ss now acts k 1).2.2.length ∧ dLogoutR a now (cs, (ss, (mo, (mw, (ri, (re, (now, acts))))))) = some (resM (matchM T ((silenceM cs ss now acts k 1).1, (ss.take k ++ ss.drop (k + 1), (mo, (mw, (ri, (re, (now, (silenceM cs ss now acts k 1).2.2)))))))))) ∧
     ((ss.getD k dS).2.1 ≠ 3 → (ss.getD k dS).2.1 ≠ 2 → GQ T (K + 3) cs (ss.take k ++ ss.drop (k + 1)) mw ri re now acts.length ∧ dLogoutR a now (cs, (ss, (mo, (mw, (ri, (re, (now, acts))))))) = some (resM (matchM T (cs, (ss.take k ++ ss.drop (k + 1), (mo, (mw, (ri, (re, (now, acts))))))))) ) := by
  have h1 := h.hc
  have h2 := h.hs
  have hk := h.k
  have hK := h.hK
  rcases idxT_cases ss a with ⟨hi, _⟩ | ⟨k, hi, k1, _⟩
  · left
    refine ⟨hi, ?_⟩
    unfold dLogoutR
    simp (disch := (first | omega | (simp only [LNl]; omega))) only [↓SDl, SDr, ↓rst_b, hi]
    rfl
  · right
    obtain ⟨y, hy, hyb⟩ := get_at dS k1
    have hyb' := fun {β : Type} (f : Se → Option β) => (get_at' dS k1 f).trans (congrArg f hy)
    have hlen := erase_len ss k1
    refine ⟨k, hi, k1, fun hs => ?_, fun hs => ?_, fun hs3 hs2 => ?_⟩
    · rw [hy] at hs
      unfold dLogoutR
      simp (disch := (first | omega | (simp only [LNl]; omega))) only [↓SDl, SDr, ↓rst_b, hi, ↓hyb, ↓hyb', hs, decide_true]
      rfl
    · obtain ⟨i, i1, i2, i3, i4⟩ := ringee h.v k1 hs
      have hg := logout_ok (silence_ok2 h hT hK2 k1 hs 1 (.inl rfl)) (k := k) (by unfold silenceM; rw [setS_len]; exact k1) (by unfold silenceM; rw [setS_getD _ _ _ _ _ k1, if_pos rfl]; simp)
      have hss : (silenceM cs ss now acts k 1).2.1.take k ++ (silenceM cs ss now acts k 1).2.1.drop (k + 1) = ss.take k ++ ss.drop (k + 1) := by unfold silenceM setS; exact erase_set' _ _ _
      rw [hss] at hg
      refine ⟨hg, ?_⟩
      have he := dend_j (mo := mo) hg
      obtain ⟨x, hx, hxb⟩ := get_at dC i1
      have hxb' := fun {β : Type} (f : Ca → Option β) => (get_at' dC i1 f).trans (congrArg f hx)
      rw [hy] at hs i2
      revert he
      unfold dLogoutR silenceM setC
      intro he
      simp only [hy, i2, hx, Int.toNat_natCast] at he ⊢
      simp (disch := (first | omega | (simp only [LNl]; omega))) only [↓SDl, SDr, if_pos, if_neg, ↓rst_b, ↓wts_b, hi, i2, ↓hxb, ↓hyb, ↓hxb', ↓hyb', hs, decide_true, decide_false, wrap_i64', Int.toNat_natCast, take_drop_all, Int.toNat_natCast_add_one, ↓setget_b, List.length_set, take_set_len, List.set_set, erase_set']
      exact he
    · have hg := (logout_ok h k1 hs2).up (K' := K + 3) (by omega) hK2
      refine ⟨hg, ?_⟩
      have he := dend_j (mo := mo) hg
      rw [hy] at hs3 hs2
      unfold dLogoutR
      simp (disch := (first | omega | (simp only [LNl]; omega))) only [↓SDl, SDr, if_pos, if_neg, ↓rst_b, hi, ↓hyb, ↓hyb', hs3, hs2, decide_true, decide_false, wrap_i64', Int.toNat_natCast, take_drop_all, Int.toNat_natCast_add_one]
      exact he
theorem dAcceptR_j (h : GQ T K cs ss mw ri re now acts.length) (a : Int) :
    (idxT ss a = -1 ∧ dAcceptR a now (cs, (ss, (mo, (mw, (ri, (re, (now, acts))))))) = some (failR 8)) ∨ ∃ k : Nat, idxT ss a = (k : Int) ∧ k < ss.length ∧
     ((ss.getD k dS).2.1 ≠ 2 → dAcceptR a now (cs, (ss, (mo, (mw, (ri, (re, (now, acts))))))) = some (failR 9)) ∧
     ((ss.getD k dS).2.1 = 2 → ∃ i : Nat, i < cs.length ∧ idxC cs (ss.getD k dS).2.2.2.1 = (i : Int) ∧ GQ T K (cs.take i ++ cs.drop (i + 1)) (takeS ss k now) mw ri re now (acts ++ [(3, ((ss.getD k dS).2.2.2.1, a))]).length ∧
       dAcceptR a now (cs, (ss, (mo, (mw, (ri, (re, (now, acts))))))) = some (resM (matchM T (cs.take i ++ cs.drop (i + 1), (takeS ss k now, (mo, (mw, (ri, (re, (now, acts ++ [(3, ((ss.getD k dS).2.2.2.1, a))]))))))))) ) := by
  have h1 := h.hc
  have h2 := h.hs
  have hk := h.k
  have hK := h.hK
  rcases idxT_cases ss a with ⟨hi, _⟩ | ⟨k, hi, k1, _⟩
  · left
    refine ⟨hi, ?_⟩
    unfold dAcceptR
    simp (disch := (first | omega | (simp only [LNl]; omega))) only [↓SDl, SDr, ↓rst_b, hi]
    rfl
  · right
    obtain ⟨y, hy, hyb⟩ := get_at dS k1
    have hyb' := fun {β : Type} (f : Se → Option β) => (get_at' dS k1 f).trans (congrArg f hy)
    refine ⟨k, hi, k1, fun hs => ?_, fun hs => ?_⟩
    · rw [hy] at hs
      unfold dAcceptR
      simp (disch := (first | omega | (simp only [LNl]; omega))) only [↓SDl, SDr, ↓rst_b, hi, ↓hyb, ↓hyb', hs, ne_eq, not_false_eq_true, decide_true]
      rfl
    · obtain ⟨i, i1, i2, i3, i4⟩ := ringee h.v k1 hs
      have hg := accept_ok h i1 k1 hs i3 i4
      rw [show acts.length + 1 = (acts ++ [(3, ((ss.getD k dS).2.2.2.1, a))]).length from by rw [List.length_append, List.length_singleton]] at hg
      refine ⟨i, i1, i2, hg, ?_⟩
      have he := dend_j (mo := mo) hg
      have hq := VF.se h.v k k1
      have hlen := erase_len cs i1
      rw [hy] at hs i2 hq he ⊢
      unfold takeS at he ⊢
      rw [hy] at he ⊢
      have hmin : minA (y.2.2.2.2 + 1) 2147483647 = min (y.2.2.2.2 + 1) 2147483647 := by unfold minA; split <;> omega
      unfold dAcceptR
      simp (disch := (first | omega | (simp only [LNl]; omega))) only [↓SDl, SDr, if_pos, if_neg, ↓rst_b, ↓wts_b, hi, i2, ↓hyb, ↓hyb', hs, ne_eq, not_true_eq_false, decide_true, decide_false, wrap_i64', Int.toNat_natCast, take_drop_all, Int.toNat_natCast_add_one, ↓setget_b, List.length_set, take_set_len, List.set_set, hmin]
      exact he
theorem dRefuseR_j (h : GQ T K cs ss mw ri re now acts.length) (hT : now = T) (hK2 : K + 3 ≤ 3000000000000) (a : Int) :
    (idxT ss a = -1 ∧ dRefuseR a now (cs, (ss, (mo, (mw, (ri, (re, (now, acts))))))) = some (failR 8)) ∨ ∃ k : Nat, idxT ss a = (k : Int) ∧ k < ss.length ∧
     ((ss.getD k dS).2.1 ≠ 2 → dRefuseR a now (cs, (ss, (mo, (mw, (ri, (re, (now, acts))))))) = some (failR 9)) ∧
     ((ss.getD k dS).2.1 = 2 → GQ T (K + 3) (silenceM cs ss now acts k 4).1 (silenceM cs ss now acts k 4).2.1 mw ri re now (silenceM cs ss now acts k 4).2.2.length ∧
       dRefuseR a now (cs, (ss, (mo, (mw, (ri, (re, (now, acts))))))) = some (resM (matchM T ((silenceM cs ss now acts k 4).1, ((silenceM cs ss now acts k 4).2.1, (mo, (mw, (ri, (re, (now, (silenceM cs ss now acts k 4).2.2)))))))))) := by
  have h1 := h.hc
  have h2 := h.hs
  have hk := h.k
  have hK := h.hK
  rcases idxT_cases ss a with ⟨hi, _⟩ | ⟨k, hi, k1, _⟩
  · left
    refine ⟨hi, ?_⟩
    unfold dRefuseR
    simp (disch := (first | omega | (simp only [LNl]; omega))) only [↓SDl, SDr, ↓rst_b, hi]
    rfl
  · right
    obtain ⟨y, hy, hyb⟩ := get_at dS k1
    have hyb' := fun {β : Type} (f : Se → Option β) => (get_at' dS k1 f).trans (congrArg f hy)
    refine ⟨k, hi, k1, fun hs => ?_, fun hs => ?_⟩
    · rw [hy] at hs
      unfold dRefuseR
      simp (disch := (first | omega | (simp only [LNl]; omega))) only [↓SDl, SDr, ↓rst_b, hi, ↓hyb, ↓hyb', hs, ne_eq, not_false_eq_true, decide_true]
      rfl
    · obtain ⟨i, i1, i2, i3, i4⟩ := ringee h.v k1 hs
      have hg := silence_ok2 h hT hK2 k1 hs 4 (.inr rfl)
      refine ⟨hg, ?_⟩
      have he := dend_j (mo := mo) hg
      obtain ⟨x, hx, hxb⟩ := get_at dC i1
      have hxb' := fun {β : Type} (f : Ca → Option β) => (get_at' dC i1 f).trans (congrArg f hx)
      rw [hy] at hs i2
      revert he
      unfold dRefuseR silenceM setC setS
      intro he
      simp only [hy, i2, hx, Int.toNat_natCast] at he ⊢
      simp (disch := (first | omega | (simp only [LNl]; omega))) only [↓SDl, SDr, if_pos, if_neg, ↓rst_b, ↓wts_b, hi, i2, ↓hxb, ↓hyb, ↓hxb', ↓hyb', hs, ne_eq, not_true_eq_false, decide_true, decide_false, wrap_i64', Int.toNat_natCast, ↓setget_b, List.length_set, take_set_len, List.set_set]
      exact he
theorem dDoneR_j (h : GQ T K cs ss mw ri re now acts.length) (hT : now = T) (hK2 : K + 3 ≤ 3000000000000) (a : Int) :
    (idxT ss a = -1 ∧ dDoneR a now (cs, (ss, (mo, (mw, (ri, (re, (now, acts))))))) = some (failR 8)) ∨ ∃ k : Nat, idxT ss a = (k : Int) ∧ k < ss.length ∧
     ((ss.getD k dS).2.1 ≠ 3 → dDoneR a now (cs, (ss, (mo, (mw, (ri, (re, (now, acts))))))) = some (failR 9)) ∧
     ((ss.getD k dS).2.1 = 3 → GQ T (K + 3) cs (setS ss k 4 now 0) mw ri re now acts.length ∧
       dDoneR a now (cs, (ss, (mo, (mw, (ri, (re, (now, acts))))))) = some (resM (matchM T (cs, (setS ss k 4 now 0, (mo, (mw, (ri, (re, (now, acts)))))))))) := by
  have h1 := h.hc
  have h2 := h.hs
  have hk := h.k
  have hK := h.hK
  rcases idxT_cases ss a with ⟨hi, _⟩ | ⟨k, hi, k1, _⟩
  · left
    refine ⟨hi, ?_⟩
    unfold dDoneR
    simp (disch := (first | omega | (simp only [LNl]; omega))) only [↓SDl, SDr, ↓rst_b, hi]
    rfl
  · right
    obtain ⟨y, hy, hyb⟩ := get_at dS k1
    have hyb' := fun {β : Type} (f : Se → Option β) => (get_at' dS k1 f).trans (congrArg f hy)
    refine ⟨k, hi, k1, fun hs => ?_, fun hs => ?_⟩
    · rw [hy] at hs
      unfold dDoneR
      simp (disch := (first | omega | (simp only [LNl]; omega))) only [↓SDl, SDr, ↓rst_b, hi, ↓hyb, ↓hyb', hs, ne_eq, not_false_eq_true, decide_true]
      rfl
    · have hg := done_ok h hT hK2 k1 hs
      refine ⟨hg, ?_⟩
      have he := dend_j (mo := mo) hg
      rw [hy] at hs
      unfold setS at he ⊢
      rw [hy] at he ⊢
      unfold dDoneR
      simp (disch := (first | omega | (simp only [LNl]; omega))) only [↓SDl, SDr, if_pos, if_neg, ↓rst_b, hi, ↓hyb, ↓hyb', hs, ne_eq, not_true_eq_false, decide_true, decide_false, wrap_i64', Int.toNat_natCast, ↓setget_b, List.length_set, take_set_len, List.set_set]
      exact he
end
end Go.Proofs.Ytkmfgldoljegoaa
