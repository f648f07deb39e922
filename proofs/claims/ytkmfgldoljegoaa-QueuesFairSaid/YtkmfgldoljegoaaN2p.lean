import Derived.Test.YtkmfgldoljegoaaN1p
set_option linter.unusedVariables false
set_option linter.unusedSimpArgs false
set_option maxRecDepth 100000
set_option maxHeartbeats 2000000
namespace Go.Proofs.Ytkmfgldoljegoaa
open Go.RowKit
def toI : Option Int → Int
  | none => -1
  | some x => x
theorem setget_b {α β : Type} {l : List α} {n : Nat} (x : α) (f : α → Option β) (h : n < l.length) : bindO (List.set l n x)[n]? f = f x := by
  rw [List.getElem?_set_self h]; rfl
theorem take_set_len {α : Type} (l : List α) (i : Nat) (x : α) : List.take (List.length l) (List.set l i x) = List.set l i x := by
  have : List.length l = (List.set l i x).length := List.length_set.symm
  rw [this, List.take_length]
theorem frc_j {δ : Type} (cs : List Ca) (h : cs.length ≤ 1000) : loopO (frcB (δ := δ) cs) ((0 : Int), ([] : List Int)) = some (.inl (freeC cs)) := by
  have := gather_j (fun i => if (cs.getD i dC).2.2.2 = 0 then [(i : Int)] else []) (by intro i; split <;> simp) cs.length (body := frcB (δ := δ) cs) (fun l => .inl l) [] (fun i hi l hl => ?_) (fun l hl => ?_)
  · rw [List.nil_append] at this; exact this
  · simp only [List.length_nil, Nat.zero_add] at hl
    obtain ⟨x, hx, hxb⟩ := get_at dC hi
    simp only [hx]
    unfold frcB
    by_cases e : x.2.2.2 = 0
    · simp (disch := (first | omega | (simp only [LNl]; omega))) only [↓SDl, SDr, if_pos, if_neg, ↓hxb, e, wrap_i64', decide_true]
      rfl
    · simp (disch := (first | omega | (simp only [LNl]; omega))) only [↓SDl, SDr, if_pos, if_neg, ↓hxb, e, wrap_i64', decide_false, List.append_nil]
      rfl
  · unfold frcB
    simp (disch := (first | omega | (simp only [LNl]; omega))) only [↓SDl, SDr, if_pos, if_neg, decide_false]
theorem frs_j {δ : Type} (cs : List Se) (h : cs.length ≤ 1000) : loopO (frsB (δ := δ) cs) ((0 : Int), ([] : List Int)) = some (.inl (freeS cs)) := by
  have := gather_j (fun i => if (cs.getD i dS).2.1 = 1 then [(i : Int)] else []) (by intro i; split <;> simp) cs.length (body := frsB (δ := δ) cs) (fun l => .inl l) [] (fun i hi l hl => ?_) (fun l hl => ?_)
  · rw [List.nil_append] at this; exact this
  · simp only [List.length_nil, Nat.zero_add] at hl
    obtain ⟨x, hx, hxb⟩ := get_at dS hi
    simp only [hx]
    unfold frsB
    by_cases e : x.2.1 = 1
    · simp (disch := (first | omega | (simp only [LNl]; omega))) only [↓SDl, SDr, if_pos, if_neg, ↓hxb, e, wrap_i64', decide_true]
      rfl
    · simp (disch := (first | omega | (simp only [LNl]; omega))) only [↓SDl, SDr, if_pos, if_neg, ↓hxb, e, wrap_i64', decide_false, List.append_nil]
      rfl
  · unfold frsB
    simp (disch := (first | omega | (simp only [LNl]; omega))) only [↓SDl, SDr, if_pos, if_neg, decide_false]
theorem lsc_j {δ : Type} (L : List Int) (cs : List Ca) (hl : L.length ≤ 1000) (hL : ∀ x ∈ L, ∃ q : Nat, x = (q : Int) ∧ q < cs.length) :
    loopO (lscB (δ := δ) L cs) ((0 : Int), (-1 : Int)) = some (.inl (lidx (ltC cs) L 0 L.length)) := by
  refine least_j (ltC cs) L 0 (body := lscB (δ := δ) L cs) (fun k => (Sum.inl k : Int ⊕ δ)) (fun i k hi hk => ?_) (fun i j hi hj => ?_) (fun k => ?_)
  · unfold lscB
    simp (disch := (first | omega | (simp only [LNl]; omega))) only [↓SDl, SDr, if_pos, if_neg, wrap_i64']
    rfl
  · obtain ⟨x, hx, hxb⟩ := get_at 0 hi
    obtain ⟨y, hy, hyb⟩ := get_at 0 hj
    obtain ⟨p, rfl, hp⟩ := hL x (by rw [← hx, getD_get 0 hi]; exact List.getElem_mem hi)
    obtain ⟨q, rfl, hq⟩ := hL y (by rw [← hy, getD_get 0 hj]; exact List.getElem_mem hj)
    obtain ⟨a, ha, hab⟩ := get_at dC hp
    obtain ⟨b, hb, hbb⟩ := get_at dC hq
    rw [hx, hy]
    unfold lscB ltC
    rw [Int.toNat_natCast, Int.toNat_natCast, ha, hb]
    by_cases e : a.2.1 > b.2.1
    · simp (disch := (first | omega | (simp only [LNl]; omega))) only [↓SDl, SDr, if_pos, if_neg, ↓hxb, ↓hyb, ↓hab, ↓hbb, e, wrap_i64', decide_true]
      rfl
    · simp (disch := (first | omega | (simp only [LNl]; omega))) only [↓SDl, SDr, if_pos, if_neg, ↓hxb, ↓hyb, ↓hab, ↓hbb, e, wrap_i64', decide_false, Bool.false_eq_true]
      rfl
  · unfold lscB
    simp (disch := (first | omega | (simp only [LNl]; omega))) only [↓SDl, SDr, if_pos, if_neg]
theorem lss_j {δ : Type} (L : List Int) (cs : List Se) (hl : L.length ≤ 1000) (hL : ∀ x ∈ L, ∃ q : Nat, x = (q : Int) ∧ q < cs.length) :
    loopO (lssB (δ := δ) L cs) ((0 : Int), (-1 : Int)) = some (.inl (lidx (ltS cs) L 0 L.length)) := by
  refine least_j (ltS cs) L 0 (body := lssB (δ := δ) L cs) (fun k => (Sum.inl k : Int ⊕ δ)) (fun i k hi hk => ?_) (fun i j hi hj => ?_) (fun k => ?_)
  · unfold lssB
    simp (disch := (first | omega | (simp only [LNl]; omega))) only [↓SDl, SDr, if_pos, if_neg, wrap_i64']
    rfl
  · obtain ⟨x, hx, hxb⟩ := get_at 0 hi
    obtain ⟨y, hy, hyb⟩ := get_at 0 hj
    obtain ⟨p, rfl, hp⟩ := hL x (by rw [← hx, getD_get 0 hi]; exact List.getElem_mem hi)
    obtain ⟨q, rfl, hq⟩ := hL y (by rw [← hy, getD_get 0 hj]; exact List.getElem_mem hj)
    obtain ⟨a, ha, hab⟩ := get_at dS hp
    obtain ⟨b, hb, hbb⟩ := get_at dS hq
    rw [hx, hy]
    unfold lssB ltS
    rw [Int.toNat_natCast, Int.toNat_natCast, ha, hb]
    by_cases e : a.2.2.1 < b.2.2.1
    · simp (disch := (first | omega | (simp only [LNl]; omega))) only [↓SDl, SDr, if_pos, if_neg, ↓hxb, ↓hyb, ↓hab, ↓hbb, e, wrap_i64', decide_true]
      rfl
    · simp (disch := (first | omega | (simp only [LNl]; omega))) only [↓SDl, SDr, if_pos, if_neg, ↓hxb, ↓hyb, ↓hab, ↓hbb, e, wrap_i64', decide_false, Bool.false_eq_true]
      rfl
  · unfold lssB
    simp (disch := (first | omega | (simp only [LNl]; omega))) only [↓SDl, SDr, if_pos, if_neg]
theorem freeC_len (cs : List Ca) : (freeC cs).length ≤ cs.length := flat_len _ (by intro i; split <;> simp) _
theorem freeS_len (cs : List Se) : (freeS cs).length ≤ cs.length := flat_len _ (by intro i; split <;> simp) _
theorem qnc_j {δ : Type} (cs : List Ca) (h : cs.length ≤ 1000) : qncB (δ := δ) cs = some (.inl (toI (nextC cs))) := by
  unfold qncB nextC
  rw [frc_j cs h]
  have hl := freeC_len cs
  have hm : ∀ x ∈ freeC cs, ∃ q : Nat, x = (q : Int) ∧ q < cs.length := fun x hx => by obtain ⟨i, h1, _, h2⟩ := mem_freeC.1 hx; exact ⟨i, h2, h1⟩
  simp only [joinO_inl, lsc_j (freeC cs) cs (show (freeC cs).length ≤ 1000 from by omega) hm]
  rcases lidx_cases (ltC cs) (freeC cs) 0 with ⟨_, e1, e2⟩ | ⟨j, hj, e1, e2⟩
  · simp (disch := (first | omega | (simp only [LNl]; omega))) only [↓SDl, SDr, e1, e2, toI]
  · obtain ⟨x, hx, hxb⟩ := get_at 0 hj
    rw [e1, hx]
    simp (disch := (first | omega | (simp only [LNl]; omega))) only [↓SDl, SDr, e2, ↓hxb, toI]
theorem qns_j {δ : Type} (cs : List Se) (h : cs.length ≤ 1000) : qnsB (δ := δ) cs = some (.inl (toI (nextS cs))) := by
  unfold qnsB nextS
  rw [frs_j cs h]
  have hl := freeS_len cs
  have hm : ∀ x ∈ freeS cs, ∃ q : Nat, x = (q : Int) ∧ q < cs.length := fun x hx => by obtain ⟨i, h1, _, h2⟩ := mem_freeS.1 hx; exact ⟨i, h2, h1⟩
  simp only [joinO_inl, lss_j (freeS cs) cs (show (freeS cs).length ≤ 1000 from by omega) hm]
  rcases lidx_cases (ltS cs) (freeS cs) 0 with ⟨_, e1, e2⟩ | ⟨j, hj, e1, e2⟩
  · simp (disch := (first | omega | (simp only [LNl]; omega))) only [↓SDl, SDr, e1, e2, toI]
  · obtain ⟨x, hx, hxb⟩ := get_at 0 hj
    rw [e1, hx]
    simp (disch := (first | omega | (simp only [LNl]; omega))) only [↓SDl, SDr, e2, ↓hxb, toI]
section
variable {T : Int} {K : Nat} {cs : List Ca} {ss : List Se} {mo mw ri re now : Int} {acts : List Ac}
theorem mstep_none_iff {w : Wk} : mstep w = none ↔ nextC w.1 = none ∨ nextS w.2.1 = none := by
  obtain ⟨cs, ss, mo, mw, ri, re, now, acts⟩ := w
  unfold mstep
  simp only
  cases nextC cs <;> cases nextS ss <;> simp
theorem match_none {δ : Type} (h : GQ T K cs ss mw ri re now acts.length) (e : mstep (cs, (ss, (mo, (mw, (ri, (re, (now, acts))))))) = none) :
    matchB (δ := δ) (cs, (ss, (mo, (mw, (ri, (re, (now, acts))))))) = some (.inr (.inl (cs, (ss, (mo, (mw, (ri, (re, (now, acts))))))))) := by
  have hc := h.hc
  have hs := h.hs
  unfold matchB
  simp only [qnc_j cs (by omega), qns_j ss (by omega), joinO_inl]
  rcases mstep_none_iff.1 e with e1 | e1
  · simp only at e1
    simp (disch := (first | omega | (simp only [LNl]; omega))) only [↓SDl, SDr, e1, toI]
  · simp only at e1
    rcases nextC_cases cs with ⟨h1, _⟩ | ⟨i, h1, _, _⟩
    · simp (disch := (first | omega | (simp only [LNl]; omega))) only [↓SDl, SDr, h1, toI]
    · simp (disch := (first | omega | (simp only [LNl]; omega))) only [↓SDl, SDr, h1, e1, toI]
theorem match_some {δ : Type} (h : GQ T K cs ss mw ri re now acts.length) {w' : Wk} (e : mstep (cs, (ss, (mo, (mw, (ri, (re, (now, acts))))))) = some w') :
    matchB (δ := δ) (cs, (ss, (mo, (mw, (ri, (re, (now, acts))))))) = some (.inl w') := by
  have hc := h.hc
  have hs := h.hs
  have hk := h.k
  have hK := h.hK
  unfold mstep at e
  simp only at e
  rcases nextC_cases cs with ⟨h1, h2⟩ | ⟨i, h1, h2, h3⟩
  · rw [h1] at e; simp at e
  · rcases nextS_cases ss with ⟨g1, g2⟩ | ⟨k, g1, g2, g3⟩
    · rw [h1, g1] at e; simp at e
    · rw [h1, g1] at e
      simp only [Option.some.injEq, Int.toNat_natCast] at e
      subst e
      obtain ⟨x, hx, hxb⟩ := get_at dC h2
      obtain ⟨y, hy, hyb⟩ := get_at dS g2
      unfold matchB setC setS
      simp only [qnc_j cs (by omega), qns_j ss (by omega), joinO_inl, h1, g1, toI, hx, hy]
      simp (disch := (first | omega | (simp only [LNl]; omega))) only [↓SDl, SDr, ↓hxb, ↓hyb, ↓setget_b, List.length_set, take_set_len, List.set_set, Int.toNat_natCast]
theorem matchL_j {δ : Type} (h : GQ T K cs ss mw ri re now acts.length) : loopO (matchB (δ := δ)) (cs, (ss, (mo, (mw, (ri, (re, (now, acts))))))) = some (.inl (matchM T (cs, (ss, (mo, (mw, (ri, (re, (now, acts))))))))) :=
  iter_j (f := mstep) (body := matchB (δ := δ)) (fun w => GW T K w) (PhiW T) (fun w => Sum.inl w) (fun w w' hw e => mstep_ok hw e)
    (fun w w' hw e => by obtain ⟨cs, ss, mo, mw, ri, re, now, acts⟩ := w; exact match_some hw e)
    (fun w hw e => by obtain ⟨cs, ss, mo, mw, ri, re, now, acts⟩ := w; exact match_none hw e) _ _ (show GW T K (cs, (ss, (mo, (mw, (ri, (re, (now, acts))))))) from h) (Nat.le_refl _)
end
end Go.Proofs.Ytkmfgldoljegoaa
