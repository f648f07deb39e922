import Derived.Test.YtkmfgldoljegoaaN4p
set_option linter.unusedVariables false
set_option linter.unusedSimpArgs false
set_option maxRecDepth 100000
set_option maxHeartbeats 4000000
namespace Go.Proofs.Ytkmfgldoljegoaa
open Go.RowKit
def posS (ss : List Se) (agent : Int) : Nat := ss.findIdx (fun s => decide (agent < s.1))
def insS (ss : List Se) (s : Se) (p : Nat) : List Se := ss.take p ++ s :: ss.drop p
theorem insS_len (ss : List Se) (s : Se) {p : Nat} (hp : p ≤ ss.length) : (insS ss s p).length = ss.length + 1 := by
  unfold insS
  rw [List.length_append, List.length_take, List.length_cons, List.length_drop]; omega
theorem insS_getD (ss : List Se) (s : Se) {p : Nat} (hp : p ≤ ss.length) (k : Nat) : (insS ss s p).getD k dS = if k < p then ss.getD k dS else if k = p then s else ss.getD (k - 1) dS := ins_getD ss p k s dS hp
theorem posS_le (ss : List Se) (agent : Int) : posS ss agent ≤ ss.length := List.findIdx_le_length
theorem posS_lt {ss : List Se} {agent : Int} {k : Nat} (hk : k < posS ss agent) : (ss.getD k dS).1 ≤ agent := by
  have hl := posS_le ss agent
  rw [getD_get dS (by omega)]
  have := List.not_of_lt_findIdx hk
  have h2 : ¬ agent < (ss[k]'(by omega)).1 := of_decide_eq_false this
  omega
theorem posS_ge {cs : List Ca} {ss : List Se} {now : Int} (h : VQ cs ss now) {agent : Int} {k : Nat} (hk : posS ss agent ≤ k) (hl : k < ss.length) : agent < (ss.getD k dS).1 := by
  have h1 : posS ss agent < ss.length := by omega
  have := List.findIdx_getElem (w := h1)
  simp only [decide_eq_true_eq] at this
  have h2 : agent < (ss.getD (posS ss agent) dS).1 := by rw [getD_get dS h1]; exact this
  rcases Nat.lt_or_eq_of_le hk with e | e
  · have := VF.sd h _ _ e hl
    omega
  · rw [← e]; exact h2
theorem insS_step (ss : List Se) (s : Se) {p : Nat} (hp : p + 1 ≤ ss.length) : ((insS ss s (p + 1)).set (p + 1) (ss.getD p dS)).set p s = insS ss s p := by
  have l1 := insS_len ss s hp
  have l2 := insS_len ss s (show p ≤ ss.length from by omega)
  refine ext_getD dS (by rw [List.length_set, List.length_set, l1, l2]) fun k hk => ?_
  rw [List.length_set, List.length_set, l1] at hk
  rw [getD_set' _ _ _ _ _ (by rw [List.length_set, l1]; omega), getD_set' _ _ _ _ _ (by rw [l1]; omega), insS_getD ss s hp, insS_getD ss s (by omega)]
  by_cases e : k = p
  · subst e; rw [if_pos rfl, if_neg (by omega), if_pos rfl]
  · rw [if_neg e]
    by_cases e2 : k = p + 1
    · subst e2; rw [if_pos rfl, if_neg (by omega), if_neg (by omega)]; rfl
    · rw [if_neg e2]
      by_cases e3 : k < p
      · rw [if_pos (by omega), if_pos e3]
      · rw [if_neg (by omega), if_neg e2, if_neg e3, if_neg e]
theorem swap_j {δ : Type} (ss : List Se) (s : Se) (hl : ss.length ≤ 1000) (hs : ∀ k, k < ss.length → (ss.getD k dS).1 ≠ s.1) (hg : ∀ k, posS ss s.1 ≤ k → k < ss.length → s.1 < (ss.getD k dS).1) :
    loopO (swapB (δ := δ) (ss ++ [s]) s.1) ((ss.length : Int), ss ++ [s]) = some (.inl (insS ss s (posS ss s.1))) := by
  have hpl := posS_le ss s.1
  have hL : (ss ++ [s]).length = ss.length + 1 := by rw [List.length_append, List.length_singleton]
  refine loopO_from (fun n => (((ss.length - n : Nat) : Int), insS ss s (ss.length - n))) (ss.length - posS ss s.1) ?_ (fun n hn => ?_) ?_
  · simp [insS]
  · generalize hp : ss.length - (n + 1) = p
    have e : ss.length - n = p + 1 := by omega
    simp only [e]
    have hlt := hg p (by omega) (by omega)
    have g1 : (insS ss s (p + 1)).getD p dS = ss.getD p dS := by rw [insS_getD ss s (by omega), if_pos (by omega)]
    have g2 : (insS ss s (p + 1)).getD (p + 1) dS = s := by rw [insS_getD ss s (by omega), if_neg (by omega), if_pos rfl]
    have l1 := insS_len ss s (show p + 1 ≤ ss.length from by omega)
    obtain ⟨x, hx, hxb⟩ := get_at dS (show p < (insS ss s (p + 1)).length from by omega)
    have hxb' := fun {β : Type} (f : Se → Option β) => (get_at' dS (show p < (insS ss s (p + 1)).length from by omega) f).trans (congrArg f hx)
    obtain ⟨y, hy, hyb⟩ := get_at dS (show p + 1 < (insS ss s (p + 1)).length from by omega)
    have hyb' := fun {β : Type} (f : Se → Option β) => (get_at' dS (show p + 1 < (insS ss s (p + 1)).length from by omega) f).trans (congrArg f hy)
    have hst := insS_step ss s (show p + 1 ≤ ss.length from by omega)
    rw [g1] at hx
    rw [g2] at hy
    subst hy
    rw [hx] at hlt hst
    have hget : ∀ {β : Type} (f : Se → Option β), bindO ((insS ss s (p + 1)).set (p + 1) x)[p]? f = f x := fun f => by
      rw [get_at' dS (by rw [List.length_set]; omega), getD_set' _ _ _ _ _ (by omega), if_neg (by omega), g1, hx]
    have hw : IntKind.wrap .i64 (((p + 1 : Nat) : Int) - 1) = (p : Int) := by rw [wrap_i64' (by omega)]; omega
    unfold swapB
    simp (disch := (first | omega | (simp only [LNl]; omega))) only [↓SDl, SDr, if_pos, if_neg, ↓hw, ↓hxb, ↓hxb', ↓hyb, ↓hyb', hlt, hL, decide_true, Int.toNat_natCast, ↓hget]
    rw [hst]
  · have e : ss.length - (ss.length - posS ss s.1) = posS ss s.1 := by omega
    simp only [e]
    by_cases h0 : posS ss s.1 = 0
    · rw [h0]
      unfold swapB
      simp (disch := (first | omega | (simp only [LNl]; omega))) only [↓SDl, SDr, if_neg]
    · generalize hp : posS ss s.1 - 1 = p
      have e2 : posS ss s.1 = p + 1 := by omega
      rw [e2]
      have l1 := insS_len ss s (show p + 1 ≤ ss.length from by omega)
      have g1 : (insS ss s (p + 1)).getD p dS = ss.getD p dS := by rw [insS_getD ss s (by omega), if_pos (by omega)]
      obtain ⟨x, hx, hxb⟩ := get_at dS (show p < (insS ss s (p + 1)).length from by omega)
      have hle := posS_lt (ss := ss) (agent := s.1) (k := p) (by omega)
      rw [g1] at hx
      rw [hx] at hle
      have hw : IntKind.wrap .i64 (((p + 1 : Nat) : Int) - 1) = (p : Int) := by rw [wrap_i64' (by omega)]; omega
      unfold swapB
      simp (disch := (first | omega | (simp only [LNl]; omega))) only [↓SDl, SDr, if_pos, if_neg, ↓hw, ↓hxb, hL]
theorem sum_ins {α : Type} (f : α → Nat) (l : List α) (x : α) (p : Nat) : ((l.take p ++ x :: l.drop p).map f).sum = (l.map f).sum + f x := by
  have h2 : (l.map f).sum = ((l.take p ++ l.drop p).map f).sum := by rw [List.take_append_drop]
  rw [h2]
  simp only [List.map_append, List.map_cons, List.sum_append, List.sum_cons]
  omega
theorem idxT_cases (ss : List Se) (a : Int) : (idxT ss a = -1 ∧ ∀ k, k < ss.length → (ss.getD k dS).1 ≠ a) ∨ ∃ k : Nat, idxT ss a = (k : Int) ∧ k < ss.length ∧ (ss.getD k dS).1 = a := by
  unfold idxT
  by_cases h : ss.findIdx (fun c => decide (c.1 = a)) < ss.length
  · right
    rw [if_pos h]
    refine ⟨_, rfl, h, ?_⟩
    have := List.findIdx_getElem (w := h)
    simp only [decide_eq_true_eq] at this
    rw [getD_get dS h]; exact this
  · left
    rw [if_neg h]
    refine ⟨rfl, fun k hk e => h ?_⟩
    rw [List.findIdx_lt_length]
    exact ⟨ss.getD k dS, by rw [getD_get dS hk]; exact List.getElem_mem hk, by simp only [e, decide_true]⟩
section
variable {T : Int} {K : Nat} {cs : List Ca} {ss : List Se} {mo mw ri re now : Int} {acts : List Ac} {n : Nat}
theorem GQ.up (h : GQ T K cs ss mw ri re now n) {K' : Nat} (h1 : K ≤ K') (h2 : K' ≤ 3000000000000) : GQ T K' cs ss mw ri re now n :=
  { h with k := by have := h.k; omega, hK := h2 }
theorem login_ok (h : GQ T K cs ss mw ri re now n) (hT : now = T) (hK2 : K + 3 ≤ 3000000000000) (hs : ss.length < 100) {a : Int} (ha : 1 ≤ a ∧ a ≤ 2147483647) (hn : ∀ k, k < ss.length → (ss.getD k dS).1 ≠ a) :
    GQ T (K + 3) cs (insS ss (a, (1, (now, (0, 0)))) (posS ss a)) mw ri re now n := by
  have hp := posS_le ss a
  have hl := insS_len ss (a, (1, (now, (0, 0)))) hp
  have hsm := sum_ins (phi T now) ss (a, (1, (now, (0, 0)))) (posS ss a)
  have e2 : phi T now (a, (1, (now, (0, 0)))) ≤ 1 := by unfold phi; simp; omega
  refine ⟨h.v.login hp ha rfl h.h0 (fun k hk => by have := posS_lt hk; have := hn k (by omega); omega) (fun k h1 h2 => posS_ge h.v h1 h2), h.hc, by rw [hl]; omega, h.h0, h.hT, h.hM, h.hw, h.hi, h.he, ?_, hK2, h.d1, ?_, ?_⟩
  · have := h.k
    unfold Phi insS at *
    omega
  · intro j hj
    rw [hl] at hj
    rw [insS_getD _ _ hp]
    split
    · exact h.d2 j (by omega)
    · split
      · intro q; simp at q
      · exact h.d2 (j - 1) (by omega)
  · intro j hj
    rw [hl] at hj
    rw [insS_getD _ _ hp]
    split
    · exact h.d3 j (by omega)
    · split
      · intro q; simp at q
      · exact h.d3 (j - 1) (by omega)
theorem loginR_j (h : GQ T K cs ss mw ri re now acts.length) (hT : now = T) (hK2 : K + 3 ≤ 3000000000000) {a : Int} (ha : 1 ≤ a ∧ a ≤ 2147483647) :
    loginR a now (cs, (ss, (mo, (mw, (ri, (re, (now, acts))))))) = if idxT ss a ≥ 0 then some (failR 7) else if ss.length ≥ 100 then some (failR 10) else some (resM (matchM T (cs, (insS ss (a, (1, (now, (0, 0)))) (posS ss a), (mo, (mw, (ri, (re, (now, acts))))))))) := by
  have h1 := h.hc
  have h2 := h.hs
  have hk := h.k
  have hK := h.hK
  unfold loginR
  by_cases hi : idxT ss a ≥ 0
  · simp (disch := (first | omega | (simp only [LNl]; omega))) only [↓SDl, SDr, ↓sof_b, hi, decide_true]
    rfl
  · rw [if_neg hi]
    by_cases hs : ss.length ≥ 100
    · rw [if_pos hs]
      have hs' : ((ss.length : Nat) : Int) ≥ 100 := by omega
      simp (disch := (first | omega | (simp only [LNl]; omega))) only [↓SDl, SDr, ↓sof_b, hi, hs', decide_true, decide_false]
      rfl
    · rw [if_neg hs]
      have hn : ∀ k, k < ss.length → (ss.getD k dS).1 ≠ a := by
        rcases idxT_cases ss a with ⟨_, g⟩ | ⟨k, g, _⟩
        · exact g
        · omega
      have hg := login_ok h hT hK2 (by omega) ha hn
      have he := end_j (mo := mo) hg
      have hsw := swap_j (δ := Rt) ss (a, (1, (now, (0, 0)))) (by omega) hn (fun k => posS_ge h.v)
      have hw : IntKind.wrap .i64 ((((ss ++ [(a, (1, (now, (0, 0))))]).length : Nat) : Int) - 1) = (ss.length : Int) := by
        rw [List.length_append, List.length_singleton, wrap_i64' (by omega)]; omega
      have hl := insS_len ss (a, (1, (now, (0, 0)))) (posS_le ss a)
      have hta : List.take (ss ++ [(a, (1, (now, (0, 0))))]).length (insS ss (a, (1, (now, (0, 0)))) (posS ss a)) = insS ss (a, (1, (now, (0, 0)))) (posS ss a) := take_all' (by rw [hl, List.length_append, List.length_singleton])
      have hle : (ss ++ [(a, (1, (now, (0, 0))))]).length ≤ (insS ss (a, (1, (now, (0, 0)))) (posS ss a)).length := by rw [hl, List.length_append, List.length_singleton]; omega
      simp (disch := (first | omega | (simp only [LNl]; omega))) only [↓SDl, SDr, ↓sof_b, hi, decide_false]
      simp only [hw, hsw, joinO_inl, hle, decide_true, cond_true, if_true, hta]
      exact he
end
end Go.Proofs.Ytkmfgldoljegoaa
