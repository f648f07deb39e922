import Derived.Test.YtkmfgldoljegoaaN4p
set_option linter.unusedVariables false
set_option linter.unusedSimpArgs false
set_option maxRecDepth 100000
set_option maxHeartbeats 4000000
namespace Go.Proofs.Ytkmfgldoljegoaa
open Go.RowKit
def posS (ss : List Se) (agent : Int) : Nat := ss.findIdx (fun s => decide (agent < s.1))
def insS (ss : List Se) (s : Se) (p : Nat) : List Se := ss.take p ++ s :: ss.drop p
theorem insS_len (ss : List Se) (s : Se) {p : Nat} (hp : p ≤ ss.length) : (insS ss s p).length = ss.length + 1 := by
  unfold insS
  rw [List.length_append, List.length_take, List.length_cons, List.length_drop]; omega
theorem insS_getD (ss : List Se) (s : Se) {p : Nat} (hp : p ≤ ss.length) (k : Nat) : (insS ss s p).getD k dS = if k < p then ss.getD k dS else if k = p then s else ss.getD (k - 1) dS := ins_getD ss p k s dS hp
theorem posS_le (ss : List Se) (agent : Int) : posS ss agent ≤ ss.length := List.findIdx_le_length
theorem posS_lt {ss : List Se} {agent : Int} {k : Nat} (hk : k < posS ss agent) : (ss.getD k dS).1 ≤ agent := by
  have hl := posS_le ss agent
  rw [getD_get dS (by omega)]
  have := List.not_of_lt_findIdx hk
  have h2 : ¬ agent < (ss[k]'(by omega)).1 := of_decide_eq_false this
  omega
theorem posS_ge {cs : List Ca} {ss : List Se} {now : Int} (h : VQ cs ss now) {agent : Int} {k : Nat} (hk : posS ss agent ≤ k) (hl : k < ss.length) : agent < (ss.getD k dS).1 := by
  have h1 : posS ss agent < ss.length := by omega
  have := List.findIdx_getElem (w := h1)
  simp only [decide_eq_true_eq] at this
  have h2 : agent < (ss.getD (posS ss agent) dS).1 := by rw [getD_get dS h1]; exact this
  rcases Nat.lt_or_eq_of_le hk with e | e
  · have := VF.sd h _ _ e hl
    omega
  · rw [← e]; exact h2
theorem insS_step (ss : List Se) (s : Se) {p : Nat} (hp : p + 1 ≤ ss.length) : ((insS ss s (p + 1)).set (p + 1) (ss.getD p dS)).set p s = insS ss s p := by
  have l1 := insS_len ss s hp
  have l2 := insS_len ss s (show p ≤ ss.length from by omega)
  refine ext_getD dS (by rw [List.length_set, List.length_set, l1, l2]) fun k hk => ?_
  rw [List.length_set, List.length_set, l1] at hk
  rw [getD_set' _ _ _ _ _ (by rw [List.length_set, l1]; omega), getD_set' _ _ _ _ _ (by rw [l1]; omega), insS_getD ss s hp, insS_getD ss s (by omega)]
  by_cases e : k = p
  · subst e; rw [if_pos rfl, if_neg (by omega), if_pos rfl]
  · rw [if_neg e]
    by_cases e2 : k = p + 1
    · subst e2; rw [if_pos rfl, if_neg (by omega), if_neg (by omega)]; rfl
    · rw [if_neg e2]
      by_cases e3 : k < p
      · rw [if_pos (by omega), if_pos e3]
      · rw [if_neg (by omega), if_neg e2, if_neg e3, if_neg e]
theorem swap_j {δ : Type} (ss : List Se) (s : Se) (hl : ss.length ≤ 1000) (hs : ∀ k, k < ss.length → (ss.getD k dS).1 ≠ s.1) (hg : ∀ k, posS ss s.1 ≤ k → k < ss.length → s.1 < (ss.getD k dS).1) :
    loopO (swapB (δ := δ) (ss ++ [s]) s.1) ((ss.length : Int), ss ++ [s]) = some (.inl (insS ss s (posS ss s.1))) := by
  have hpl := posS_le ss s.1
  have hL : (ss ++ [s]).length = ss.length + 1 := by rw [List.length_append, List.length_singleton]
  refine loopO_from (fun n => (((ss.length - n : Nat) : Int), insS ss s (ss.length - n))) (ss.length - posS ss s.1) ?_ (fun n hn => ?_) ?_
  · simp [insS]
  · generalize hp : ss.length - (n + 1) = p
    have e : ss.length - n = p + 1 := by omega
    simp only [e]
    have hlt := hg p (by omega) (by omega)
    have g1 : (insS ss s (p + 1)).getD p dS = ss.getD p dS := by rw [insS_getD ss s (by omega), if_pos (by omega)]
    have g2 : (insS ss s (p + 1)).getD (p + 1) dS = s := by rw [insS_getD ss s (by omega), if_neg (by omega), if_pos rfl]
    have l1 := insS_len ss s (show p + 1 ≤ ss.length from by omega)
    obtain ⟨x, hx, hxb⟩ := get_at dS (show p < (insS ss s (p + 1)).length from by omega)
    have hxb' := fun {β : Type} (f : Se → Option β) => (get_at' dS (show p < (insS ss s (p + 1)).length from by omega) f).trans (congrArg f hx)
    obtain ⟨y, hy, hyb⟩ := get_at dS (show p + 1 < (insS ss s (p + 1)).length from by omega)
    have hyb' := fun {β : Type} (f : Se → Option β) => (get_at' dS (show p + 1 < (insS ss s (p + 1)).length from by omega) f).trans (congrArg f hy)
    have hst := insS_step ss s (show p + 1 ≤ ss.length from by omega)
    rw [g1] at hx
    rw [g2] at hy
    subst hy
    rw [hx] at hlt hst
    have hget : ∀ {β : Type} (f : Se → Option β), bindO ((insS ss s (p + 1)).set (p + 1) x)[p]? f = f x := fun f => by
      rw [get_at' dS (by rw [List.length_set]; omega), getD_set' _ _ _ _ _ (by omega), if_neg (by omega), g1, hx]
    have hw : IntKind.wrap .i64 (((p + 1 : Nat) : Int) - 1) = (p : Int) := by rw [wrap_i64' (by omega)]; omega
    unfold swapB
    simp (disch := (first | omega | (simp only [LNl]; omega))) only [↓SDl, SDr, if_pos, if_neg, ↓hw, ↓hxb, ↓hxb', ↓hyb, ↓hyb', hlt, hL, decide_true, Int.toNat_natCast, ↓hget]
    rw [hst]
  · have e : ss.length - (ss.length - posS ss s.1) = posS ss s.1 := by omega
    simp only [e]
    by_cases h0 : posS ss s.1 = 0
    · rw [h0]
      unfold swapB
      simp (disch := (first | omega | (simp only [LNl]; omega))) only [↓SDl, SDr, if_neg]
    · generalize hp : posS ss s.1 - 1 = p
      have e2 : posS ss s.1 = p + 1 := by omega
      rw [e2]
      have l1 := insS_len ss s (show p + 1 ≤ ss.length from by omega)
      have g1 : (insS ss s (p + 1)).getD p dS = ss.getD p dS := by rw [insS_getD ss s (by omega), if_pos (by omega)]
      obtain ⟨x, hx, hxb⟩ := get_at dS (show p < (insS ss s (p + 1)).length from by omega)
      have hle := posS_lt (ss := ss) (agent := s.1) (k := p) (by omega)
      rw [g1] at hx
      rw [hx] at hle
      have hw : IntKind.wrap .i64 (((p + 1 : Nat) : Int) - 1) = (p : Int) := by rw [wrap_i64' (by omega)]; omega
      unfold swapB
      simp (disch := (first | omega | (simp only [LNl]; omega))) only [↓SDl, SDr, if_pos, if_neg, ↓hw, ↓hxb, hL]
theorem erase_set' {α : Type} (cs : List α) (i : Nat) (x : α) : (cs.set i x).take i ++ (cs.set i x).drop (i + 1) = cs.take i ++ cs.drop (i + 1) := by
  rw [List.take_set_of_le (Nat.le_refl _), List.drop_set_of_lt (Nat.lt_succ_self _)]
theorem sum_erase {α : Type} (f : α → Nat) (d : α) (l : List α) {i : Nat} (hi : i < l.length) : ((l.take i ++ l.drop (i + 1)).map f).sum + f (l.getD i d) = (l.map f).sum := by
  have h : l = l.take i ++ (l.getD i d :: l.drop (i + 1)) := by rw [← drop_cons l d hi, List.take_append_drop]
  have h2 : (l.map f).sum = ((l.take i ++ (l.getD i d :: l.drop (i + 1))).map f).sum := by rw [← h]
  rw [h2]
  simp only [List.map_append, List.map_cons, List.sum_append, List.sum_cons]
  omega
theorem sum_ins {α : Type} (f : α → Nat) (l : List α) (x : α) (p : Nat) : ((l.take p ++ x :: l.drop p).map f).sum = (l.map f).sum + f x := by
  have h2 : (l.map f).sum = ((l.take p ++ l.drop p).map f).sum := by rw [List.take_append_drop]
  rw [h2]
  simp only [List.map_append, List.map_cons, List.sum_append, List.sum_cons]
  omega
theorem idxT_cases (ss : List Se) (a : Int) : (idxT ss a = -1 ∧ ∀ k, k < ss.length → (ss.getD k dS).1 ≠ a) ∨ ∃ k : Nat, idxT ss a = (k : Int) ∧ k < ss.length ∧ (ss.getD k dS).1 = a := by
  unfold idxT
  by_cases h : ss.findIdx (fun c => decide (c.1 = a)) < ss.length
  · right
    rw [if_pos h]
    refine ⟨_, rfl, h, ?_⟩
    have := List.findIdx_getElem (w := h)
    simp only [decide_eq_true_eq] at this
    rw [getD_get dS h]; exact this
  · left
    rw [if_neg h]
    refine ⟨rfl, fun k hk e => h ?_⟩
    rw [List.findIdx_lt_length]
    exact ⟨ss.getD k dS, by rw [getD_get dS hk]; exact List.getElem_mem hk, by simp only [e, decide_true]⟩
section
variable {T : Int} {K : Nat} {cs : List Ca} {ss : List Se} {mo mw ri re now : Int} {acts : List Ac} {n : Nat}
theorem GQ.up (h : GQ T K cs ss mw ri re now n) {K' : Nat} (h1 : K ≤ K') (h2 : K' ≤ 3000000000000) : GQ T K' cs ss mw ri re now n :=
  { h with k := by have := h.k; omega, hK := h2 }
theorem logout_ok (h : GQ T K cs ss mw ri re now n) {k : Nat} (hk : k < ss.length) (hs : (ss.getD k dS).2.1 ≠ 2) : GQ T K cs (ss.take k ++ ss.drop (k + 1)) mw ri re now n := by
  have hl := erase_len ss hk
  have hsm := sum_erase (phi T now) dS ss hk
  refine ⟨h.v.logout hk hs, h.hc, by rw [hl]; have := h.hs; omega, h.h0, h.hT, h.hM, h.hw, h.hi, h.he, ?_, h.hK, h.d1, ?_, ?_⟩
  · have := h.k
    unfold Phi at this ⊢
    omega
  · intro j hj
    rw [hl] at hj
    rw [getD_erase, if_pos hk]
    split
    · exact h.d2 j (by omega)
    · exact h.d2 (j + 1) (by omega)
  · intro j hj
    rw [hl] at hj
    rw [getD_erase, if_pos hk]
    split
    · exact h.d3 j (by omega)
    · exact h.d3 (j + 1) (by omega)
theorem silence_ok2 (h : GQ T K cs ss mw ri re now acts.length) (hT : now = T) (hK2 : K + 3 ≤ 3000000000000) {k : Nat} (hk : k < ss.length) (hs : (ss.getD k dS).2.1 = 2) (st : Int) (hst : st = 1 ∨ st = 4) :
    GQ T (K + 3) (silenceM cs ss now acts k st).1 (silenceM cs ss now acts k st).2.1 mw ri re now (silenceM cs ss now acts k st).2.2.length := by
  obtain ⟨i, i1, i2, i3, i4⟩ := ringee h.v hk hs
  unfold silenceM
  simp only [i2, Int.toNat_natCast]
  have hp := Phi_set T now cs ss k ((ss.getD k dS).1, (st, (now, (0, (ss.getD k dS).2.2.2.2)))) hk
  have e2 : phi T now ((ss.getD k dS).1, (st, (now, (0, (ss.getD k dS).2.2.2.2)))) ≤ 2 := by
    unfold phi; rcases hst with e | e <;> subst e <;> simp <;> omega
  have hP : Phi T now (setC cs i 0) (setS ss k st now 0) ≤ Phi T now cs ss + 2 := by
    unfold Phi
    rw [setC_len]
    unfold setS
    omega
  refine ⟨h.v.silence i1 hk hs i3 i4 st hst h.h0, by rw [setC_len]; exact h.hc, by rw [setS_len]; exact h.hs, h.h0, h.hT, h.hM, h.hw, h.hi, h.he, ?_, hK2, ?_, ?_, ?_⟩
  · have := h.k
    rw [List.length_append, List.length_singleton]; omega
  · intro hm j hj
    rw [setC_len] at hj
    rw [setC_getD cs i _ i1]
    have := h.d1 hm j hj
    split
    · rename_i e; subst e; exact this
    · exact this
  · intro j hj
    rw [setS_len] at hj
    rw [setS_getD ss k _ _ _ hk]
    split
    · intro q; simp only at q; omega
    · exact h.d2 j hj
  · intro j hj
    rw [setS_len] at hj
    rw [setS_getD ss k _ _ _ hk]
    have := h.he
    split
    · intro q; simp only; omega
    · exact h.d3 j hj
theorem done_ok (h : GQ T K cs ss mw ri re now n) (hT : now = T) (hK2 : K + 3 ≤ 3000000000000) {k : Nat} (hk : k < ss.length) (hs : (ss.getD k dS).2.1 = 3) :
    GQ T (K + 3) cs (setS ss k 4 now 0) mw ri re now n := by
  have hp := Phi_set T now cs ss k ((ss.getD k dS).1, (4, (now, (0, (ss.getD k dS).2.2.2.2)))) hk
  have e2 : phi T now ((ss.getD k dS).1, (4, (now, (0, (ss.getD k dS).2.2.2.2)))) ≤ 2 := by
    unfold phi; simp; omega
  have hP : Phi T now cs (setS ss k 4 now 0) ≤ Phi T now cs ss + 2 := by
    unfold Phi
    unfold setS
    omega
  refine ⟨h.v.rest hk (by omega) 4 (.inr rfl) h.h0, h.hc, by rw [setS_len]; exact h.hs, h.h0, h.hT, h.hM, h.hw, h.hi, h.he, ?_, hK2, h.d1, ?_, ?_⟩
  · have := h.k
    omega
  · intro j hj
    rw [setS_len] at hj
    rw [setS_getD ss k _ _ _ hk]
    split
    · intro q; simp at q
    · exact h.d2 j hj
  · intro j hj
    rw [setS_len] at hj
    rw [setS_getD ss k _ _ _ hk]
    have := h.he
    split
    · intro q; simp only; omega
    · exact h.d3 j hj
def takeS (ss : List Se) (k : Nat) (now : Int) : List Se := ss.set k ((ss.getD k dS).1, (3, (now, ((ss.getD k dS).2.2.2.1, min ((ss.getD k dS).2.2.2.2 + 1) 2147483647))))
theorem accept_ok (h : GQ T K cs ss mw ri re now n) {i k : Nat} (hi : i < cs.length) (hk : k < ss.length) (hs : (ss.getD k dS).2.1 = 2) (hc : (cs.getD i dC).1 = (ss.getD k dS).2.2.2.1) (ha : (cs.getD i dC).2.2.2 = (ss.getD k dS).1) :
    GQ T K (cs.take i ++ cs.drop (i + 1)) (takeS ss k now) mw ri re now (n + 1) := by
  have hp := Phi_set T now cs ss k ((ss.getD k dS).1, (3, (now, ((ss.getD k dS).2.2.2.1, min ((ss.getD k dS).2.2.2.2 + 1) 2147483647)))) hk
  have e2 : phi T now ((ss.getD k dS).1, (3, (now, ((ss.getD k dS).2.2.2.1, min ((ss.getD k dS).2.2.2.2 + 1) 2147483647)))) = 0 := by
    unfold phi; simp
  have hl := erase_len cs hi
  have hP : Phi T now (cs.take i ++ cs.drop (i + 1)) (takeS ss k now) + 3 ≤ Phi T now cs ss := by
    unfold Phi
    rw [hl]
    unfold takeS
    omega
  have hq := VF.se h.v k hk
  have hv := h.v.accept hi hk hs hc ha h.h0 (min ((ss.getD k dS).2.2.2.2 + 1) 2147483647) (by omega)
  refine ⟨hv, by rw [hl]; have := h.hc; omega, by show List.length (List.set _ _ _) ≤ _; rw [List.length_set]; exact h.hs, h.h0, h.hT, h.hM, h.hw, h.hi, h.he, by have := h.k; omega, h.hK, ?_, ?_, ?_⟩
  · intro hm j hj
    rw [hl] at hj
    rw [getD_erase, if_pos hi]
    split
    · exact h.d1 hm j (by omega)
    · exact h.d1 hm (j + 1) (by omega)
  · intro j hj
    unfold takeS at hj ⊢
    rw [List.length_set] at hj
    rw [getD_set' _ _ _ _ _ hk]
    split
    · intro q; simp at q
    · exact h.d2 j hj
  · intro j hj
    unfold takeS at hj ⊢
    rw [List.length_set] at hj
    rw [getD_set' _ _ _ _ _ hk]
    split
    · intro q; simp at q
    · exact h.d3 j hj
theorem login_ok (h : GQ T K cs ss mw ri re now n) (hT : now = T) (hK2 : K + 3 ≤ 3000000000000) (hs : ss.length < 100) {a : Int} (ha : 1 ≤ a ∧ a ≤ 2147483647) (hn : ∀ k, k < ss.length → (ss.getD k dS).1 ≠ a) :
    GQ T (K + 3) cs (insS ss (a, (1, (now, (0, 0)))) (posS ss a)) mw ri re now n := by
  have hp := posS_le ss a
  have hl := insS_len ss (a, (1, (now, (0, 0)))) hp
  have hsm := sum_ins (phi T now) ss (a, (1, (now, (0, 0)))) (posS ss a)
  have e2 : phi T now (a, (1, (now, (0, 0)))) ≤ 1 := by unfold phi; simp; omega
  refine ⟨h.v.login hp ha rfl h.h0 (fun k hk => by have := posS_lt hk; have := hn k (by omega); omega) (fun k h1 h2 => posS_ge h.v h1 h2), h.hc, by rw [hl]; omega, h.h0, h.hT, h.hM, h.hw, h.hi, h.he, ?_, hK2, h.d1, ?_, ?_⟩
  · have := h.k
    unfold Phi insS at *
    omega
  · intro j hj
    rw [hl] at hj
    rw [insS_getD _ _ hp]
    split
    · exact h.d2 j (by omega)
    · split
      · intro q; simp at q
      · exact h.d2 (j - 1) (by omega)
  · intro j hj
    rw [hl] at hj
    rw [insS_getD _ _ hp]
    split
    · exact h.d3 j (by omega)
    · split
      · intro q; simp at q
      · exact h.d3 (j - 1) (by omega)
theorem loginR_j (h : GQ T K cs ss mw ri re now acts.length) (hT : now = T) (hK2 : K + 3 ≤ 3000000000000) {a : Int} (ha : 1 ≤ a ∧ a ≤ 2147483647) :
    loginR a now (cs, (ss, (mo, (mw, (ri, (re, (now, acts))))))) = if idxT ss a ≥ 0 then some (failR 7) else if ss.length ≥ 100 then some (failR 10) else some (resM (matchM T (cs, (insS ss (a, (1, (now, (0, 0)))) (posS ss a), (mo, (mw, (ri, (re, (now, acts))))))))) := by
  have h1 := h.hc
  have h2 := h.hs
  have hk := h.k
  have hK := h.hK
  unfold loginR
  by_cases hi : idxT ss a ≥ 0
  · simp (disch := (first | omega | (simp only [LNl]; omega))) only [↓SDl, SDr, ↓sof_b, hi, decide_true]
    rfl
  · rw [if_neg hi]
    by_cases hs : ss.length ≥ 100
    · rw [if_pos hs]
      have hs' : ((ss.length : Nat) : Int) ≥ 100 := by omega
      simp (disch := (first | omega | (simp only [LNl]; omega))) only [↓SDl, SDr, ↓sof_b, hi, hs', decide_true, decide_false]
      rfl
    · rw [if_neg hs]
      have hn : ∀ k, k < ss.length → (ss.getD k dS).1 ≠ a := by
        rcases idxT_cases ss a with ⟨_, g⟩ | ⟨k, g, _⟩
        · exact g
        · omega
      have hg := login_ok h hT hK2 (by omega) ha hn
      have he := end_j (mo := mo) hg
      have hsw := swap_j (δ := Rt) ss (a, (1, (now, (0, 0)))) (by omega) hn (fun k => posS_ge h.v)
      have hw : IntKind.wrap .i64 ((((ss ++ [(a, (1, (now, (0, 0))))]).length : Nat) : Int) - 1) = (ss.length : Int) := by
        rw [List.length_append, List.length_singleton, wrap_i64' (by omega)]; omega
      have hl := insS_len ss (a, (1, (now, (0, 0)))) (posS_le ss a)
      have hta : List.take (ss ++ [(a, (1, (now, (0, 0))))]).length (insS ss (a, (1, (now, (0, 0)))) (posS ss a)) = insS ss (a, (1, (now, (0, 0)))) (posS ss a) := take_all' (by rw [hl, List.length_append, List.length_singleton])
      have hle : (ss ++ [(a, (1, (now, (0, 0))))]).length ≤ (insS ss (a, (1, (now, (0, 0)))) (posS ss a)).length := by rw [hl, List.length_append, List.length_singleton]; omega
      simp (disch := (first | omega | (simp only [LNl]; omega))) only [↓SDl, SDr, ↓sof_b, hi, decide_false]
      simp only [hw, hsw, joinO_inl, hle, decide_true, cond_true, if_true, hta]
      exact he
theorem logoutR_j (h : GQ T K cs ss mw ri re now acts.length) (hT : now = T) (hK2 : K + 3 ≤ 3000000000000) (a : Int) :
    (idxT ss a = -1 ∧ logoutR a now (cs, (ss, (mo, (mw, (ri, (re, (now, acts))))))) = some (failR 8)) ∨ ∃ k : Nat, idxT ss a = (k : Int) ∧ k < ss.length ∧
     ((ss.getD k dS).2.1 = 3 → logoutR a now (cs, (ss, (mo, (mw, (ri, (re, (now, acts))))))) = some (failR 9)) ∧
     ((ss.getD k dS).2.1 = 2 → GQ T (K + 3) (silenceM cs ss now acts k 1).1 (ss.take k ++ ss.drop (k + 1)) mw ri re now (silenceM cs ss now acts k 1).2.2.length ∧ logoutR a now (cs, (ss, (mo, (mw, (ri, (re, (now, acts))))))) = some (resM (matchM T ((silenceM cs ss now acts k 1).1, (ss.take k ++ ss.drop (k + 1), (mo, (mw, (ri, (re, (now, (silenceM cs ss now acts k 1).2.2)))))))))) ∧
     ((ss.getD k dS).2.1 ≠ 3 → (ss.getD k dS).2.1 ≠ 2 → GQ T (K + 3) cs (ss.take k ++ ss.drop (k + 1)) mw ri re now acts.length ∧ logoutR a now (cs, (ss, (mo, (mw, (ri, (re, (now, acts))))))) = some (resM (matchM T (cs, (ss.take k ++ ss.drop (k + 1), (mo, (mw, (ri, (re, (now, acts))))))))) ) := by
  have h1 := h.hc
  have h2 := h.hs
  have hk := h.k
  have hK := h.hK
  rcases idxT_cases ss a with ⟨hi, _⟩ | ⟨k, hi, k1, _⟩
  · left
    refine ⟨hi, ?_⟩
    unfold logoutR
    simp (disch := (first | omega | (simp only [LNl]; omega))) only [↓SDl, SDr, ↓sof_b, hi]
    rfl
  · right
    obtain ⟨y, hy, hyb⟩ := get_at dS k1
    have hyb' := fun {β : Type} (f : Se → Option β) => (get_at' dS k1 f).trans (congrArg f hy)
    have hlen := erase_len ss k1
    refine ⟨k, hi, k1, fun hs => ?_, fun hs => ?_, fun hs3 hs2 => ?_⟩
    · rw [hy] at hs
      unfold logoutR
      simp (disch := (first | omega | (simp only [LNl]; omega))) only [↓SDl, SDr, ↓sof_b, hi, ↓hyb, ↓hyb', hs, decide_true]
      rfl
    · obtain ⟨i, i1, i2, i3, i4⟩ := ringee h.v k1 hs
      have hg := logout_ok (silence_ok2 h hT hK2 k1 hs 1 (.inl rfl)) (k := k) (by unfold silenceM; rw [setS_len]; exact k1) (by unfold silenceM; rw [setS_getD _ _ _ _ _ k1, if_pos rfl]; simp)
      have hss : (silenceM cs ss now acts k 1).2.1.take k ++ (silenceM cs ss now acts k 1).2.1.drop (k + 1) = ss.take k ++ ss.drop (k + 1) := by unfold silenceM setS; exact erase_set' _ _ _
      rw [hss] at hg
      refine ⟨hg, ?_⟩
      have he := end_j (mo := mo) hg
      obtain ⟨x, hx, hxb⟩ := get_at dC i1
      have hxb' := fun {β : Type} (f : Ca → Option β) => (get_at' dC i1 f).trans (congrArg f hx)
      rw [hy] at hs i2
      revert he
      unfold logoutR silenceM setC
      intro he
      simp only [hy, i2, hx, Int.toNat_natCast] at he ⊢
      simp (disch := (first | omega | (simp only [LNl]; omega))) only [↓SDl, SDr, if_pos, if_neg, ↓sof_b, ↓cof_b, hi, i2, ↓hxb, ↓hyb, ↓hxb', ↓hyb', hs, decide_true, decide_false, wrap_i64', Int.toNat_natCast, take_drop_all, Int.toNat_natCast_add_one, ↓setget_b, List.length_set, take_set_len, List.set_set]
      exact he
    · have hg := (logout_ok h k1 hs2).up (K' := K + 3) (by omega) hK2
      refine ⟨hg, ?_⟩
      have he := end_j (mo := mo) hg
      rw [hy] at hs3 hs2
      unfold logoutR
      simp (disch := (first | omega | (simp only [LNl]; omega))) only [↓SDl, SDr, if_pos, if_neg, ↓sof_b, hi, ↓hyb, ↓hyb', hs3, hs2, decide_true, decide_false, wrap_i64', Int.toNat_natCast, take_drop_all, Int.toNat_natCast_add_one]
      exact he
theorem acceptR_j (h : GQ T K cs ss mw ri re now acts.length) (a : Int) :
    (idxT ss a = -1 ∧ acceptR a now (cs, (ss, (mo, (mw, (ri, (re, (now, acts))))))) = some (failR 8)) ∨ ∃ k : Nat, idxT ss a = (k : Int) ∧ k < ss.length ∧
     ((ss.getD k dS).2.1 ≠ 2 → acceptR a now (cs, (ss, (mo, (mw, (ri, (re, (now, acts))))))) = some (failR 9)) ∧
     ((ss.getD k dS).2.1 = 2 → ∃ i : Nat, i < cs.length ∧ idxC cs (ss.getD k dS).2.2.2.1 = (i : Int) ∧ GQ T K (cs.take i ++ cs.drop (i + 1)) (takeS ss k now) mw ri re now (acts ++ [(3, ((ss.getD k dS).2.2.2.1, a))]).length ∧
       acceptR a now (cs, (ss, (mo, (mw, (ri, (re, (now, acts))))))) = some (resM (matchM T (cs.take i ++ cs.drop (i + 1), (takeS ss k now, (mo, (mw, (ri, (re, (now, acts ++ [(3, ((ss.getD k dS).2.2.2.1, a))]))))))))) ) := by
  have h1 := h.hc
  have h2 := h.hs
  have hk := h.k
  have hK := h.hK
  rcases idxT_cases ss a with ⟨hi, _⟩ | ⟨k, hi, k1, _⟩
  · left
    refine ⟨hi, ?_⟩
    unfold acceptR
    simp (disch := (first | omega | (simp only [LNl]; omega))) only [↓SDl, SDr, ↓sof_b, hi]
    rfl
  · right
    obtain ⟨y, hy, hyb⟩ := get_at dS k1
    have hyb' := fun {β : Type} (f : Se → Option β) => (get_at' dS k1 f).trans (congrArg f hy)
    refine ⟨k, hi, k1, fun hs => ?_, fun hs => ?_⟩
    · rw [hy] at hs
      unfold acceptR
      simp (disch := (first | omega | (simp only [LNl]; omega))) only [↓SDl, SDr, ↓sof_b, hi, ↓hyb, ↓hyb', hs, ne_eq, not_false_eq_true, decide_true]
      rfl
    · obtain ⟨i, i1, i2, i3, i4⟩ := ringee h.v k1 hs
      have hg := accept_ok h i1 k1 hs i3 i4
      rw [show acts.length + 1 = (acts ++ [(3, ((ss.getD k dS).2.2.2.1, a))]).length from by rw [List.length_append, List.length_singleton]] at hg
      refine ⟨i, i1, i2, hg, ?_⟩
      have he := end_j (mo := mo) hg
      have hq := VF.se h.v k k1
      have hlen := erase_len cs i1
      rw [hy] at hs i2 hq he ⊢
      unfold takeS at he ⊢
      rw [hy] at he ⊢
      have hmin : minA (y.2.2.2.2 + 1) 2147483647 = min (y.2.2.2.2 + 1) 2147483647 := by unfold minA; split <;> omega
      unfold acceptR
      simp (disch := (first | omega | (simp only [LNl]; omega))) only [↓SDl, SDr, if_pos, if_neg, ↓sof_b, ↓cof_b, hi, i2, ↓hyb, ↓hyb', hs, ne_eq, not_true_eq_false, decide_true, decide_false, wrap_i64', Int.toNat_natCast, take_drop_all, Int.toNat_natCast_add_one, ↓setget_b, List.length_set, take_set_len, List.set_set, hmin]
      exact he
theorem refuseR_j (h : GQ T K cs ss mw ri re now acts.length) (hT : now = T) (hK2 : K + 3 ≤ 3000000000000) (a : Int) :
    (idxT ss a = -1 ∧ refuseR a now (cs, (ss, (mo, (mw, (ri, (re, (now, acts))))))) = some (failR 8)) ∨ ∃ k : Nat, idxT ss a = (k : Int) ∧ k < ss.length ∧
     ((ss.getD k dS).2.1 ≠ 2 → refuseR a now (cs, (ss, (mo, (mw, (ri, (re, (now, acts))))))) = some (failR 9)) ∧
     ((ss.getD k dS).2.1 = 2 → GQ T (K + 3) (silenceM cs ss now acts k 4).1 (silenceM cs ss now acts k 4).2.1 mw ri re now (silenceM cs ss now acts k 4).2.2.length ∧
       refuseR a now (cs, (ss, (mo, (mw, (ri, (re, (now, acts))))))) = some (resM (matchM T ((silenceM cs ss now acts k 4).1, ((silenceM cs ss now acts k 4).2.1, (mo, (mw, (ri, (re, (now, (silenceM cs ss now acts k 4).2.2)))))))))) := by
  have h1 := h.hc
  have h2 := h.hs
  have hk := h.k
  have hK := h.hK
  rcases idxT_cases ss a with ⟨hi, _⟩ | ⟨k, hi, k1, _⟩
  · left
    refine ⟨hi, ?_⟩
    unfold refuseR
    simp (disch := (first | omega | (simp only [LNl]; omega))) only [↓SDl, SDr, ↓sof_b, hi]
    rfl
  · right
    obtain ⟨y, hy, hyb⟩ := get_at dS k1
    have hyb' := fun {β : Type} (f : Se → Option β) => (get_at' dS k1 f).trans (congrArg f hy)
    refine ⟨k, hi, k1, fun hs => ?_, fun hs => ?_⟩
    · rw [hy] at hs
      unfold refuseR
      simp (disch := (first | omega | (simp only [LNl]; omega))) only [↓SDl, SDr, ↓sof_b, hi, ↓hyb, ↓hyb', hs, ne_eq, not_false_eq_true, decide_true]
      rfl
    · obtain ⟨i, i1, i2, i3, i4⟩ := ringee h.v k1 hs
      have hg := silence_ok2 h hT hK2 k1 hs 4 (.inr rfl)
      refine ⟨hg, ?_⟩
      have he := end_j (mo := mo) hg
      obtain ⟨x, hx, hxb⟩ := get_at dC i1
      have hxb' := fun {β : Type} (f : Ca → Option β) => (get_at' dC i1 f).trans (congrArg f hx)
      rw [hy] at hs i2
      revert he
      unfold refuseR silenceM setC setS
      intro he
      simp only [hy, i2, hx, Int.toNat_natCast] at he ⊢
      simp (disch := (first | omega | (simp only [LNl]; omega))) only [↓SDl, SDr, if_pos, if_neg, ↓sof_b, ↓cof_b, hi, i2, ↓hxb, ↓hyb, ↓hxb', ↓hyb', hs, ne_eq, not_true_eq_false, decide_true, decide_false, wrap_i64', Int.toNat_natCast, ↓setget_b, List.length_set, take_set_len, List.set_set]
      exact he
theorem doneR_j (h : GQ T K cs ss mw ri re now acts.length) (hT : now = T) (hK2 : K + 3 ≤ 3000000000000) (a : Int) :
    (idxT ss a = -1 ∧ doneR a now (cs, (ss, (mo, (mw, (ri, (re, (now, acts))))))) = some (failR 8)) ∨ ∃ k : Nat, idxT ss a = (k : Int) ∧ k < ss.length ∧
     ((ss.getD k dS).2.1 ≠ 3 → doneR a now (cs, (ss, (mo, (mw, (ri, (re, (now, acts))))))) = some (failR 9)) ∧
     ((ss.getD k dS).2.1 = 3 → GQ T (K + 3) cs (setS ss k 4 now 0) mw ri re now acts.length ∧
       doneR a now (cs, (ss, (mo, (mw, (ri, (re, (now, acts))))))) = some (resM (matchM T (cs, (setS ss k 4 now 0, (mo, (mw, (ri, (re, (now, acts)))))))))) := by
  have h1 := h.hc
  have h2 := h.hs
  have hk := h.k
  have hK := h.hK
  rcases idxT_cases ss a with ⟨hi, _⟩ | ⟨k, hi, k1, _⟩
  · left
    refine ⟨hi, ?_⟩
    unfold doneR
    simp (disch := (first | omega | (simp only [LNl]; omega))) only [↓SDl, SDr, ↓sof_b, hi]
    rfl
  · right
    obtain ⟨y, hy, hyb⟩ := get_at dS k1
    have hyb' := fun {β : Type} (f : Se → Option β) => (get_at' dS k1 f).trans (congrArg f hy)
    refine ⟨k, hi, k1, fun hs => ?_, fun hs => ?_⟩
    · rw [hy] at hs
      unfold doneR
      simp (disch := (first | omega | (simp only [LNl]; omega))) only [↓SDl, SDr, ↓sof_b, hi, ↓hyb, ↓hyb', hs, ne_eq, not_false_eq_true, decide_true]
      rfl
    · have hg := done_ok h hT hK2 k1 hs
      refine ⟨hg, ?_⟩
      have he := end_j (mo := mo) hg
      rw [hy] at hs
      unfold setS at he ⊢
      rw [hy] at he ⊢
      unfold doneR
      simp (disch := (first | omega | (simp only [LNl]; omega))) only [↓SDl, SDr, if_pos, if_neg, ↓sof_b, hi, ↓hyb, ↓hyb', hs, ne_eq, not_true_eq_false, decide_true, decide_false, wrap_i64', Int.toNat_natCast, ↓setget_b, List.length_set, take_set_len, List.set_set]
      exact he
end
end Go.Proofs.Ytkmfgldoljegoaa
