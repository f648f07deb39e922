/- What a list of timers is that calls of Add make: plain lists, no program in sight. -/
import Derived.Test.YtejppifgljjnmaaA9
set_option linter.unusedVariables false
set_option linter.unusedSimpArgs false
namespace Go.Proofs.Ytejppifgljjnmaa

def mkT (b : Int) (i : Nat) : Tm := ⟨b % 16, b / 64, i⟩
def madeK (bs : List Int) : Nat → List Tm
  | 0 => []
  | k + 1 => insT (mkT (bs[k]?.getD 0) k) (madeK bs k)
theorem insT_length (t : Tm) (ts : List Tm) : (insT t ts).length = ts.length + 1 := by
  have h : pre t ts ++ post t ts = ts := List.takeWhile_append_dropWhile
  have := congrArg List.length h
  simp only [List.length_append] at this
  simp only [insT, List.length_append, List.length_cons]
  omega
theorem madeK_length (bs : List Int) : ∀ k, (madeK bs k).length = k
  | 0 => rfl
  | k + 1 => by rw [madeK, insT_length, madeK_length bs k]
theorem vf_mono {a b : Int} (h : b ≤ a) : ∀ {ts : List Tm}, vf a ts = true → vf b ts = true
  | [], _ => rfl
  | t :: r, hv => by
    simp only [vf, Bool.and_eq_true, decide_eq_true_eq] at hv ⊢
    exact ⟨⟨by omega, hv.1.2⟩, hv.2⟩
theorem insT_cons_le {t x : Tm} {r : List Tm} (h : x.at_ ≤ t.at_) : insT t (x :: r) = x :: insT t r := by simp [insT, pre, post, h]
theorem insT_cons_gt {t x : Tm} {r : List Tm} (h : t.at_ < x.at_) : insT t (x :: r) = t :: x :: r := by
  have : ¬ x.at_ ≤ t.at_ := by omega
  simp [insT, pre, post, this]
theorem vf_ins {t : Tm} (hM : t.at_ ≤ 1099511627776) : ∀ {ts : List Tm} {last : Int}, vf last ts = true → last ≤ t.at_ → vf last (insT t ts) = true
  | [], last, _, h => by simp [insT, pre, post, vf, h, hM]
  | x :: r, last, hv, h => by
    simp only [vf, Bool.and_eq_true, decide_eq_true_eq] at hv
    by_cases hx : x.at_ ≤ t.at_
    · rw [insT_cons_le hx]
      simp only [vf, Bool.and_eq_true, decide_eq_true_eq]
      exact ⟨hv.1, vf_ins hM hv.2 hx⟩
    · rw [insT_cons_gt (by omega)]
      simp only [vf, Bool.and_eq_true, decide_eq_true_eq]
      exact ⟨⟨h, hM⟩, ⟨by omega, hv.1.2⟩, hv.2⟩
theorem mkT_at (b : Int) (i : Nat) : 0 ≤ (mkT b i).at_ ∧ (mkT b i).at_ ≤ 15 := by simp [mkT]; omega
theorem madeK_vf (bs : List Int) : ∀ k, vf 0 (madeK bs k) = true
  | 0 => rfl
  | k + 1 => by
    have h := mkT_at (bs[k]?.getD 0) k
    exact vf_ins (by omega) (madeK_vf bs k) h.1
theorem madeK_valid (bs : List Int) {k : Nat} (hk : k ≤ 1000) : validB (madeK bs k) = true := by
  simp [validB, madeK_length, madeK_vf, hk]
theorem mkT_timely (b : Int) (i : Nat) : timelyB (mkT b i) = true := by
  have h := mkT_at b i
  simp only [timelyB, Bool.and_eq_true, decide_eq_true_eq]; omega
theorem madeK_add (bs : List Int) {k : Nat} (hk : k ≤ 900) : addR (madeK bs k) (mkT (bs[k]?.getD 0) k) = (madeK bs (k + 1), 0) := by
  rw [addR, if_pos (by rw [madeK_valid bs (by omega), mkT_timely]; rfl), if_neg (by rw [madeK_length]; omega), madeK]

def lexLt (x y : Tm) : Prop := x.at_ < y.at_ ∨ (x.at_ = y.at_ ∧ x.kind < y.kind)
theorem ins_kinds {t : Tm} {ts : List Tm} {k : Nat} (ht : t.kind = k) (h : ∀ x ∈ ts, 0 ≤ x.kind ∧ x.kind < k) : ∀ x ∈ insT t ts, 0 ≤ x.kind ∧ x.kind < k + 1 := by
  intro x hx
  have hm : x = t ∨ x ∈ ts := by
    have h1 : pre t ts ++ post t ts = ts := List.takeWhile_append_dropWhile
    simp only [insT, List.mem_append, List.mem_cons] at hx
    rcases hx with hx | hx | hx
    · right; rw [← h1]; exact List.mem_append_left _ hx
    · left; exact hx
    · right; rw [← h1]; exact List.mem_append_right _ hx
  rcases hm with rfl | hm
  · omega
  · have := h x hm; omega
theorem ins_lex {t : Tm} {k : Nat} (ht : t.kind = k) : ∀ {ts : List Tm}, (∀ x ∈ ts, 0 ≤ x.kind ∧ x.kind < k) → ts.Pairwise lexLt → (insT t ts).Pairwise lexLt
  | [], _, _ => by simp [insT, pre, post]
  | x :: r, hk, hp => by
    rw [List.pairwise_cons] at hp
    have hkx := hk x (by simp)
    by_cases hx : x.at_ ≤ t.at_
    · rw [insT_cons_le hx, List.pairwise_cons]
      refine ⟨fun y hy => ?_, ins_lex ht (fun z hz => hk z (by simp [hz])) hp.2⟩
      have h1 : pre t r ++ post t r = r := List.takeWhile_append_dropWhile
      simp only [insT, List.mem_append, List.mem_cons] at hy
      rcases hy with hy | hy | hy
      · exact hp.1 y (by rw [← h1]; exact List.mem_append_left _ hy)
      · subst hy; unfold lexLt; omega
      · exact hp.1 y (by rw [← h1]; exact List.mem_append_right _ hy)
    · rw [insT_cons_gt (by omega), List.pairwise_cons]
      refine ⟨fun y hy => ?_, List.pairwise_cons.2 hp⟩
      left
      rcases List.mem_cons.1 hy with rfl | hy
      · omega
      · have := hp.1 y hy
        unfold lexLt at this; omega
theorem madeK_kinds (bs : List Int) : ∀ k, ∀ x ∈ madeK bs k, 0 ≤ x.kind ∧ x.kind < k
  | 0 => by simp [madeK]
  | k + 1 => by
    have := ins_kinds (t := mkT (bs[k]?.getD 0) k) (k := k) rfl (madeK_kinds bs k)
    intro x hx
    have h := this x hx
    omega
theorem madeK_lex (bs : List Int) : ∀ k, (madeK bs k).Pairwise lexLt
  | 0 => by simp [madeK]
  | k + 1 => ins_lex rfl (madeK_kinds bs k) (madeK_lex bs k)
theorem lex_at {ts : List Tm} (h : ts.Pairwise lexLt) {i : Nat} {x y : Tm} (hx : ts[i]? = some x) (hy : ts[i+1]? = some y) : lexLt x y := by
  obtain ⟨h1, rfl⟩ := List.getElem?_eq_some_iff.1 hx
  obtain ⟨h2, rfl⟩ := List.getElem?_eq_some_iff.1 hy
  exact List.pairwise_iff_getElem.1 h i (i+1) h1 h2 (by omega)
end Go.Proofs.Ytejppifgljjnmaa
