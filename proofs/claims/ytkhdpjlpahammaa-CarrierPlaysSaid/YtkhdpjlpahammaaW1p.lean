import Derived.Test.YtkhdpjlpahammaaY3p
set_option linter.unusedVariables false
set_option linter.unusedSimpArgs false
namespace Go.Proofs.Ytkhdpjlpahammaa
open Go.RowKit
section
variable {α β : Type}
theorem getA (P : List α) (x : α) (Q : List α) {k : Nat} (h : k = P.length) : (P ++ x :: Q)[k]? = some x := by
  subst h; rw [List.getElem?_append_right (Nat.le_refl _), Nat.sub_self]; rfl
theorem getAb (P : List α) (x : α) (Q : List α) {k : Int} (f : α → Option β) (h : k = (P.length : Int)) : bindO (P ++ x :: Q)[Int.toNat k]? f = f x := by
  subst h; rw [Int.toNat_natCast, getA P x Q rfl]; rfl
theorem setA (P : List α) (x y : α) (Q : List α) {k : Nat} (h : k = P.length) : (P ++ x :: Q).set k y = P ++ y :: Q := by
  subst h; rw [List.set_append_right _ _ (Nat.le_refl _), Nat.sub_self]; rfl
theorem sw_get1 (P Q R : List α) (x y : α) {k : Int} (f : α → Option β) (h : k = (P.length : Int)) : bindO (P ++ x :: (Q ++ y :: R))[Int.toNat k]? f = f x := getAb P x _ f h
theorem sw_get2 (P Q R : List α) (x y : α) {k : Int} (f : α → Option β) (h : k = ((P.length + 1 + Q.length : Nat) : Int)) : bindO (P ++ x :: (Q ++ y :: R))[Int.toNat k]? f = f y := by
  have e : P ++ x :: (Q ++ y :: R) = (P ++ x :: Q) ++ y :: R := by simp
  rw [e]
  exact getAb _ y R f (by rw [h]; simp; omega)
theorem sw_set1 (P Q R : List α) (x y z : α) {k : Int} (h : k = (P.length : Int)) : (P ++ x :: (Q ++ y :: R)).set (Int.toNat k) z = P ++ z :: (Q ++ y :: R) := setA P x z _ (by omega)
theorem sw_set2 (P Q R : List α) (x y z : α) {k : Int} (h : k = ((P.length + 1 + Q.length : Nat) : Int)) : (P ++ x :: (Q ++ y :: R)).set (Int.toNat k) z = P ++ x :: (Q ++ z :: R) := by
  have e : P ++ x :: (Q ++ y :: R) = (P ++ x :: Q) ++ y :: R := by simp
  rw [e, setA (P ++ x :: Q) y z R (by simp; omega)]
  simp
theorem ad_get1 (P R : List α) (x y : α) {k : Int} (f : α → Option β) (h : k = (P.length : Int)) : bindO (P ++ x :: y :: R)[Int.toNat k]? f = f x := getAb P x _ f h
theorem ad_get2 (P R : List α) (x y : α) {k : Int} (f : α → Option β) (h : k = (P.length : Int) + 1) : bindO (P ++ x :: y :: R)[Int.toNat k]? f = f y := sw_get2 P [] R x y f (by rw [h]; simp)
theorem ad_set1 (P R : List α) (x y z : α) {k : Int} (h : k = (P.length : Int)) : (P ++ x :: y :: R).set (Int.toNat k) z = P ++ z :: y :: R := setA P x z _ (by omega)
theorem ad_set2 (P R : List α) (x y z : α) {k : Int} (h : k = (P.length : Int) + 1) : (P ++ x :: y :: R).set (Int.toNat k) z = P ++ x :: z :: R := sw_set2 P [] R x y z (by rw [h]; simp)
end
theorem bin_search {δ : Type} {body : (Int × Int) → Option ((Int × Int) ⊕ (Int ⊕ δ))} (p : Int → Prop) (lo0 hi0 : Int) (h0 : 0 ≤ lo0) (h1 : hi0 ≤ 1000000000)
    (hend : ∀ hi lo, lo0 ≤ lo → hi ≤ hi0 → ¬ lo < hi → body (hi, lo) = some (.inr (.inl lo)))
    (hyes : ∀ hi lo, lo0 ≤ lo → hi ≤ hi0 → lo < hi → p ((lo + hi) / 2) → body (hi, lo) = some (.inl (hi, (lo + hi) / 2 + 1)))
    (hno : ∀ hi lo, lo0 ≤ lo → hi ≤ hi0 → lo < hi → ¬ p ((lo + hi) / 2) → body (hi, lo) = some (.inl ((lo + hi) / 2, lo))) :
    ∀ (n : Nat) (hi lo : Int), (hi - lo).toNat ≤ n → lo0 ≤ lo → lo ≤ hi → hi ≤ hi0 → (lo = lo0 ∨ p (lo - 1)) → (hi = hi0 ∨ ¬ p hi) →
      ∃ r, loopO body (hi, lo) = some (.inl r) ∧ lo0 ≤ r ∧ r ≤ hi0 ∧ (r = lo0 ∨ p (r - 1)) ∧ (r = hi0 ∨ ¬ p r)
  | n, hi, lo, hn, g1, g2, g3, g4, g5 => by
    by_cases hlt : lo < hi
    · cases n with
      | zero => omega
      | succ n =>
        by_cases hp : p ((lo + hi) / 2)
        · obtain ⟨r, k1, k2⟩ := bin_search p lo0 hi0 h0 h1 hend hyes hno n hi ((lo + hi) / 2 + 1) (by omega) (by omega) (by omega) g3 (.inr (by rw [show (lo + hi) / 2 + 1 - 1 = (lo + hi) / 2 by omega]; exact hp)) g5
          exact ⟨r, by rw [loopO_eq, hyes hi lo g1 g3 hlt hp]; exact k1, k2⟩
        · obtain ⟨r, k1, k2⟩ := bin_search p lo0 hi0 h0 h1 hend hyes hno n ((lo + hi) / 2) lo (by omega) g1 (by omega) (by omega) g4 (.inr hp)
          exact ⟨r, by rw [loopO_eq, hno hi lo g1 g3 hlt hp]; exact k1, k2⟩
    · refine ⟨lo, by rw [loopO_eq, hend hi lo g1 g3 hlt], g1, by omega, g4, ?_⟩
      rw [show lo = hi by omega]; exact g5
section
variable {α : Type}
structure Weak (S : α → Prop) (lt : α → α → Prop) : Prop where
  asym : ∀ x y, S x → S y → lt x y → ¬ lt y x
  tr : ∀ x y z, S x → S y → S z → ¬ lt y x → ¬ lt z y → ¬ lt z x
abbrev Srt (lt : α → α → Prop) (l : List α) : Prop := l.Pairwise fun x y => ¬ lt y x
variable {S : α → Prop} {lt : α → α → Prop}
theorem srt_app {a b : List α} (ha : Srt lt a) (hb : Srt lt b) (h : ∀ x ∈ a, ∀ y ∈ b, ¬ lt y x) : Srt lt (a ++ b) := List.pairwise_append.2 ⟨ha, hb, h⟩
theorem srt_last (W : Weak S lt) {a : List α} {z : α} (h : Srt lt (a ++ [z])) (hS : ∀ x ∈ a ++ [z], S x) {y : α} (hy : S y) (hz : ¬ lt y z) : ∀ x ∈ a ++ [z], ¬ lt y x := fun x hx => by
  rcases List.mem_append.1 hx with g | g
  · exact W.tr x z y (hS x hx) (hS z (by simp)) hy ((List.pairwise_append.1 h).2.2 x g z (by simp)) hz
  · rw [List.mem_singleton.1 g]; exact hz
theorem srt_first (W : Weak S lt) {a : List α} {z : α} (h : Srt lt (z :: a)) (hS : ∀ x ∈ z :: a, S x) {y : α} (hy : S y) (hz : ¬ lt z y) : ∀ x ∈ z :: a, ¬ lt x y := fun x hx => by
  rcases List.mem_cons.1 hx with rfl | g
  · exact hz
  · exact W.tr y z x hy (hS z (by simp)) (hS x hx) hz ((List.pairwise_cons.1 h).1 x g)
theorem split_at (l : List α) {k : Nat} (h : k ≤ l.length) : ∃ a b, l = a ++ b ∧ a.length = k := ⟨l.take k, l.drop k, (List.take_append_drop k l).symm, by rw [List.length_take]; omega⟩
theorem last_of {l : List α} (h : l ≠ []) : ∃ a z, l = a ++ [z] := ⟨l.dropLast, l.getLast h, (List.dropLast_concat_getLast h).symm⟩
theorem merge_parts {X1 X2 Y1 Y2 Z1 Z2 : List α} (W : Weak S lt) (hX : Srt lt (X1 ++ X2)) (hY : Srt lt (Y1 ++ Y2)) (hz1 : Z1.Perm (X1 ++ Y1)) (hz2 : Z2.Perm (X2 ++ Y2)) (s1 : Srt lt Z1) (s2 : Srt lt Z2)
    (c1 : ∀ x ∈ X1, ∀ y ∈ Y2, ¬ lt y x) (c2 : ∀ y ∈ Y1, ∀ x ∈ X2, ¬ lt x y) : (Z1 ++ Z2).Perm (X1 ++ X2 ++ (Y1 ++ Y2)) ∧ Srt lt (Z1 ++ Z2) := by
  refine ⟨?_, srt_app s1 s2 fun x hx y hy => ?_⟩
  · refine (hz1.append hz2).trans ?_
    rw [List.append_assoc, List.append_assoc]
    refine List.Perm.append_left X1 ?_
    rw [← List.append_assoc, ← List.append_assoc]
    exact List.Perm.append_right Y2 List.perm_append_comm
  · have hx := hz1.mem_iff.1 hx
    have hy := hz2.mem_iff.1 hy
    rcases List.mem_append.1 hx with g | g <;> rcases List.mem_append.1 hy with k | k
    · exact (List.pairwise_append.1 hX).2.2 x g y k
    · exact c1 x g y k
    · exact c2 x g y k
    · exact (List.pairwise_append.1 hY).2.2 x g y k
def Ch (lt : α → α → Prop) (s : Nat) : List (List α) → Prop
  | [] => True
  | [x] => 0 < x.length ∧ x.length ≤ s ∧ Srt lt x
  | x :: y :: r => x.length = s ∧ Srt lt x ∧ Ch lt s (y :: r)
def Full (lt : α → α → Prop) (s : Nat) (L : List (List α)) : Prop := ∀ x ∈ L, x.length = s ∧ Srt lt x
theorem full_ch {s : Nat} (hs : 0 < s) : ∀ {L : List (List α)} {x : List α}, Full lt s L → 0 < x.length → x.length ≤ s → Srt lt x → Ch lt s (L ++ [x])
  | [], x, h, h1, h2, h3 => ⟨h1, h2, h3⟩
  | [y], x, h, h1, h2, h3 => ⟨(h y (by simp)).1, (h y (by simp)).2, h1, h2, h3⟩
  | y :: z :: L, x, h, h1, h2, h3 => ⟨(h y (by simp)).1, (h y (by simp)).2, full_ch hs (L := z :: L) (fun w hw => h w (List.mem_cons_of_mem _ hw)) h1 h2 h3⟩
theorem full_ch0 {s : Nat} (hs : 0 < s) : ∀ {L : List (List α)}, Full lt s L → Ch lt s L
  | [], h => trivial
  | [y], h => ⟨by rw [(h y (by simp)).1]; exact hs, Nat.le_of_eq (h y (by simp)).1, (h y (by simp)).2⟩
  | y :: z :: L, h => ⟨(h y (by simp)).1, (h y (by simp)).2, full_ch0 hs (L := z :: L) fun w hw => h w (List.mem_cons_of_mem _ hw)⟩
theorem ch_one {s : Nat} (hs : 0 < s) : ∀ {L : List (List α)}, Ch lt s L → L.flatten.length ≤ s → Srt lt L.flatten
  | [], h, hl => List.Pairwise.nil
  | [x], h, hl => by rw [List.flatten_cons, List.flatten_nil, List.append_nil]; exact h.2.2
  | x :: y :: r, h, hl => by
    exfalso
    have hy : 0 < y.length := by
      cases r with
      | nil => exact h.2.2.1
      | cons z r => have := h.2.2.1; have := h.1; rw [List.flatten_cons, List.flatten_cons] at hl; simp at hl; omega
    have := h.1
    rw [List.flatten_cons, List.flatten_cons] at hl
    simp at hl
    omega
end
end Go.Proofs.Ytkhdpjlpahammaa
