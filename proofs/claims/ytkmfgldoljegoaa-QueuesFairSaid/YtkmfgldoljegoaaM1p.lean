import Derived.Test.YtkmfgldoljegoaaY1p
import Derived.Test.YtkmfgldoljegoaaY3p
set_option linter.unusedVariables false
set_option linter.unusedSimpArgs false
set_option maxRecDepth 100000
namespace Go.Proofs.Ytkmfgldoljegoaa
open Go.RowKit
abbrev Ca := Int × (Int × (Int × Int))
abbrev Se := Int × (Int × (Int × (Int × Int)))
abbrev Ac := Int × (Int × Int)
abbrev Th := Int × (Bool × Int)
abbrev Wk := List Ca × (List Se × (Int × (Int × (Int × (Int × (Int × List Ac))))))
abbrev Qt := List Ca × (List Se × (Int × (Int × (Int × (Int × Int)))))
abbrev Rt := Qt × (List Ac × Int)
abbrev qtC : U := (.pair (.int .i64) (.pair (.int .i64) (.pair (.int .i64) (.int .i64))))
abbrev qtS : U := (.pair (.int .i64) (.pair (.int .u8) (.pair (.int .i64) (.pair (.int .i64) (.int .i64)))))
abbrev qtA : U := (.pair (.int .u8) (.pair (.int .i64) (.int .i64)))
abbrev qtT : U := (.pair (.int .i64) (.pair .bool (.int .i64)))
abbrev qd : CS := .dat (.int .i64)
abbrev qdC : CS := .dat (.list qtC)
abbrev qdS : CS := .dat (.list qtS)
abbrev dC : Ca := (0, (0, (0, 0)))
abbrev dS : Se := (0, (0, (0, (0, 0))))
abbrev dT : Th := (0, (false, 0))
def pk {α : Type} (lt : α → α → Bool) : Option α → α → Option α
  | none, x => some x
  | some y, x => if lt x y = true then some x else some y
def pick {α : Type} (lt : α → α → Bool) (l : List α) : Option α := l.foldl (pk lt) none
theorem pick_snoc {α : Type} (lt : α → α → Bool) (l : List α) (x : α) : pick lt (l ++ [x]) = pk lt (pick lt l) x := by
  unfold pick; rw [List.foldl_append]; rfl
theorem pick_some {α : Type} (key : α → Int) {lt : α → α → Bool} (hlt : ∀ x y, lt x y = true ↔ key x < key y) (l : List α) :
    (l = [] ∧ pick lt l = none) ∨ ∃ x, pick lt l = some x ∧ ∃ a b, l = a ++ x :: b ∧ (∀ y ∈ a, key x < key y) ∧ ∀ y ∈ b, key x ≤ key y := by
  have : ∀ r : List α, (r.reverse = [] ∧ pick lt r.reverse = none) ∨ ∃ x, pick lt r.reverse = some x ∧ ∃ a b, r.reverse = a ++ x :: b ∧ (∀ y ∈ a, key x < key y) ∧ ∀ y ∈ b, key x ≤ key y := by
    intro r
    induction r with
    | nil => exact .inl ⟨rfl, rfl⟩
    | cons z r ih =>
      right
      rw [List.reverse_cons, pick_snoc]
      rcases ih with ⟨h1, h2⟩ | ⟨x, h1, a, b, h2, h3, h4⟩
      · rw [h2, h1]
        exact ⟨z, rfl, [], [], rfl, (by simp), (by simp)⟩
      · rw [h1]
        by_cases hz : lt z x = true
        · refine ⟨z, by simp [pk, hz], r.reverse, [], rfl, fun y hy => ?_, by simp⟩
          have hk := (hlt z x).1 hz
          rw [h2] at hy
          rcases List.mem_append.1 hy with e | e
          · have := h3 y e; omega
          · rcases List.mem_cons.1 e with e | e
            · rw [e]; omega
            · have := h4 y e; omega
        · refine ⟨x, by simp [pk, hz], a, b ++ [z], by rw [h2]; simp, h3, fun y hy => ?_⟩
          have hk : ¬ key z < key x := fun h => hz ((hlt z x).2 h)
          rcases List.mem_append.1 hy with e | e
          · exact h4 y e
          · rw [List.mem_singleton.1 e]; omega
  have := this l.reverse
  rwa [List.reverse_reverse] at this
theorem pick_none {α : Type} {lt : α → α → Bool} {l : List α} : pick lt l = none ↔ l = [] := by
  constructor
  · intro h
    cases l with
    | nil => rfl
    | cons x l =>
      exfalso
      have : ∀ (l : List α) (y : α), ∃ z, l.foldl (pk lt) (some y) = some z := by
        intro l
        induction l with
        | nil => intro y; exact ⟨y, rfl⟩
        | cons w l ih =>
          intro y
          rw [List.foldl_cons]
          have : ∃ q, pk lt (some y) w = some q := by
            unfold pk
            by_cases h : lt w y = true
            · exact ⟨w, by simp only [if_pos h]⟩
            · exact ⟨y, by simp only [if_neg h]⟩
          obtain ⟨q, hq⟩ := this
          rw [hq]
          exact ih q
      obtain ⟨z, hz⟩ := this l x
      unfold pick at h
      rw [List.foldl_cons] at h
      exact absurd (hz.symm.trans h) (by simp)
  · rintro rfl; rfl
theorem pick_mem {α : Type} {lt : α → α → Bool} {l : List α} {x : α} (h : pick lt l = some x) : x ∈ l := by
  suffices hs : ∀ (r : List α) (x : α), pick lt r.reverse = some x → x ∈ r.reverse by
    have := hs l.reverse x
    rw [List.reverse_reverse] at this
    exact this h
  intro r
  induction r with
  | nil => intro x hx; cases hx
  | cons z r ih =>
    intro x hx
    rw [List.reverse_cons, pick_snoc] at hx
    rw [List.reverse_cons, List.mem_append]
    cases hp : pick lt r.reverse with
    | none => rw [hp] at hx; right; simp [pk] at hx; simp [hx]
    | some y =>
      rw [hp] at hx
      unfold pk at hx
      simp only at hx
      split at hx
      · cases hx; right; simp
      · cases hx; left; exact ih _ hp
def lidx {α : Type} (lt : α → α → Bool) (L : List α) (d : α) : Nat → Int
  | 0 => -1
  | i + 1 => if lidx lt L d i < 0 then (i : Int) else if lt (L.getD i d) (L.getD (lidx lt L d i).toNat d) = true then (i : Int) else lidx lt L d i
theorem lidx_pick {α : Type} (lt : α → α → Bool) (L : List α) (d : α) : ∀ i, i ≤ L.length → (i = 0 ∧ lidx lt L d i = -1) ∨ ∃ j : Nat, j < i ∧ lidx lt L d i = (j : Int) ∧ pick lt (L.take i) = some (L.getD j d) := by
  intro i
  induction i with
  | zero => intro _; exact .inl ⟨rfl, rfl⟩
  | succ i ih =>
    intro hi
    right
    rw [take_snoc L d (by omega), pick_snoc]
    rcases ih (by omega) with ⟨h1, h2⟩ | ⟨j, h1, h2, h3⟩
    · subst h1
      exact ⟨0, by omega, by simp [lidx], rfl⟩
    · rw [h3]
      unfold lidx pk
      rw [h2, if_neg (by omega), Int.toNat_natCast]
      by_cases hl : lt (L.getD i d) (L.getD j d) = true
      · rw [if_pos hl]
        refine ⟨i, by omega, rfl, ?_⟩
        simp only [hl, if_true]
      · rw [if_neg hl]
        refine ⟨j, by omega, rfl, ?_⟩
        simp only [if_neg hl]
theorem least_j {α β : Type} (lt : α → α → Bool) (L : List α) (d : α) {body : (Int × Int) → Option ((Int × Int) ⊕ β)} (r : Int → β)
    (h1 : ∀ (i : Nat) (k : Int), i < L.length → k < 0 → body ((i : Int), k) = some (.inl (((i + 1 : Nat) : Int), (i : Int))))
    (h2 : ∀ i j : Nat, i < L.length → j < L.length → body ((i : Int), (j : Int)) = some (.inl (((i + 1 : Nat) : Int), if lt (L.getD i d) (L.getD j d) = true then (i : Int) else (j : Int))))
    (h3 : ∀ k : Int, body ((L.length : Int), k) = some (.inr (r k))) :
    loopO body ((0 : Int), (-1 : Int)) = some (r (lidx lt L d L.length)) := by
  refine loopO_from (fun i => ((i : Int), lidx lt L d i)) L.length rfl (fun i hi => ?_) (h3 _)
  rcases lidx_pick lt L d i (by omega) with ⟨k1, k2⟩ | ⟨j, k1, k2, k3⟩
  · show body ((i : Int), lidx lt L d i) = _
    rw [h1 i _ hi (by omega)]
    unfold lidx
    rw [if_pos (by omega)]
  · show body ((i : Int), lidx lt L d i) = _
    rw [k2, h2 i j hi (by omega)]
    show _ = some (Sum.inl (_, if lidx lt L d i < 0 then (i : Int) else if lt (L.getD i d) (L.getD (lidx lt L d i).toNat d) = true then (i : Int) else lidx lt L d i))
    rw [k2, if_neg (show ¬ ((j : Int) < 0) from by omega), Int.toNat_natCast]
theorem lidx_cases {α : Type} (lt : α → α → Bool) (L : List α) (d : α) : (L = [] ∧ pick lt L = none ∧ lidx lt L d L.length = -1) ∨ ∃ j : Nat, j < L.length ∧ pick lt L = some (L.getD j d) ∧ lidx lt L d L.length = (j : Int) := by
  rcases lidx_pick lt L d L.length (Nat.le_refl _) with ⟨k1, k2⟩ | ⟨j, k1, k2, k3⟩
  · left
    have hL := List.length_eq_zero_iff.1 k1
    exact ⟨hL, by rw [hL]; rfl, k2⟩
  · right
    rw [List.take_length] at k3
    exact ⟨j, k1, k3, k2⟩
theorem gather_j {α β : Type} (g : Nat → List α) (hg : ∀ i, (g i).length ≤ 1) (n : Nat) {body : (Int × List α) → Option ((Int × List α) ⊕ β)} (r : List α → β) (l0 : List α)
    (h1 : ∀ i : Nat, i < n → ∀ l : List α, l.length ≤ l0.length + i → body ((i : Int), l) = some (.inl (((i + 1 : Nat) : Int), l ++ g i)))
    (h3 : ∀ l : List α, l.length ≤ l0.length + n → body ((n : Int), l) = some (.inr (r l))) :
    loopO body ((0 : Int), l0) = some (r (l0 ++ (List.range n).flatMap g)) := by
  have hl : ∀ i, ((List.range i).flatMap g).length ≤ i := by
    intro i
    induction i with
    | zero => exact Nat.le_refl _
    | succ i ih =>
      rw [List.range_succ, List.flatMap_append, List.length_append]
      have := hg i
      simp only [List.flatMap_cons, List.flatMap_nil, List.append_nil]
      omega
  refine loopO_from (fun i => ((i : Int), l0 ++ (List.range i).flatMap g)) n (by simp) (fun i hi => ?_) (h3 _ (by rw [List.length_append]; have := hl n; omega))
  show body ((i : Int), l0 ++ (List.range i).flatMap g) = _
  rw [h1 i hi _ (by rw [List.length_append]; have := hl i; omega)]
  rw [List.range_succ, List.flatMap_append]
  simp only [List.flatMap_cons, List.flatMap_nil, List.append_nil, List.append_assoc]
theorem flat_len {α : Type} (g : Nat → List α) (hg : ∀ i, (g i).length ≤ 1) : ∀ n, ((List.range n).flatMap g).length ≤ n := by
  intro i
  induction i with
  | zero => exact Nat.le_refl _
  | succ i ih =>
    rw [List.range_succ, List.flatMap_append, List.length_append]
    have := hg i
    simp only [List.flatMap_cons, List.flatMap_nil, List.append_nil]
    omega
def iter {α : Type} (f : α → Option α) : Nat → α → α
  | 0, w => w
  | n + 1, w => match f w with
    | none => w
    | some w' => iter f n w'
theorem iter_ok {α : Type} {f : α → Option α} (I : α → Prop) (μ : α → Nat) (h : ∀ w w', I w → f w = some w' → I w' ∧ μ w' < μ w) : ∀ n w, I w → μ w ≤ n → I (iter f n w) ∧ f (iter f n w) = none := by
  intro n
  induction n with
  | zero =>
    intro w hw hm
    refine ⟨hw, ?_⟩
    cases hf : f w with
    | none => exact hf
    | some w' => have := (h w w' hw hf).2; omega
  | succ n ih =>
    intro w hw hm
    unfold iter
    cases hf : f w with
    | none => exact ⟨hw, hf⟩
    | some w' =>
      have := h w w' hw hf
      exact ih w' this.1 (by omega)
theorem iter_j {α β : Type} {f : α → Option α} {body : α → Option (α ⊕ β)} (I : α → Prop) (μ : α → Nat) (r : α → β) (h : ∀ w w', I w → f w = some w' → I w' ∧ μ w' < μ w)
    (h1 : ∀ w w', I w → f w = some w' → body w = some (.inl w')) (h2 : ∀ w, I w → f w = none → body w = some (.inr (r w))) : ∀ n w, I w → μ w ≤ n → loopO body w = some (r (iter f n w)) := by
  intro n
  induction n with
  | zero =>
    intro w hw hm
    cases hf : f w with
    | none => rw [loopO_eq, h2 w hw hf]; rfl
    | some w' => have := (h w w' hw hf).2; omega
  | succ n ih =>
    intro w hw hm
    unfold iter
    cases hf : f w with
    | none => rw [loopO_eq, h2 w hw hf]
    | some w' =>
      have := h w w' hw hf
      rw [loopO_eq, h1 w w' hw hf]
      exact ih w' this.1 (by omega)
theorem sum_set {α : Type} (f : α → Nat) (d : α) : ∀ (l : List α) (i : Nat) (x : α), i < l.length → ((l.set i x).map f).sum + f (l.getD i d) = (l.map f).sum + f x := by
  intro l
  induction l with
  | nil => intro i x h; simp at h
  | cons y l ih =>
    intro i x h
    cases i with
    | zero => simp; omega
    | succ i =>
      have := ih i x (by simpa using h)
      simp only [List.set_cons_succ, List.map_cons, List.sum_cons, List.getD_cons_succ] at this ⊢
      omega
theorem sum_le {α : Type} {f g : α → Nat} : ∀ (l : List α), (∀ x ∈ l, f x ≤ g x) → (l.map f).sum ≤ (l.map g).sum := by
  intro l
  induction l with
  | nil => intro _; exact Nat.le_refl _
  | cons y l ih =>
    intro h
    have h1 := h y (List.mem_cons_self ..)
    have h2 := ih fun x hx => h x (List.mem_cons_of_mem _ hx)
    simp only [List.map_cons, List.sum_cons]
    omega
theorem sum_bound {α : Type} {f : α → Nat} (K : Nat) : ∀ (l : List α), (∀ x ∈ l, f x ≤ K) → (l.map f).sum ≤ l.length * K := by
  intro l
  induction l with
  | nil => intro _; simp
  | cons y l ih =>
    intro h
    have h1 := h y (List.mem_cons_self ..)
    have h2 := ih fun x hx => h x (List.mem_cons_of_mem _ hx)
    simp only [List.map_cons, List.sum_cons, List.length_cons, Nat.add_mul]
    omega
theorem getD_set' {α : Type} (l : List α) (i k : Nat) (x d : α) (h : i < l.length) : (l.set i x).getD k d = if k = i then x else l.getD k d := by
  rw [List.getD_eq_getElem?_getD, List.getElem?_set]
  by_cases e : i = k
  · subst e; simp [h]
  · rw [if_neg e, if_neg (fun q => e q.symm), List.getD_eq_getElem?_getD]
theorem getD_erase {α : Type} (l : List α) (i k : Nat) (d : α) : (l.take i ++ l.drop (i + 1)).getD k d = if k < i then l.getD k d else if i < l.length then l.getD (k + 1) d else d := by
  rw [List.getD_eq_getElem?_getD, List.getElem?_append, List.length_take]
  by_cases hi : i < l.length
  · rw [Nat.min_eq_left (by omega)]
    by_cases h : k < i
    · rw [if_pos h, if_pos h, List.getElem?_take, if_pos h, List.getD_eq_getElem?_getD]
    · rw [if_neg h, if_neg h, if_pos hi, List.getElem?_drop, List.getD_eq_getElem?_getD, show i + 1 + (k - i) = k + 1 from by omega]
  · rw [Nat.min_eq_right (by omega), if_neg hi, List.drop_eq_nil_of_le (by omega)]
    by_cases h : k < l.length
    · rw [if_pos h, if_pos (by omega), List.getElem?_take, if_pos (by omega), List.getD_eq_getElem?_getD]
    · rw [if_neg h]
      by_cases h2 : k < i
      · rw [if_pos h2, List.getD_eq_getElem?_getD, List.getElem?_eq_none (l := l) (by omega)]; rfl
      · rw [if_neg h2]; rfl
theorem getD_snoc {α : Type} (l : List α) (k : Nat) (x d : α) : (l ++ [x]).getD k d = if k < l.length then l.getD k d else if k = l.length then x else d := by
  rw [List.getD_eq_getElem?_getD, List.getElem?_append]
  by_cases h : k < l.length
  · rw [if_pos h, if_pos h, List.getD_eq_getElem?_getD]
  · rw [if_neg h, if_neg h]
    by_cases e : k = l.length
    · subst e; simp
    · rw [if_neg e, List.getElem?_eq_none (by simp; omega)]; rfl
end Go.Proofs.Ytkmfgldoljegoaa
