import Derived.Test.YtkhdpjlpahammaaS3p
set_option linter.unusedVariables false
set_option linter.unusedSimpArgs false
set_option maxRecDepth 100000
set_option maxHeartbeats 4000000
namespace Go.Proofs.Ytkhdpjlpahammaa
open Go.RowKit
theorem gA (P : List Int) (z : Int) (Q : List Int) {k : Nat} (h : k = P.length) : (P ++ z :: Q).getD k 0 = z := by
  rw [List.getD_eq_getElem?_getD, getA P z Q h]; rfl
theorem half_e {i j : Int} (hi : 0 ≤ i ∧ i ≤ 1000000000) (hj : 0 ≤ j ∧ j ≤ 1000000000) : Int.fdiv (IntKind.wrap .u64 (i + j)) 2 = (i + j) / 2 := by
  have e : IntKind.wrap .u64 (i + j) = i + j := by
    show (i + j) % _ = i + j
    exact Int.emod_eq_of_lt (by omega) (by show i + j < 18446744073709551616; omega)
  rw [e, Int.fdiv_eq_ediv_of_nonneg _ (by omega)]
section
variable {due : List PcT} {V : Int → Prop} {c : Int → Int → Int} (hc : ∀ x y, V x → V y → carrier_Carrier_Receive_2 (x, (y, due)) = some (c x y)) (W : Weak V (fun x y => c x y < 0))
include hc
theorem smA_s {δ : Type} (L : List Int) (hL : L.length ≤ 1000000) (hV : ∀ y ∈ L, V y) {a m b : Int} (h1 : 0 ≤ a) (h2 : a < L.length) (h3 : 0 ≤ m) (h4 : m ≤ b) (h5 : b ≤ L.length) :
    ∃ r, loopO (smA (δ := δ) L a due) (b, m) = some (.inl r) ∧ m ≤ r ∧ r ≤ b ∧ (r = m ∨ c (L.getD (r - 1).toNat 0) (L.getD a.toNat 0) < 0) ∧ (r = b ∨ ¬ c (L.getD r.toNat 0) (L.getD a.toNat 0) < 0) := by
  have hg : ∀ h : Int, 0 ≤ h → h < L.length → V (L.getD h.toNat 0) := fun h k1 k2 => hV _ (by rw [getD_get _ (show h.toNat < L.length by omega)]; exact List.getElem_mem _)
  have hb : ∀ (h : Int) {β : Type} (f : Int → Option β), 0 ≤ h → h < L.length → bindO L[Int.toNat h]? f = f (L.getD h.toNat 0) := fun h β f k1 k2 => get_bz 0 f ⟨k1, k2⟩
  refine bin_search (fun h => c (L.getD h.toNat 0) (L.getD a.toNat 0) < 0) m b h3 (by omega) (fun hi lo g1 g2 g3 => ?_) (fun hi lo g1 g2 g3 hp => ?_) (fun hi lo g1 g2 g3 hp => ?_) (b - m).toNat b m (Nat.le_refl _) (Int.le_refl _) h4 (Int.le_refl _) (.inl rfl) (.inl rfl)
  · unfold smA
    simp (disch := (first | omega | (simp only [List.length_append, List.length_cons, List.length_nil, List.nil_append, List.length_take, List.length_drop]; omega))) only [↓bindO_some, ↓bindO_none, ↓joinO_inl, ↓joinO_inr, ↓joinO_none, ↓outO_some, ↓outO_none, ↓cond_true, ↓cond_false, ↓cond_and, ↓cond_or, ↓cond_not, ↓cond_ite, ↓if_pos, ↓if_neg, ↓if_true, ↓if_false, List.take_length, Nat.le_refl, Bool.not_true, Bool.not_false, if_neg]
  · have hm := half_e (i := lo) (j := hi) (by omega) (by omega)
    have hcc := hc _ _ (hg ((lo + hi) / 2) (by omega) (by omega)) (hg a h1 h2)
    unfold smA
    simp (disch := (first | omega | (simp only [List.length_append, List.length_cons, List.length_nil, List.nil_append, List.length_take, List.length_drop]; omega))) only [↓bindO_some, ↓bindO_none, ↓joinO_inl, ↓joinO_inr, ↓joinO_none, ↓outO_some, ↓outO_none, ↓cond_true, ↓cond_false, ↓cond_and, ↓cond_or, ↓cond_not, ↓cond_ite, ↓if_pos, ↓if_neg, ↓if_true, ↓if_false, List.take_length, Nat.le_refl, Bool.not_true, Bool.not_false, if_pos, if_neg, hm, wrap_i64', ↓hb, hcc, hp]
  · have hm := half_e (i := lo) (j := hi) (by omega) (by omega)
    have hcc := hc _ _ (hg ((lo + hi) / 2) (by omega) (by omega)) (hg a h1 h2)
    unfold smA
    simp (disch := (first | omega | (simp only [List.length_append, List.length_cons, List.length_nil, List.nil_append, List.length_take, List.length_drop]; omega))) only [↓bindO_some, ↓bindO_none, ↓joinO_inl, ↓joinO_inr, ↓joinO_none, ↓outO_some, ↓outO_none, ↓cond_true, ↓cond_false, ↓cond_and, ↓cond_or, ↓cond_not, ↓cond_ite, ↓if_pos, ↓if_neg, ↓if_true, ↓if_false, List.take_length, Nat.le_refl, Bool.not_true, Bool.not_false, if_pos, if_neg, hm, wrap_i64', ↓hb, hcc, hp]
theorem smD_s {δ : Type} (L : List Int) (hL : L.length ≤ 1000000) (hV : ∀ y ∈ L, V y) {a m : Int} (h1 : 0 ≤ a) (h4 : a ≤ m) (h5 : m < L.length) :
    ∃ r, loopO (smD (δ := δ) L m due) (m, a) = some (.inl r) ∧ a ≤ r ∧ r ≤ m ∧ (r = a ∨ ¬ c (L.getD m.toNat 0) (L.getD (r - 1).toNat 0) < 0) ∧ (r = m ∨ ¬ ¬ c (L.getD m.toNat 0) (L.getD r.toNat 0) < 0) := by
  have hg : ∀ h : Int, 0 ≤ h → h < L.length → V (L.getD h.toNat 0) := fun h k1 k2 => hV _ (by rw [getD_get _ (show h.toNat < L.length by omega)]; exact List.getElem_mem _)
  have hb : ∀ (h : Int) {β : Type} (f : Int → Option β), 0 ≤ h → h < L.length → bindO L[Int.toNat h]? f = f (L.getD h.toNat 0) := fun h β f k1 k2 => get_bz 0 f ⟨k1, k2⟩
  refine bin_search (fun h => ¬ c (L.getD m.toNat 0) (L.getD h.toNat 0) < 0) a m h1 (by omega) (fun hi lo g1 g2 g3 => ?_) (fun hi lo g1 g2 g3 hp => ?_) (fun hi lo g1 g2 g3 hp => ?_) (m - a).toNat m a (Nat.le_refl _) (Int.le_refl _) h4 (Int.le_refl _) (.inl rfl) (.inl rfl)
  · unfold smD
    simp (disch := (first | omega | (simp only [List.length_append, List.length_cons, List.length_nil, List.nil_append, List.length_take, List.length_drop]; omega))) only [↓bindO_some, ↓bindO_none, ↓joinO_inl, ↓joinO_inr, ↓joinO_none, ↓outO_some, ↓outO_none, ↓cond_true, ↓cond_false, ↓cond_and, ↓cond_or, ↓cond_not, ↓cond_ite, ↓if_pos, ↓if_neg, ↓if_true, ↓if_false, List.take_length, Nat.le_refl, Bool.not_true, Bool.not_false, if_neg]
  · have hm := half_e (i := lo) (j := hi) (by omega) (by omega)
    have hcc := hc _ _ (hg m (by omega) h5) (hg ((lo + hi) / 2) (by omega) (by omega))
    unfold smD
    simp (disch := (first | omega | (simp only [List.length_append, List.length_cons, List.length_nil, List.nil_append, List.length_take, List.length_drop]; omega))) only [↓bindO_some, ↓bindO_none, ↓joinO_inl, ↓joinO_inr, ↓joinO_none, ↓outO_some, ↓outO_none, ↓cond_true, ↓cond_false, ↓cond_and, ↓cond_or, ↓cond_not, ↓cond_ite, ↓if_pos, ↓if_neg, ↓if_true, ↓if_false, List.take_length, Nat.le_refl, Bool.not_true, Bool.not_false, if_pos, if_neg, hm, wrap_i64', ↓hb, hcc, hp]
  · have hm := half_e (i := lo) (j := hi) (by omega) (by omega)
    have hcc := hc _ _ (hg m (by omega) h5) (hg ((lo + hi) / 2) (by omega) (by omega))
    have hp := Classical.not_not.1 hp
    unfold smD
    simp (disch := (first | omega | (simp only [List.length_append, List.length_cons, List.length_nil, List.nil_append, List.length_take, List.length_drop]; omega))) only [↓bindO_some, ↓bindO_none, ↓joinO_inl, ↓joinO_inr, ↓joinO_none, ↓outO_some, ↓outO_none, ↓cond_true, ↓cond_false, ↓cond_and, ↓cond_or, ↓cond_not, ↓cond_ite, ↓if_pos, ↓if_neg, ↓if_true, ↓if_false, List.take_length, Nat.le_refl, Bool.not_true, Bool.not_false, if_pos, if_neg, hm, wrap_i64', ↓hb, hcc, hp]
theorem smF_s {δ : Type} (L : List Int) (hL : L.length ≤ 1000000) (hV : ∀ y ∈ L, V y) {n lo0 hi0 : Int} (h1 : 0 ≤ lo0) (h4 : lo0 ≤ hi0) (h5 : hi0 ≤ L.length) (h6 : n - lo0 ≤ L.length) (h7 : hi0 ≤ n) (h8 : n ≤ 3000000) :
    ∃ r, loopO (smF (δ := δ) L n due) (hi0, lo0) = some (.inl r) ∧ lo0 ≤ r ∧ r ≤ hi0 ∧ (r = lo0 ∨ ¬ c (L.getD (n - 1 - (r - 1)).toNat 0) (L.getD (r - 1).toNat 0) < 0) ∧ (r = hi0 ∨ ¬ ¬ c (L.getD (n - 1 - r).toNat 0) (L.getD r.toNat 0) < 0) := by
  have hg : ∀ h : Int, 0 ≤ h → h < L.length → V (L.getD h.toNat 0) := fun h k1 k2 => hV _ (by rw [getD_get _ (show h.toNat < L.length by omega)]; exact List.getElem_mem _)
  have hb : ∀ (h : Int) {β : Type} (f : Int → Option β), 0 ≤ h → h < L.length → bindO L[Int.toNat h]? f = f (L.getD h.toNat 0) := fun h β f k1 k2 => get_bz 0 f ⟨k1, k2⟩
  refine bin_search (fun h => ¬ c (L.getD (n - 1 - h).toNat 0) (L.getD h.toNat 0) < 0) lo0 hi0 h1 (by omega) (fun hi lo g1 g2 g3 => ?_) (fun hi lo g1 g2 g3 hp => ?_) (fun hi lo g1 g2 g3 hp => ?_) (hi0 - lo0).toNat hi0 lo0 (Nat.le_refl _) (Int.le_refl _) h4 (Int.le_refl _) (.inl rfl) (.inl rfl)
  · unfold smF
    simp (disch := (first | omega | (simp only [List.length_append, List.length_cons, List.length_nil, List.nil_append, List.length_take, List.length_drop]; omega))) only [↓bindO_some, ↓bindO_none, ↓joinO_inl, ↓joinO_inr, ↓joinO_none, ↓outO_some, ↓outO_none, ↓cond_true, ↓cond_false, ↓cond_and, ↓cond_or, ↓cond_not, ↓cond_ite, ↓if_pos, ↓if_neg, ↓if_true, ↓if_false, List.take_length, Nat.le_refl, Bool.not_true, Bool.not_false, if_neg]
  · have hm := half_e (i := lo) (j := hi) (by omega) (by omega)
    have hcc := hc _ _ (hg (n - 1 - (lo + hi) / 2) (by omega) (by omega)) (hg ((lo + hi) / 2) (by omega) (by omega))
    unfold smF
    simp (disch := (first | omega | (simp only [List.length_append, List.length_cons, List.length_nil, List.nil_append, List.length_take, List.length_drop]; omega))) only [↓bindO_some, ↓bindO_none, ↓joinO_inl, ↓joinO_inr, ↓joinO_none, ↓outO_some, ↓outO_none, ↓cond_true, ↓cond_false, ↓cond_and, ↓cond_or, ↓cond_not, ↓cond_ite, ↓if_pos, ↓if_neg, ↓if_true, ↓if_false, List.take_length, Nat.le_refl, Bool.not_true, Bool.not_false, if_pos, if_neg, hm, wrap_i64', ↓hb, hcc, hp]
  · have hm := half_e (i := lo) (j := hi) (by omega) (by omega)
    have hcc := hc _ _ (hg (n - 1 - (lo + hi) / 2) (by omega) (by omega)) (hg ((lo + hi) / 2) (by omega) (by omega))
    have hp := Classical.not_not.1 hp
    unfold smF
    simp (disch := (first | omega | (simp only [List.length_append, List.length_cons, List.length_nil, List.nil_append, List.length_take, List.length_drop]; omega))) only [↓bindO_some, ↓bindO_none, ↓joinO_inl, ↓joinO_inr, ↓joinO_none, ↓outO_some, ↓outO_none, ↓cond_true, ↓cond_false, ↓cond_and, ↓cond_or, ↓cond_not, ↓cond_ite, ↓if_pos, ↓if_neg, ↓if_true, ↓if_false, List.take_length, Nat.le_refl, Bool.not_true, Bool.not_false, if_pos, if_neg, hm, wrap_i64', ↓hb, hcc, hp]
end
theorem smC_s (L0 A Y R : List Int) (x : Int) (hl : (A ++ x :: (Y ++ R)).length = L0.length) (hL : L0.length ≤ 1000000) {a r : Int} (ha : a = (A.length : Int)) (hr : r = ((A.length + 1 + Y.length : Nat) : Int)) : loopO (smC L0 r) (a, A ++ x :: (Y ++ R)) = some (.inr (A ++ (Y ++ x :: R))) := by
  subst ha hr
  have hlen := hl
  simp only [List.length_append, List.length_cons] at hlen
  refine loopO_from (fun j => (((A.length + j : Nat) : Int), A ++ (Y.take j ++ x :: (Y.drop j ++ R)))) Y.length (by simp) (fun j hj => ?_) ?_
  · have e1 := drop_cons Y 0 hj
    have t1 := take_snoc Y 0 hj
    obtain ⟨y, hy⟩ : ∃ y, Y.getD j 0 = y := ⟨_, rfl⟩
    rw [hy] at e1 t1
    obtain ⟨P, hP⟩ : ∃ P, P = A ++ Y.take j := ⟨_, rfl⟩
    obtain ⟨R', hR'⟩ : ∃ R', R' = Y.drop (j + 1) ++ R := ⟨_, rfl⟩
    have lP : P.length = A.length + j := by rw [hP, List.length_append, List.length_take]; omega
    have lR : P.length + 2 + R'.length = L0.length := by rw [lP, hR', List.length_append, List.length_drop]; omega
    have hL1 : A ++ (Y.take j ++ x :: (Y.drop j ++ R)) = P ++ x :: y :: R' := by rw [hP, hR', e1]; simp
    have hL2 : A ++ (Y.take (j + 1) ++ x :: (Y.drop (j + 1) ++ R)) = P ++ y :: x :: R' := by rw [hP, hR', t1]; simp
    have e3 : ((A.length + (j + 1) : Nat) : Int) = (P.length : Int) + 1 := by omega
    have e4 : ((A.length + j : Nat) : Int) = (P.length : Int) := by omega
    have e5 : ((A.length + 1 + Y.length : Nat) : Int) - 1 = ((A.length + Y.length : Nat) : Int) := by omega
    rw [hL1, hL2, e3, e4]
    unfold smC
    simp (disch := (first | omega | (simp only [List.length_append, List.length_cons, List.length_nil, List.nil_append, List.length_take, List.length_drop]; omega))) only [↓bindO_some, ↓bindO_none, ↓joinO_inl, ↓joinO_inr, ↓joinO_none, ↓outO_some, ↓outO_none, ↓cond_true, ↓cond_false, ↓cond_and, ↓cond_or, ↓cond_not, ↓cond_ite, ↓if_pos, ↓if_neg, ↓if_true, ↓if_false, List.take_length, Nat.le_refl, Bool.not_true, Bool.not_false, if_pos, if_neg, wrap_i64', e5, ↓ad_get1, ↓ad_get2, ad_set1, ad_set2]
  · have e5 : ((A.length + 1 + Y.length : Nat) : Int) - 1 = ((A.length + Y.length : Nat) : Int) := by omega
    unfold smC
    simp (disch := (first | omega | (simp only [List.length_append, List.length_cons, List.length_nil, List.nil_append, List.length_take, List.length_drop]; omega))) only [↓bindO_some, ↓bindO_none, ↓joinO_inl, ↓joinO_inr, ↓joinO_none, ↓outO_some, ↓outO_none, ↓cond_true, ↓cond_false, ↓cond_and, ↓cond_or, ↓cond_not, ↓cond_ite, ↓if_pos, ↓if_neg, ↓if_true, ↓if_false, List.take_length, Nat.le_refl, Bool.not_true, Bool.not_false, if_neg, wrap_i64', e5, List.take_length, List.drop_length, List.nil_append]
theorem smE_s (L0 P0 X R : List Int) (y : Int) (hl : (P0 ++ X ++ y :: R).length = L0.length) (hL : L0.length ≤ 1000000) {m r : Int} (hm : m = ((P0.length + X.length : Nat) : Int)) (hr : r = (P0.length : Int)) : loopO (smE L0 r) (m, P0 ++ X ++ y :: R) = some (.inr (P0 ++ (y :: X ++ R))) := by
  subst hm hr
  have hlen := hl
  simp only [List.length_append, List.length_cons] at hlen
  refine loopO_from (fun j => (((P0.length + (X.length - j) : Nat) : Int), P0 ++ X.take (X.length - j) ++ y :: (X.drop (X.length - j) ++ R))) X.length (by simp) (fun j hj => ?_) ?_
  · obtain ⟨k, hk⟩ : ∃ k, X.length - j = k + 1 := ⟨X.length - j - 1, by omega⟩
    have hk1 : X.length - (j + 1) = k := by omega
    have hkx : k < X.length := by omega
    have e1 := drop_cons X 0 hkx
    have t1 := take_snoc X 0 hkx
    obtain ⟨x, hx⟩ : ∃ x, X.getD k 0 = x := ⟨_, rfl⟩
    rw [hx] at e1 t1
    obtain ⟨P, hP⟩ : ∃ P, P = P0 ++ X.take k := ⟨_, rfl⟩
    obtain ⟨R', hR'⟩ : ∃ R', R' = X.drop (k + 1) ++ R := ⟨_, rfl⟩
    have lP : P.length = P0.length + k := by rw [hP, List.length_append, List.length_take]; omega
    have lR : P.length + 2 + R'.length = L0.length := by rw [lP, hR', List.length_append, List.length_drop]; omega
    have hL1 : P0 ++ X.take (X.length - j) ++ y :: (X.drop (X.length - j) ++ R) = P ++ x :: y :: R' := by rw [hk, hP, hR', t1]; simp
    have hL2 : P0 ++ X.take (X.length - (j + 1)) ++ y :: (X.drop (X.length - (j + 1)) ++ R) = P ++ y :: x :: R' := by rw [hk1, hP, hR', e1]; simp
    have e3 : ((P0.length + (X.length - (j + 1)) : Nat) : Int) = (P.length : Int) := by omega
    have e4 : ((P0.length + (X.length - j) : Nat) : Int) = (P.length : Int) + 1 := by omega
    have e5 : (P.length : Int) + 1 - 1 = (P.length : Int) := by omega
    rw [hL1, hL2, e3, e4]
    unfold smE
    simp (disch := (first | omega | (simp only [List.length_append, List.length_cons, List.length_nil, List.nil_append, List.length_take, List.length_drop]; omega))) only [↓bindO_some, ↓bindO_none, ↓joinO_inl, ↓joinO_inr, ↓joinO_none, ↓outO_some, ↓outO_none, ↓cond_true, ↓cond_false, ↓cond_and, ↓cond_or, ↓cond_not, ↓cond_ite, ↓if_pos, ↓if_neg, ↓if_true, ↓if_false, List.take_length, Nat.le_refl, Bool.not_true, Bool.not_false, if_pos, if_neg, wrap_i64', e5, ↓ad_get1, ↓ad_get2, ad_set1, ad_set2]
  · rw [Nat.sub_self]
    unfold smE
    simp (disch := (first | omega | (simp only [List.length_append, List.length_cons, List.length_nil, List.nil_append, List.length_take, List.length_drop]; omega))) only [↓bindO_some, ↓bindO_none, ↓joinO_inl, ↓joinO_inr, ↓joinO_none, ↓outO_some, ↓outO_none, ↓cond_true, ↓cond_false, ↓cond_and, ↓cond_or, ↓cond_not, ↓cond_ite, ↓if_pos, ↓if_neg, ↓if_true, ↓if_false, List.take_length, Nat.le_refl, Bool.not_true, Bool.not_false, if_neg, wrap_i64', List.take_zero, List.drop_zero, List.append_nil, Nat.add_zero, List.cons_append]
end Go.Proofs.Ytkhdpjlpahammaa
