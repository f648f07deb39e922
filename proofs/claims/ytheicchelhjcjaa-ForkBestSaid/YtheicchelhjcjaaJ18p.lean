import Derived.Test.YtheicchelhjcjaaJ17p
import Derived.Test.YtheicchelhjcjaaFp
import Derived.Test.YtheicchelhjcjaaXBp
import Derived.Test.YtheicchelhjcjaaZ2p
set_option linter.unusedVariables false
set_option linter.unusedSimpArgs false
set_option maxRecDepth 100000
namespace Go.Proofs.Ytheicchelhjcjaa
open Go.RowKit
def SendOk (l F : List Br) (x : Ac) : Prop := x.1 = 1 → ∃ i : Nat, x.2.1 = (i : Int) ∧ i < F.length ∧ (l.getD i d0).2.2.1 = 0 ∧ (F.getD i d0).2.2.1 ≠ 0 ∧ ∀ n, n < F.length → (F.getD n d0).2.1 > (F.getD i d0).2.1 → (F.getD n d0).2.2.1 = 5
def Dst (A : List Ac) : Prop := A.Pairwise fun x y => x.1 = 1 → y.1 = 1 → x.2.1 ≠ y.2.1
theorem ac_mem {p : Br → Bool} {kind : Int} {l : List Br} {x : Ac} : ∀ {n : Nat}, x ∈ ac p kind l n → ∃ i : Nat, i < n ∧ x = (kind, ((i : Int), 0)) ∧ p (l.getD i d0) = true
  | 0, h => by cases h
  | n + 1, h => by
    rw [ac_succ, List.mem_append] at h
    rcases h with h | h
    · obtain ⟨i, h1, h2, h3⟩ := ac_mem h
      exact ⟨i, by omega, h2, h3⟩
    · split at h
      · rename_i hp
        rw [List.mem_singleton] at h
        exact ⟨n, by omega, h, hp⟩
      · cases h
theorem ac_pw (p : Br → Bool) (kind : Int) (l : List Br) : ∀ n : Nat, (ac p kind l n).Pairwise fun x y => x.2.1 ≠ y.2.1
  | 0 => List.Pairwise.nil
  | n + 1 => by
    rw [ac_succ, List.pairwise_append]
    refine ⟨ac_pw p kind l n, by split <;> simp, fun x hx y hy => ?_⟩
    obtain ⟨i, h1, h2, _⟩ := ac_mem hx
    split at hy
    · rw [List.mem_singleton] at hy
      rw [h2, hy]
      show (i : Int) ≠ (n : Int)
      omega
    · cases hy
abbrev NN (l : List Br) : Prop := ∀ j, j < l.length → 0 ≤ (l.getD j d0).2.2.1
theorem GO_sd {l : List Br} {a2 : Int} {a3 a4 a5 : Bool} (h : VJ l a2 a3 a4 a5) (hN : NN l) :
    NN (GO l a3 a4 a5).1 ∧
    (∀ j, j < l.length → ((GO l a3 a4 a5).1.getD j d0).2.2.1 = 0 → (l.getD j d0).2.2.1 = 0) ∧ (a5 = true → (GO l a3 a4 a5).2.1 = true) ∧
    (((∀ x ∈ (GO l a3 a4 a5).2.2, x.1 = 6) ∧ ((GO l a3 a4 a5).2.2 ≠ [] → (GO l a3 a4 a5).2.1 = true)) ∨
     (a4 = false ∧ a5 = false ∧ (∀ x ∈ (GO l a3 a4 a5).2.2, x.1 = 1 ∧ SendOk l (GO l a3 a4 a5).1 x) ∧ Dst (GO l a3 a4 a5).2.2)) := by
  unfold GO
  cases a5
  · rw [if_neg (by decide)]
    by_cases h1 : 0 ≤ fdx Op l
    · rw [if_pos h1]
      exact ⟨hN, fun _ _ g => g, (fun g => by cases g), .inl ⟨(fun x hx => by cases hx), fun g => (g rfl).elim⟩⟩
    · rw [if_neg h1]
      have hno := fdx_neg.1 (show fdx Op l < 0 by omega)
      by_cases h2 : a4 = true ∨ fdx Wa l < 0
      · rw [if_pos h2]
        refine ⟨fun j hj => ?_, fun j hj g => ?_, fun _ => rfl, .inl ⟨fun x hx => ?_, fun _ => rfl⟩⟩
        · rw [List.length_map] at hj
          rw [getD_map hj]
          obtain ⟨f1, f2, f3, f4⟩ := fsk_fac (l.getD j d0)
          have := hN j hj
          omega
        · rw [getD_map hj] at g
          obtain ⟨f1, f2, f3, f4⟩ := fsk_fac (l.getD j d0)
          omega
        · rw [List.mem_singleton] at hx
          rw [hx]
      · rw [if_neg h2]
        have ha4 : a4 = false := by cases a4; rfl; exact (h2 (.inl rfl)).elim
        obtain ⟨f, e, hf, hfw⟩ := fdx_pos (p := Wa) (l := l) (by rcases Int.lt_or_le (fdx Wa l) 0 with k | k; exact (h2 (.inr k)).elim; exact k)
        have hmin := fdx_min e
        rw [e, Int.toNat_natCast]
        obtain ⟨Q, hQ⟩ : ∃ Q, (l.getD f d0).2.1 = Q := ⟨_, rfl⟩
        rw [hQ]
        have hl : (l.map (fsn Q)).length = l.length := by simp
        refine ⟨fun j hj => ?_, fun j hj g => ?_, (fun g => by cases g), .inr ⟨ha4, rfl, fun x hx => ?_, ?_⟩⟩
        · rw [hl] at hj
          rw [getD_map hj]
          obtain ⟨f1, f2, f3, f4⟩ := fsn_fac Q (l.getD j d0)
          have := hN j hj
          omega
        · rw [getD_map hj] at g
          obtain ⟨f1, f2, f3, f4⟩ := fsn_fac Q (l.getD j d0)
          omega
        · obtain ⟨i, i1, i2, i3⟩ := ac_mem hx
          have i4 : (l.getD i d0).2.2.1 = 0 ∧ (l.getD i d0).2.1 = Q := of_decide_eq_true i3
          rw [i2]
          refine ⟨rfl, fun _ => ⟨i, rfl, by rw [hl]; exact i1, i4.1, ?_, fun n hn hq => ?_⟩⟩
          · rw [getD_map i1]
            obtain ⟨f1, f2, f3, f4⟩ := fsn_fac Q (l.getD i d0)
            omega
          · rw [hl] at hn
            rw [getD_map i1, getD_map hn] at hq
            rw [getD_map hn]
            obtain ⟨f1, f2, f3, f4⟩ := fsn_fac Q (l.getD i d0)
            obtain ⟨g1, g2, g3, g4⟩ := fsn_fac Q (l.getD n d0)
            have hb := h.br n hn
            have n6 : (l.getD n d0).2.2.1 ≠ 6 := fun g => by have := hb.2.2.k6 g; cases this
            have nop : ¬ Op (l.getD n d0) := fun g => hno ⟨n, hn, g⟩
            have n0 : (l.getD n d0).2.2.1 ≠ 0 := fun g => by
              have hfn : ¬ n < f := fun k => hmin n k g
              by_cases ef : f = n
              · subst ef; omega
              · have := (hb.2.1 f (by omega)).q
                omega
            have h6 := hb.1.s
            have h0 := hN n hn
            unfold Op at nop
            omega
        · exact (ac_pw _ _ _ _).imp fun hne _ _ => hne
  · rw [if_pos rfl]
    exact ⟨hN, fun _ _ g => g, fun _ => rfl, .inl ⟨(fun x hx => by cases hx), fun _ => rfl⟩⟩
structure SP (l : List Br) (a4 a5 : Bool) (sp : Prop) (F : Fk) (A : List Ac) : Prop where
  len : F.1.length = l.length
  nn : NN F.1
  z : ∀ j, j < l.length → (F.1.getD j d0).2.2.1 = 0 → (l.getD j d0).2.2.1 = 0
  c : a4 = true ∨ a5 = true ∨ sp → F.2.2.2.1 = true ∨ F.2.2.2.2 = true
  e : (∃ x ∈ A, x.1 = 4 ∨ x.1 = 6) → F.2.2.2.1 = true ∨ F.2.2.2.2 = true
  s : (∃ x ∈ A, x.1 = 1) → a4 = false ∧ a5 = false ∧ ¬ sp ∧ ∀ x ∈ A, x.1 ≠ 4 ∧ x.1 ≠ 6
  o : ∀ x ∈ A, SendOk l F.1 x
  d : Dst A
theorem SP.iff {l : List Br} {a4 a5 : Bool} {sp sp' : Prop} {F : Fk} {A : List Ac} (h : SP l a4 a5 sp F A) (k : sp' ↔ sp) : SP l a4 a5 sp' F A :=
  ⟨h.len, h.nn, h.z, fun g => h.c (by rw [← k]; exact g), h.e, fun g => by rw [k]; exact h.s g, h.o, h.d⟩
theorem SP.quiet {l : List Br} {a4 a5 : Bool} {sp : Prop} {F : Fk} {A : List Ac} (h1 : F.1.length = l.length) (hn : NN F.1) (h2 : ∀ j, j < l.length → (F.1.getD j d0).2.2.1 = 0 → (l.getD j d0).2.2.1 = 0) (h3 : a4 = true ∨ a5 = true ∨ sp → F.2.2.2.1 = true ∨ F.2.2.2.2 = true)
    (h4 : (∃ x ∈ A, x.1 = 4 ∨ x.1 = 6) → F.2.2.2.1 = true ∨ F.2.2.2.2 = true) (h5 : ∀ x ∈ A, x.1 ≠ 1) : SP l a4 a5 sp F A :=
  ⟨h1, hn, h2, h3, h4, fun ⟨x, hx, g⟩ => (h5 x hx g).elim, fun x hx g => (h5 x hx g).elim, by
    unfold Dst
    rw [List.pairwise_iff_forall_sublist]
    intro a b hs g
    exact (h5 a (hs.subset (by simp)) g).elim⟩
theorem go_sp {l L : List Br} {a2 : Int} {a3 a4 a4' a5 : Bool} {B : List Ac} {sp : Prop} (h : VJ L a2 a3 a4' a5) (hN : NN L) (hl : L.length = l.length) (hz : ∀ j, j < l.length → (L.getD j d0).2.2.1 = 0 → (l.getD j d0).2.2.1 = 0) (hB : ∀ x ∈ B, x.1 = 2 ∨ x.1 = 5) (h4 : a4 = true ∨ sp → a4' = true) :
    SP l a4 a5 sp ((GO L a3 a4' a5).1, (a2, (a3, (a4', (GO L a3 a4' a5).2.1)))) (B ++ (GO L a3 a4' a5).2.2) := by
  have hlen := GO_len1 L a3 a4' a5
  obtain ⟨g0, g1, g2, g3⟩ := GO_sd h hN
  have hc : a4 = true ∨ a5 = true ∨ sp → a4' = true ∨ (GO L a3 a4' a5).2.1 = true := fun k => by
    rcases k with k | k | k
    · exact .inl (h4 (.inl k))
    · exact .inr (g2 k)
    · exact .inl (h4 (.inr k))
  have hz' : ∀ j, j < l.length → ((GO L a3 a4' a5).1.getD j d0).2.2.1 = 0 → (l.getD j d0).2.2.1 = 0 := fun j hj g => hz j hj (g1 j (by omega) g)
  rcases g3 with ⟨g3, g4⟩ | ⟨g3, g4, g5, g6⟩
  · refine SP.quiet (by rw [← hl]; exact hlen) g0 hz' hc (fun ⟨x, hx, k⟩ => ?_) (fun x hx => ?_)
    · rcases List.mem_append.1 hx with hx | hx
      · have := hB x hx; omega
      · exact .inr (g4 fun k' => by rw [k'] at hx; cases hx)
    · rcases List.mem_append.1 hx with hx | hx
      · have := hB x hx; omega
      · have := g3 x hx; omega
  · have ha4 : a4 = false := by cases a4; rfl; exact absurd (h4 (.inl rfl)) (by rw [g3]; decide)
    have hsp : ¬ sp := fun k => by have := h4 (.inr k); rw [g3] at this; cases this
    have hno : ∀ x ∈ B ++ (GO L a3 a4' a5).2.2, x.1 ≠ 4 ∧ x.1 ≠ 6 := fun x hx => by
      rcases List.mem_append.1 hx with hx | hx
      · have := hB x hx; omega
      · have := (g5 x hx).1; omega
    refine ⟨by rw [← hl]; exact hlen, g0, hz', hc, fun ⟨x, hx, k⟩ => by have := hno x hx; omega, fun _ => ⟨ha4, g4, hsp, hno⟩, fun x hx => ?_, ?_⟩
    · rcases List.mem_append.1 hx with hx | hx
      · intro k; have := hB x hx; omega
      · intro k
        obtain ⟨i, i1, i2, i3, i4, i5⟩ := (g5 x hx).2 k
        have i2' : i < (GO L a3 a4' a5).1.length := i2
        exact ⟨i, i1, i2, hz i (by omega) i3, i4, i5⟩
    · unfold Dst at g6 ⊢
      rw [List.pairwise_append]
      refine ⟨?_, g6, fun x hx y hy k => by have := hB x hx; omega⟩
      rw [List.pairwise_iff_forall_sublist]
      intro a b hs g
      have := hB a (hs.subset (by simp))
      omega
theorem fs_nn {l : List Br} {i : Nat} {c : Int} (hN : NN l) : NN (fs l i c) := fun j hj => by
  rw [fs_len] at hj
  obtain ⟨f1, f2, f3⟩ := fs_fac (i := i) (c := c) hj
  have := hN j hj
  omega
theorem fst1_nn {l : List Br} (hN : NN l) : NN (l.map fst1) := fun j hj => by
  rw [List.length_map] at hj
  rw [getD_map hj]
  obtain ⟨f1, f2, f3, f4⟩ := fst1_fac (l.getD j d0)
  have := hN j hj
  omega
theorem fsk_nn {l : List Br} (hN : NN l) : NN (l.map fsk) := fun j hj => by
  rw [List.length_map] at hj
  rw [getD_map hj]
  obtain ⟨f1, f2, f3, f4⟩ := fsk_fac (l.getD j d0)
  have := hN j hj
  omega
theorem fs_z {l : List Br} {i : Nat} {c : Int} : ∀ j, j < l.length → ((fs l i c).getD j d0).2.2.1 = 0 → (l.getD j d0).2.2.1 = 0 := fun j hj g => by
  obtain ⟨f1, f2, f3⟩ := fs_fac (i := i) (c := c) hj
  omega
theorem fst1_z {l : List Br} : ∀ j, j < l.length → ((l.map fst1).getD j d0).2.2.1 = 0 → (l.getD j d0).2.2.1 = 0 := fun j hj g => by
  rw [getD_map hj] at g
  obtain ⟨f1, f2, f3, f4⟩ := fst1_fac (l.getD j d0)
  omega
theorem fsk_z {l : List Br} : ∀ j, j < l.length → ((l.map fsk).getD j d0).2.2.1 = 0 → (l.getD j d0).2.2.1 = 0 := fun j hj g => by
  rw [getD_map hj] at g
  obtain ⟨f1, f2, f3, f4⟩ := fsk_fac (l.getD j d0)
  omega
theorem rg_kind {l : List Br} {n : Nat} : ∀ x ∈ ac pRg 2 l n, x.1 = 2 := fun x hx => by
  obtain ⟨i, _, e, _⟩ := ac_mem hx
  rw [e]
theorem fin_sp {l : List Br} {a2 : Int} {a3 a4 a5 : Bool} {i : Nat} {c : Int} (h : VP l a2 a3 a4 a5) (hN : NN l) (hi : i < l.length) (ho : Op (l.getD i d0)) (hc : 200 ≤ c ∧ c ≤ 699) : SP l a4 a5 (c ≥ 600) (FIN l a2 a3 a4 a5 i c).1 (FIN l a2 a3 a4 a5 i c).2 := by
  unfold FIN
  by_cases g1 : c < 300 ∧ a5 = false ∧ a3 = false
  · rw [if_pos g1]
    refine SP.quiet (by rw [List.length_map, List.length_map, fs_len]) (fsk_nn (fst1_nn (fs_nn hN))) (fun j hj k => ?_) (fun _ => .inl rfl) (fun _ => .inl rfl) (fun x hx => ?_)
    · exact fs_z j hj (fst1_z j (by rw [fs_len]; exact hj) (fsk_z j (by rw [List.length_map, fs_len]; exact hj) k))
    · rcases List.mem_cons.1 hx with rfl | hx
      · show (4 : Int) ≠ 1; decide
      · have := rg_kind x hx; omega
  · rw [if_neg g1]
    by_cases g2 : c < 300
    · rw [if_pos g2]
      exact go_sp (B := [(5, ((i : Int), c))]) (vjA h hi ho hc (fun _ => by cases a5 <;> cases a3 <;> simp_all) (fun g => by omega)) (fs_nn hN) (fs_len _ _ _) fs_z (fun x hx => by rw [List.mem_singleton] at hx; rw [hx]; exact .inr rfl) (fun g => by rcases g with g | g; exact g; omega)
    · rw [if_neg g2]
      by_cases g3 : c ≥ 600
      · rw [if_pos g3]
        exact go_sp (vjB h hi ho hc (by omega)) (fst1_nn (fs_nn hN)) (by rw [List.length_map, fs_len]) (fun j hj k => fs_z j hj (fst1_z j (by rw [fs_len]; exact hj) k)) (fun x hx => .inl (rg_kind x hx)) (fun _ => rfl)
      · rw [if_neg g3]
        exact go_sp (B := []) (vjA h hi ho hc (fun g => by omega) (fun g => by omega)) (fs_nn hN) (fs_len _ _ _) fs_z (fun x hx => by cases hx) (fun g => by rcases g with g | g; exact g; omega)
theorem set_st {l : List Br} {i : Nat} {s : Int} (hs : 1 ≤ s) (hN : NN l) : NN (List.set l i ((l.getD i d0).1, ((l.getD i d0).2.1, (s, (l.getD i d0).2.2.2)))) ∧ ∀ j, j < l.length → ((List.set l i ((l.getD i d0).1, ((l.getD i d0).2.1, (s, (l.getD i d0).2.2.2)))).getD j d0).2.2.1 = 0 → (l.getD j d0).2.2.1 = 0 := by
  have hg : ∀ j, j < l.length → ((List.set l i ((l.getD i d0).1, ((l.getD i d0).2.1, (s, (l.getD i d0).2.2.2)))).getD j d0).2.2.1 = s ∨ ((List.set l i ((l.getD i d0).1, ((l.getD i d0).2.1, (s, (l.getD i d0).2.2.2)))).getD j d0).2.2.1 = (l.getD j d0).2.2.1 := fun j hj => by
    rw [List.getD_eq_getElem?_getD (l := List.set _ _ _), List.getElem?_set]
    by_cases e : i = j
    · subst e; rw [if_pos rfl, if_pos hj]; exact .inl rfl
    · rw [if_neg e, ← List.getD_eq_getElem?_getD]; exact .inr rfl
  refine ⟨fun j hj => ?_, fun j hj g => ?_⟩
  · rw [List.length_set] at hj
    have := hg j hj; have := hN j hj; omega
  · have := hg j hj; omega
theorem stc_sp {l : List Br} {a2 : Int} {a3 a4 a5 : Bool} {k b c : Int} (h : CKO l a2 a3 a4 a5 k b c) (hN : NN l) : SP l a4 a5 (k = 4 ∨ (k = 2 ∧ c ≥ 600)) (STC l a2 a3 a4 a5 k b c).1 (STC l a2 a3 a4 a5 k b c).2 := by
  have h1 := h.k1
  have h4 := h.k4
  unfold STC
  by_cases e1 : k = 1
  · rw [if_pos e1]
    obtain ⟨b1, b2, b3⟩ := h.b0 (by omega)
    have hc : a4 = true ∨ a5 = true ∨ (k = 4 ∨ (k = 2 ∧ c ≥ 600)) → a4 = true ∨ a5 = true := fun g => by
      rcases g with g | g | g
      · exact .inl g
      · exact .inr g
      · omega
    unfold PV
    by_cases s1 : (l.getD b.toNat d0).2.2.1 = 1
    · rw [if_pos s1]
      obtain ⟨q1, q2⟩ := set_st (i := b.toNat) (s := 2) (by decide) hN
      have hk : ∀ x ∈ (if c > 100 then [((3 : Int), (((b.toNat : Nat) : Int), c))] else []), x.1 = 3 := fun x hx => by
        split at hx
        · rw [List.mem_singleton] at hx; rw [hx]
        · cases hx
      exact SP.quiet (List.length_set ..) q1 q2 hc (fun ⟨x, hx, g⟩ => by have := hk x hx; omega) (fun x hx => by have := hk x hx; omega)
    · rw [if_neg s1]
      by_cases s3 : (l.getD b.toNat d0).2.2.1 = 3
      · rw [if_pos s3]
        obtain ⟨q1, q2⟩ := set_st (i := b.toNat) (s := 4) (by decide) hN
        have hk : ∀ x ∈ [((2 : Int), (((b.toNat : Nat) : Int), (0 : Int)))], x.1 = 2 := fun x hx => by rw [List.mem_singleton] at hx; rw [hx]
        exact SP.quiet (List.length_set ..) q1 q2 hc (fun ⟨x, hx, g⟩ => by have := hk x hx; omega) (fun x hx => by have := hk x hx; omega)
      · rw [if_neg s3]
        have hk : ∀ x ∈ (if (l.getD b.toNat d0).2.2.1 = 2 ∧ c > 100 then [((3 : Int), (((b.toNat : Nat) : Int), c))] else []), x.1 = 3 := fun x hx => by
          split at hx
          · rw [List.mem_singleton] at hx; rw [hx]
          · cases hx
        exact SP.quiet rfl hN (fun _ _ g => g) hc (fun ⟨x, hx, g⟩ => by have := hk x hx; omega) (fun x hx => by have := hk x hx; omega)
  · rw [if_neg e1]
    by_cases e2 : k = 2
    · rw [if_pos e2]
      obtain ⟨b1, b2, b3⟩ := h.b0 (by omega)
      exact (fin_sp h.v hN (by omega) b3 (h.c2 e2)).iff (by omega)
    · rw [if_neg e2]
      by_cases e3 : k = 3
      · rw [if_pos e3]
        obtain ⟨b1, b2, b3⟩ := h.b0 (by omega)
        exact (fin_sp h.v hN (by omega) b3 (by omega)).iff (by omega)
      · rw [if_neg e3]
        exact SP.quiet (List.length_map ..) (fst1_nn hN) fst1_z (fun _ => .inl rfl) (fun _ => .inl rfl) (fun x hx => by have := rg_kind x hx; omega)
