import Derived.Test.YtheicchelhjcjaaJ15p
set_option linter.unusedVariables false
set_option linter.unusedSimpArgs false
set_option maxRecDepth 100000
namespace Go.Proofs.Ytheicchelhjcjaa
open Go.RowKit
abbrev RR (x y : Br) : Prop := y.2.1 ≤ x.2.1 ∧ x.1 ≠ y.1
theorem insA_pw {y : Br} : ∀ (n : Nat) (L : List Br), L.length = n → L.Pairwise RR → (∀ z ∈ L, z.1 ≠ y.1) → (insA y L).Pairwise RR := by
  intro n
  induction n with
  | zero =>
    intro L hL _ _
    have : L = [] := List.length_eq_zero_iff.1 hL
    subst this
    show [y].Pairwise RR
    simp
  | succ n ih =>
    intro L hL hp hu
    rcases List.eq_nil_or_concat L with h | ⟨P, s, h⟩
    · subst h; simp at hL
    · rw [List.concat_eq_append] at h
      subst h
      have hP : P.length = n := by simpa using hL
      obtain ⟨p1, p2, p3⟩ := List.pairwise_append.1 hp
      by_cases hq : y.2.1 ≤ s.2.1
      · rw [insA_hi hq]
        refine List.pairwise_append.2 ⟨hp, by simp, fun a ha b hb => ?_⟩
        have hb' : b = y := by simpa using hb
        subst hb'
        refine ⟨?_, hu a ha⟩
        rcases List.mem_append.1 ha with k | k
        · have := (p3 a k s (by simp)).1; omega
        · have : a = s := by simpa using k
          subst this; exact hq
      · rw [insA_lo hq]
        refine List.pairwise_append.2 ⟨ih P hP p1 (fun z hz => hu z (by simp [hz])), by simp, fun a ha b hb => ?_⟩
        have hb' : b = s := by simpa using hb
        subst hb'
        rcases mem_insA.1 ha with k | k
        · subst k
          exact ⟨by omega, fun e => hu b (by simp) e.symm⟩
        · exact p3 a k b (by simp)
theorem srt_pw {T : List Tg} : ∀ i, (∀ k, k < i → ¬ dup T k) → (SRT T i).Pairwise RR := by
  intro i
  induction i with
  | zero => intro _; show ([] : List Br).Pairwise RR; simp
  | succ i ih =>
    intro h
    refine insA_pw _ _ rfl (ih fun k hk => h k (by omega)) (fun z hz e => ?_)
    obtain ⟨k, k1, k2⟩ := mem_SRT.1 hz
    refine h i (by omega) ⟨k, k1, ?_⟩
    rw [← k2] at e
    exact e
theorem srt_vj {T : List Tg} (hl : T.length ≤ 16) (h : ∀ i, i < T.length → ¬ bad2 (T.getD i t0) ∧ ¬ dup T i) : VJ (SRT T T.length) (-1) false false false := by
  have hsl := SRT_len T T.length
  have hpw := srt_pw (T := T) T.length (fun k hk => (h k hk).2)
  have hz : ∀ i, i < T.length → ∃ k, k < T.length ∧ (SRT T T.length).getD i d0 = br (T.getD k t0) := fun i hi => by
    have hm : (SRT T T.length).getD i d0 ∈ SRT T T.length := by
      rw [List.getD_eq_getElem?_getD, List.getElem?_eq_getElem (by omega)]
      exact List.getElem_mem _
    obtain ⟨k, k1, k2⟩ := mem_SRT.1 hm
    exact ⟨k, k1, k2.symm⟩
  refine ⟨by omega, by omega, by omega, fun i hi => ?_, fun g => by omega, (fun g => by cases g), (fun g => by cases g)⟩
  obtain ⟨m, m1, m2⟩ := hz i (by omega)
  have hb := (h m m1).1
  unfold bad2 at hb
  refine ⟨?_, fun k hk => ?_, ?_⟩
  · rw [m2]
    exact ⟨fun g => hb (.inl g), by have : ¬ (T.getD m t0).2 < 0 := fun g => hb (.inr (.inl g)); show 0 ≤ (T.getD m t0).2; omega, by have : ¬ (T.getD m t0).2 > 1000 := fun g => hb (.inr (.inr g)); show (T.getD m t0).2 ≤ 1000; omega, by show (0 : Int) ≤ 6; omega, fun g => by have : (0 : Int) = 5 := g; omega, fun _ => rfl⟩
  · have hr := List.pairwise_iff_getElem.1 hpw k i (by omega) (by omega) hk
    obtain ⟨m', m1', m2'⟩ := hz k (by omega)
    have e1 : (SRT T T.length)[k]'(by omega) = (SRT T T.length).getD k d0 := by rw [List.getD_eq_getElem?_getD, List.getElem?_eq_getElem (by omega)]; rfl
    have e2 : (SRT T T.length)[i]'(by omega) = (SRT T T.length).getD i d0 := by rw [List.getD_eq_getElem?_getD, List.getElem?_eq_getElem (by omega)]; rfl
    rw [e1, e2] at hr
    have s1 : ((SRT T T.length).getD k d0).2.2.1 = 0 := by rw [m2']; rfl
    have s2 : ((SRT T T.length).getD i d0).2.2.1 = 0 := by rw [m2]; rfl
    exact ⟨hr.2, hr.1, fun _ => .inl s2, fun g _ => (g (.inl s1)).elim, fun _ _ => by rw [s1, s2]⟩
  · rw [m2]
    have s2 : (br (T.getD m t0)).2.2.1 = 0 := rfl
    have c2 : (br (T.getD m t0)).2.2.2 = 0 := rfl
    exact ⟨fun g => by omega, fun g => rfl, fun g => by omega, fun g => by omega, (fun g => by cases g), fun g g' => by omega⟩
end Go.Proofs.Ytheicchelhjcjaa
