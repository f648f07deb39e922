/- Chapter 20, plain: a record that is damaged. -/
import Derived.Test.YtmkbnmjhkghdjaaJ14
set_option linter.unusedVariables false
set_option linter.unusedSimpArgs false
namespace Go.Proofs.Ytmkbnmjhkghdjaa
open Go.RowKit

section
variable {n : Nat} {k : Int} {d D : List Int} {N : Nat → Nat}
theorem enc_nonneg (hr : RecOk (k, d)) (i : Nat) : 0 ≤ (encB (n : Int) k d).getD i 0 := ((encB_bytes hr).getD i).1
/-- Damage that leaves the numbers of the head as they were. -/
theorem dmg_data (hn : n < 1048576) (hr : RecOk (k, d)) (hl : D.length = 14 + d.length) (hD : ∀ i, i < D.length → D.getD i 0 = (((((encB (n : Int) k d).getD i 0).toNat ^^^ N i : Nat)) : Int)) (h256 : ∀ i, N i < 256)
    (hhead : ∀ i, i < 10 → i ≠ 1 → N i = 0) (htail : ∀ i, 10 + d.length ≤ i → i < 14 + d.length → N i = 0) {p t : Nat} (hp : p < 10 + d.length) (h0 : ∀ i, i < p → N i = 0) (ht : (N p).testBit t = true) (hlow : ∀ j, j < t → (N p).testBit j = false) (hafter : ∀ i, p < i → i < 10 + d.length → N i < 2 ^ (24 + t - 8 * (i - p - 1))) (rest : List Int) :
    oneS (D ++ rest) n = ((0, []), (0, 11)) := by
  have hl' : d.length ≤ 4096 := hr.2.2
  have hpl := preB_length (n : Int) k d
  refine oneS_badsum (k := D.getD 1 0) hn hl' hl (fun i hi => ?_) ?_
  · by_cases h1 : i = 1
    · subst h1; rw [headB_1]
    · rw [hD i (by omega), xor_toNat (enc_nonneg hr i) (hhead i hi h1), encB_getD hi]
      match i, hi, h1 with
      | 0, _, _ => rfl
      | 2, _, _ => rfl
      | 3, _, _ => rfl
      | 4, _, _ => rfl
      | 5, _, _ => rfl
      | 6, _, _ => rfl
      | 7, _, _ => rfl
      | 8, _, _ => rfl
      | 9, _, _ => rfl
  · have hdrop : D.drop (10 + d.length) = be 4 (crc (preB n k d)) := by
      refine getD_ext (by rw [List.length_drop, be_length]; omega) fun i hi => ?_
      rw [List.length_drop] at hi
      rw [List.getD_eq_getElem?_getD, List.getElem?_drop, ← List.getD_eq_getElem?_getD, hD _ (by omega), xor_toNat (enc_nonneg hr _) (htail _ (by omega) (by omega)), encB, List.getD_eq_getElem?_getD, List.getElem?_append_right (by omega), hpl, Nat.add_sub_cancel_left, ← List.getD_eq_getElem?_getD]
    rw [hdrop]
    intro h
    have hc := be4_inj (crc_bnd _) (crc_bnd _) h
    refine crc_ne (a := preB n k d) (b := D.take (10 + d.length)) (M := N) (preB_bytes hr.1 hr.2.1) (by rw [List.length_take, hpl]; omega) (fun i hi => ⟨h256 i, ?_⟩) (by rw [hpl]; exact hp) h0 ht hlow (fun i h1 h2 => hafter i h1 (by rw [hpl] at h2; exact h2)) hc.symm
    rw [hpl] at hi
    rw [getD_take hi, hD i (by omega), encB, getD_app_lt (by omega)]
theorem dmg_tail (hn : n < 1048576) (hr : RecOk (k, d)) (hl : D.length = 14 + d.length) (hD : ∀ i, i < D.length → D.getD i 0 = (((((encB (n : Int) k d).getD i 0).toNat ^^^ N i : Nat)) : Int))
    (hhead : ∀ i, i < 10 + d.length → N i = 0) {p : Nat} (hp : 10 + d.length ≤ p) (hp2 : p < 14 + d.length) (hne : N p ≠ 0) (rest : List Int) : oneS (D ++ rest) n = ((0, []), (0, 11)) := by
  have hl' : d.length ≤ 4096 := hr.2.2
  have hpl := preB_length (n : Int) k d
  have htake : D.take (10 + d.length) = preB n k d := by
    refine getD_ext (by rw [List.length_take, hpl]; omega) fun i hi => ?_
    rw [List.length_take] at hi
    rw [getD_take (by omega), hD i (by omega), xor_toNat (enc_nonneg hr i) (hhead i (by omega)), encB, getD_app_lt (by omega)]
  refine oneS_badsum (k := k) hn hl' hl (fun i hi => ?_) ?_
  · rw [hD i (by omega), xor_toNat (enc_nonneg hr i) (hhead i (by omega)), encB_getD hi]
  · rw [htake]
    intro h
    have := hD p (by omega)
    refine xor_ne (enc_nonneg (n := n) hr p) hne (this.symm.trans ?_)
    have e : D.getD p 0 = (D.drop (10 + d.length)).getD (p - (10 + d.length)) 0 := by
      rw [List.getD_eq_getElem?_getD, List.getD_eq_getElem?_getD, List.getElem?_drop]; congr 2; omega
    rw [e, ← h, encB, List.getD_eq_getElem?_getD (l := preB _ _ _ ++ _), List.getElem?_append_right (by omega), hpl, ← List.getD_eq_getElem?_getD]
theorem dmg_head (hn : n < 1048576) (hr : RecOk (k, d)) (hl : D.length = 14 + d.length) (hD : ∀ i, i < D.length → D.getD i 0 = (((((encB (n : Int) k d).getD i 0).toNat ^^^ N i : Nat)) : Int))
    {p : Nat} (hp : p < 10) (hp1 : p ≠ 1) (hne : N p ≠ 0) (hoth : ∀ i, i ≠ p → N i = 0) (rest : List Int) : oneS (D ++ rest) n = ((0, []), (0, 5)) := by
  refine oneS_wrong (.inr (.inr ?_))
  have hlr : (D ++ rest).length = 14 + d.length + rest.length := by rw [List.length_append, hl]
  have g : ∀ i, i < 10 → i ≠ p → (D ++ rest).getD i 0 = (headB n k d.length).getD i 0 := fun i hi h => by
    rw [getD_app_lt (by omega), hD i (by omega), xor_toNat (enc_nonneg hr i) (hoth i h), encB_getD hi]
  have gp : (D ++ rest).getD p 0 ≠ (headB n k d.length).getD p 0 := by
    rw [getD_app_lt (by omega), hD p (by omega), ← encB_getD hp]
    exact xor_ne (enc_nonneg hr p) hne
  have hl' : d.length ≤ 4096 := hr.2.2
  by_cases h6 : p < 6
  · exact ⟨p, hp, by omega, .inl ⟨h6, hp1, by rw [← headB_w n k d.length h6 hp1]; exact gp⟩⟩
  match p, hp, h6, gp, g with
  | 6, _, _, gp, g =>
    refine ⟨8, by omega, by omega, .inr (.inl ⟨rfl, fun h => gp ?_⟩)⟩
    rw [g 8 (by omega) (by omega), headB_8] at h
    rw [headB_6]; omega
  | 7, _, _, gp, g =>
    refine ⟨9, by omega, by omega, .inr (.inr ⟨rfl, fun h => gp ?_⟩)⟩
    rw [g 9 (by omega) (by omega), headB_9] at h
    rw [headB_7]; omega
  | 8, _, _, gp, g =>
    refine ⟨8, by omega, by omega, .inr (.inl ⟨rfl, fun h => gp ?_⟩)⟩
    rw [g 6 (by omega) (by omega), headB_6] at h
    rw [headB_8]; omega
  | 9, _, _, gp, g =>
    refine ⟨9, by omega, by omega, .inr (.inr ⟨rfl, fun h => gp ?_⟩)⟩
    rw [g 7 (by omega) (by omega), headB_7] at h
    rw [headB_9]; omega
  | 0, _, h6, _, _ => omega
  | 1, _, h6, _, _ => omega
  | 2, _, h6, _, _ => omega
  | 3, _, h6, _, _ => omega
  | 4, _, h6, _, _ => omega
  | 5, _, h6, _, _ => omega
end
theorem u8_flip {x : Int} (hx : 0 ≤ x ∧ x ≤ 255) {t : Nat} (ht : t < 8) : IntKind.wrap .u8 (((BitVec.toNat ((BitVec.ofInt 8 x) ^^^ (BitVec.ofInt 8 (IntKind.wrap .u8 ((1 : Int) * ((2 : Int) ^ (Min.min (Int.toNat (t : Int)) 8))))))) : Nat) : Int) = (((x.toNat ^^^ 2 ^ t : Nat)) : Int) := by
  have hp : (2 : Int) ^ (Min.min (Int.toNat (t : Int)) 8) = ((2 ^ t : Nat) : Int) := by
    rw [Int.toNat_natCast, Nat.min_eq_left (by omega)]; simp
  have h2 : 2 ^ t < 256 := Nat.pow_lt_pow_right (a := 2) (by omega) (show t < 8 from ht)
  rw [hp, Int.one_mul]
  clear hp
  generalize 2 ^ t = w at *
  have e1 : IntKind.wrap .u8 ((w : Nat) : Int) = ((w : Nat) : Int) := by rw [wr_u8]; omega
  rw [e1]
  obtain ⟨m, hm⟩ : ∃ m : Nat, x = (m : Int) := ⟨x.toNat, by omega⟩
  subst hm
  have := Nat.xor_lt_two_pow (n := 8) (x := m) (y := w) (by omega) (by omega)
  rw [BitVec.ofInt_natCast, BitVec.ofInt_natCast, BitVec.toNat_xor, BitVec.toNat_ofNat, BitVec.toNat_ofNat, Nat.mod_eq_of_lt (by omega), Nat.mod_eq_of_lt (by omega), Int.toNat_natCast, wr_u8]
  omega
end Go.Proofs.Ytmkbnmjhkghdjaa
