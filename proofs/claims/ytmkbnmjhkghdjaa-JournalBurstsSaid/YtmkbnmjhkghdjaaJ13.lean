/- Chapter 20, plain: the check finds what is near together. -/
import Derived.Test.YtmkbnmjhkghdjaaJ1
set_option linter.unusedVariables false
set_option linter.unusedSimpArgs false
namespace Go.Proofs.Ytmkbnmjhkghdjaa
open Go.RowKit

theorem xor_mod2 (a b : Nat) : (a ^^^ b) % 2 = (a % 2 + b % 2) % 2 := by
  have h : ((a ^^^ b).testBit 0) = (a.testBit 0 ^^ b.testBit 0) := Nat.testBit_xor ..
  simp only [Nat.testBit_zero] at h
  have ha := Nat.mod_two_eq_zero_or_one a
  have hb := Nat.mod_two_eq_zero_or_one b
  have hc := Nat.mod_two_eq_zero_or_one (a ^^^ b)
  rcases ha with ha | ha <;> rcases hb with hb | hb <;> rcases hc with hc | hc <;> simp [ha, hb, hc] at h ⊢
theorem crcBit_xor (a b : BitVec 32) : crcBit (a ^^^ b) = crcBit a ^^^ crcBit b := by
  unfold crcBit
  have h := xor_mod2 a.toNat b.toNat
  rw [BitVec.toNat_xor, BitVec.ushiftRight_xor_distrib]
  have ha := Nat.mod_two_eq_zero_or_one a.toNat
  have hb := Nat.mod_two_eq_zero_or_one b.toNat
  rcases ha with ha | ha <;> rcases hb with hb | hb
  · rw [if_neg (by omega), if_neg (by omega), if_neg (by omega)]
  · rw [if_pos (by omega), if_neg (by omega), if_pos (by omega), BitVec.xor_assoc]
  · rw [if_pos (by omega), if_pos (by omega), if_neg (by omega), BitVec.xor_assoc, BitVec.xor_assoc, BitVec.xor_comm (b >>> 1)]
  · rw [if_neg (by omega), if_pos (by omega), if_pos (by omega), BitVec.xor_assoc, BitVec.xor_comm (3988292384#32) _, BitVec.xor_assoc, BitVec.xor_self, BitVec.xor_zero]
theorem itB_xor : ∀ (n : Nat) (a b : BitVec 32), itB n (a ^^^ b) = itB n a ^^^ itB n b
  | 0, a, b => rfl
  | n + 1, a, b => by rw [itB, itB_xor n, crcBit_xor]; rfl
theorem itB_zero : ∀ n : Nat, itB n 0#32 = 0#32
  | 0 => rfl
  | n + 1 => by rw [itB, itB_zero n]; rfl
theorem itB_add : ∀ (m n : Nat) (v : BitVec 32), itB (n + m) v = itB n (itB m v)
  | m, 0, v => by rw [Nat.zero_add]; rfl
  | m, n + 1, v => by rw [Nat.add_right_comm, itB, itB_add m n, itB]
/-- What is great stays so, but for one bit. -/
theorem crcBit_ge {v : BitVec 32} {m : Nat} (hm : m ≤ 31) (h : 2 ^ m ≤ v.toNat) : 2 ^ (m - 1) ≤ (crcBit v).toNat := by
  have hhalf : (v >>> 1).toNat = v.toNat / 2 := by rw [BitVec.toNat_ushiftRight, Nat.shiftRight_eq_div_pow]
  have hv := v.isLt
  have hp : 2 ^ (m - 1) ≤ 2 ^ 31 := Nat.pow_le_pow_right (by omega) (by omega)
  unfold crcBit
  split
  · rename_i hodd
    have : ((v >>> 1) ^^^ 3988292384#32).toNat ≥ 2 ^ 31 := by
      rw [BitVec.toNat_xor, hhalf]
      refine Nat.ge_two_pow_of_testBit (i := 31) ?_
      rw [Nat.testBit_xor, Nat.testBit_lt_two_pow (show v.toNat / 2 < 2 ^ 31 by omega)]
      decide
    omega
  · rename_i heven
    rw [hhalf]
    cases m with
    | zero =>
      have : v.toNat ≠ 0 := by omega
      show 2 ^ 0 ≤ v.toNat / 2
      omega
    | succ m =>
      rw [Nat.add_sub_cancel]
      rw [Nat.pow_succ] at h
      omega
theorem itB_ge : ∀ (n : Nat) {v : BitVec 32} {m : Nat}, m ≤ 31 → 2 ^ m ≤ v.toNat → 2 ^ (m - n) ≤ (itB n v).toNat
  | 0, v, m, _, h => h
  | n + 1, v, m, hm, h => by
    have := crcBit_ge (v := itB n v) (m := m - n) (by omega) (itB_ge n hm h)
    rw [Nat.sub_sub] at this
    exact this
theorem xor_ge {a b m : Nat} (h : 2 ^ m ≤ a) (hb : b < 2 ^ m) : 2 ^ m ≤ a ^^^ b := by
  obtain ⟨i, hi, ht⟩ := Nat.exists_ge_and_testBit_of_ge_two_pow h
  refine Nat.le_trans (Nat.pow_le_pow_right (by omega) hi) (Nat.ge_two_pow_of_testBit (i := i) ?_)
  rw [Nat.testBit_xor, ht, Nat.testBit_lt_two_pow (Nat.lt_of_lt_of_le hb (Nat.pow_le_pow_right (by omega) hi))]
  rfl
/-- The difference, from byte to byte. -/
def difG (f : BitVec 32 → BitVec 32) : BitVec 32 → (Nat → Nat) → Nat → BitVec 32
  | d, _, 0 => d
  | d, M, n + 1 => difG f (f (d ^^^ BitVec.ofNat 32 (M 0))) (fun i => M (i + 1)) n
theorem difG_succ (f : BitVec 32 → BitVec 32) (d : BitVec 32) (M : Nat → Nat) (n : Nat) : difG f d M (n + 1) = difG f (f (d ^^^ BitVec.ofNat 32 (M 0))) (fun i => M (i + 1)) n := rfl
abbrev difM := difG (itB 8)
theorem difM_succ (d : BitVec 32) (M : Nat → Nat) (n : Nat) : difM d M (n + 1) = difM (itB 8 (d ^^^ BitVec.ofNat 32 (M 0))) (fun i => M (i + 1)) n := difG_succ (itB 8) d M n
theorem difM_nz : ∀ (n : Nat) (d : BitVec 32) (M : Nat → Nat) (m : Nat), m ≤ 31 → 2 ^ m ≤ d.toNat → (∀ i, i < n → M i < 2 ^ (m - 8 * i)) → 1 ≤ (difM d M n).toNat
  | 0, d, M, m, hm, h, _ => by
    have := Nat.one_le_two_pow (n := m)
    show 1 ≤ d.toNat
    omega
  | n + 1, d, M, m, hm, h, hM => by
    have h0 := hM 0 (by omega)
    rw [Nat.mul_zero, Nat.sub_zero] at h0
    have h31 : 2 ^ m ≤ 2 ^ 31 := Nat.pow_le_pow_right (by omega) hm
    have hx : 2 ^ m ≤ (d ^^^ BitVec.ofNat 32 (M 0)).toNat := by
      rw [BitVec.toNat_xor, BitVec.toNat_ofNat, Nat.mod_eq_of_lt (by omega)]
      exact xor_ge h h0
    refine difM_nz n _ _ (m - 8) (by omega) (itB_ge 8 hm hx) fun i hi => ?_
    have := hM (i + 1) (by omega)
    rw [show m - 8 - 8 * i = m - 8 * (i + 1) from by omega]
    exact this
theorem itB_shift : ∀ (t : Nat) (v : BitVec 32), (∀ j, j < t → v.toNat.testBit j = false) → (itB t v).toNat = v.toNat / 2 ^ t
  | 0, v, _ => by simp [itB]
  | t + 1, v, h => by
    have ih := itB_shift t v fun j hj => h j (by omega)
    have hb := h t (by omega)
    rw [itB]
    unfold crcBit
    have hev : (itB t v).toNat % 2 ≠ 1 := by
      rw [ih]
      intro hh
      rw [Nat.testBit_eq_decide_div_mod_eq] at hb
      simp at hb
      omega
    rw [if_neg hev, BitVec.toNat_ushiftRight, Nat.shiftRight_eq_div_pow, ih, Nat.div_div_eq_div_mul, ← Nat.pow_add]
/-- The first byte that differs. -/
theorem first_ge {e : Nat} (he : e < 256) {t : Nat} (ht8 : t < 8) (ht : e.testBit t = true) (hlow : ∀ j, j < t → e.testBit j = false) : 2 ^ (24 + t) ≤ (itB 8 (0#32 ^^^ BitVec.ofNat 32 e)).toNat := by
  rw [BitVec.zero_xor]
  have hn : (BitVec.ofNat 32 e).toNat = e := by rw [BitVec.toNat_ofNat, Nat.mod_eq_of_lt (by omega)]
  have h1 := itB_shift t (BitVec.ofNat 32 e) (fun j hj => by rw [hn]; exact hlow j hj)
  rw [hn] at h1
  have hodd : (itB t (BitVec.ofNat 32 e)).toNat % 2 = 1 := by
    rw [h1]
    rw [Nat.testBit_eq_decide_div_mod_eq] at ht
    simpa using ht
  have h2 : 2 ^ 31 ≤ (itB (1 + t) (BitVec.ofNat 32 e)).toNat := by
    rw [itB_add]
    show 2 ^ 31 ≤ (crcBit (itB t (BitVec.ofNat 32 e))).toNat
    unfold crcBit
    rw [if_pos hodd, BitVec.toNat_xor, BitVec.toNat_ushiftRight, Nat.shiftRight_eq_div_pow]
    refine Nat.ge_two_pow_of_testBit (i := 31) ?_
    have := (itB t (BitVec.ofNat 32 e)).isLt
    rw [Nat.testBit_xor, Nat.testBit_lt_two_pow (show (itB t (BitVec.ofNat 32 e)).toNat / 2 ^ 1 < 2 ^ 31 by omega)]
    decide
  have h3 := itB_ge (7 - t) (m := 31) (Nat.le_refl _) h2
  rw [← itB_add, show 7 - t + (1 + t) = 8 from by omega, show 31 - (7 - t) = 24 + t from by omega] at h3
  exact h3
theorem difM_first : ∀ (p n : Nat) (M : Nat → Nat) {t : Nat}, p < n → (∀ i, i < p → M i = 0) → M p < 256 → t < 8 → (M p).testBit t = true → (∀ j, j < t → (M p).testBit j = false) → (∀ i, p < i → i < n → M i < 2 ^ (24 + t - 8 * (i - p - 1))) → 1 ≤ (difM 0#32 M n).toNat
  | 0, n + 1, M, t, _, _, h256, ht8, ht, hlow, hafter => by
    rw [difM_succ]
    refine difM_nz n _ _ (24 + t) (by omega) (first_ge h256 ht8 ht hlow) fun i hi => ?_
    have := hafter (i + 1) (by omega) (by omega)
    rw [show i + 1 - 0 - 1 = i from by omega] at this
    exact this
  | p + 1, n + 1, M, t, hp, h0, h256, ht8, ht, hlow, hafter => by
    rw [difM_succ, h0 0 (by omega), BitVec.xor_zero, itB_zero]
    refine difM_first p n (fun i => M (i + 1)) (by omega) (fun i hi => h0 (i + 1) (by omega)) h256 ht8 ht hlow fun i h1 h2 => ?_
    have := hafter (i + 1) (by omega) (by omega)
    rw [show i + 1 - (p + 1) - 1 = i - p - 1 from by omega] at this
    exact this
  | p, 0, M, t, hp, _, _, _, _, _, _ => by omega
theorem crc_dif : ∀ (a b : List Int) (u v : BitVec 32) (M : Nat → Nat), Bytes a → a.length = b.length → (∀ i, i < a.length → M i < 256 ∧ b.getD i 0 = ((((a.getD i 0).toNat ^^^ M i : Nat)) : Int)) → a.foldl crcB u ^^^ b.foldl crcB v = difM (u ^^^ v) M a.length
  | [], [], u, v, M, _, _, _ => rfl
  | x :: a, y :: b, u, v, M, ha, hl, hM => by
    obtain ⟨m0, m1⟩ := hM 0 (by simp)
    have hx := ha x List.mem_cons_self
    have m1' : y = (((x.toNat ^^^ M 0 : Nat)) : Int) := m1
    have e : BitVec.ofInt 32 x ^^^ BitVec.ofInt 32 y = BitVec.ofNat 32 (M 0) := by
      have hxn : BitVec.ofInt 32 x = BitVec.ofNat 32 x.toNat := by
        conv => lhs; rw [show x = ((x.toNat : Nat) : Int) from by omega]
        rw [BitVec.ofInt_natCast]
      rw [m1', BitVec.ofInt_natCast, hxn, ← BitVec.ofNat_xor, ← Nat.xor_assoc, Nat.xor_self, Nat.zero_xor]
    rw [List.foldl_cons, List.foldl_cons, List.length_cons, difM_succ]
    have ih := crc_dif a b (crcB u x) (crcB v y) (fun i => M (i + 1)) (fun z hz => ha z (List.mem_cons_of_mem _ hz)) (by simpa using hl) (fun i hi => hM (i + 1) (by simpa using hi))
    rw [ih]
    congr 1
    unfold crcB
    rw [← itB_xor, ← e]
    congr 1
    rw [BitVec.xor_assoc, BitVec.xor_assoc]
    congr 1
    rw [← BitVec.xor_assoc, ← BitVec.xor_assoc, BitVec.xor_comm (BitVec.ofInt 32 x) v]
  | [], _ :: _, _, _, _, _, hl, _ => by cases hl
  | _ :: _, [], _, _, _, _, hl, _ => by cases hl
/-- **What differs within 32 bits has another check.** -/
theorem crc_ne {a b : List Int} {M : Nat → Nat} (ha : Bytes a) (hl : a.length = b.length) (hM : ∀ i, i < a.length → M i < 256 ∧ b.getD i 0 = ((((a.getD i 0).toNat ^^^ M i : Nat)) : Int)) {p t : Nat} (hp : p < a.length) (h0 : ∀ i, i < p → M i = 0) (ht : (M p).testBit t = true) (hlow : ∀ j, j < t → (M p).testBit j = false)
    (hafter : ∀ i, p < i → i < a.length → M i < 2 ^ (24 + t - 8 * (i - p - 1))) : crc a ≠ crc b := by
  intro h
  have h256 := (hM p hp).1
  have ht8 : t < 8 := by
    rcases Nat.lt_or_ge t 8 with h | h
    · exact h
    · rw [Nat.testBit_lt_two_pow (Nat.lt_of_lt_of_le h256 (Nat.pow_le_pow_right (n := 2) (by omega) h))] at ht
      cases ht
  have hd := crc_dif a b 4294967295#32 4294967295#32 M ha hl hM
  rw [BitVec.xor_self] at hd
  have hz : crcV a = crcV b := by
    unfold crc at h
    have h' : (crcV a ^^^ 4294967295#32).toNat = (crcV b ^^^ 4294967295#32).toNat := by omega
    have h'' := BitVec.eq_of_toNat_eq h'
    have := congrArg (fun z => z ^^^ 4294967295#32) h''
    simpa [BitVec.xor_assoc] using this
  have hz' : a.foldl crcB 4294967295#32 = b.foldl crcB 4294967295#32 := hz
  rw [hz', BitVec.xor_self] at hd
  have := difM_first p a.length M hp h0 h256 ht8 ht hlow hafter
  rw [← hd] at this
  exact absurd this (by decide)
end Go.Proofs.Ytmkbnmjhkghdjaa
