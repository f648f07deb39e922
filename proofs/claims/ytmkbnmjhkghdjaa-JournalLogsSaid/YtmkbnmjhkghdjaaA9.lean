/- Chapter 20: Encode. -/
import Derived.Test.YtmkbnmjhkghdjaaA8
set_option linter.unusedVariables false
set_option linter.unusedSimpArgs false
namespace Go.Proofs.Ytmkbnmjhkghdjaa
open Go.RowKit
set_option maxHeartbeats 2000000
/-- head, called. -/
theorem head_c {rd : Nat → Option AO} (n k s : Nat) (hn : n < 4294967296) (hk : k < 256) (hs : s ≤ 65535) {a b c : Int} (ha : (n : Int) = a) (hb : (k : Int) = b) (hc : (s : Int) = c) {c1 : List DV} (h1 : bytesD (enc [(167, 1), (k, 1), (n, 4), (s, 2), (65535 - s, 2)]) = c1) (h2 : rd 2 = none) : Does Try.prog (fun _ => none) 32 [aInt .i64 a, aInt .u8 b, aInt .i64 c] [2] (.sl 2 0 10 none) [(2, .data 5 1 c1 true)] rd := by
  subst ha hb hc h1
  refine does_of_O (head_o n k s hn hk hs) (fun x hx => by cases hx) rfl rfl (fun x hx => ?_) rfl
  rcases List.mem_singleton.1 hx with rfl
  exact ⟨by simp, .inl h2⟩
/-- The bytes of a record: those before the data, the data, the check. -/
def headR (n k s : Nat) : List UInt8 := enc [(167, 1), (k, 1), (n, 4), (s, 2), (65535 - s, 2)]
def recR (n k : Nat) (l : List UInt8) : List UInt8 := (headR n k l.length ++ l) ++ beN (crc (headR n k l.length ++ l)) 4
def encodeR (n : Int) (k : Nat) (l : List UInt8) : List UInt8 × Int :=
  if n < 0 ∨ n > 1048575 then ([], 3) else if l.length > 4096 then ([], 4) else (recR n.toNat k l, 0)
theorem crcL_lt : ∀ (l : List UInt8) (c : Nat), c < 4294967296 → crcL c l < 4294967296
  | [], c, h => h
  | b :: l, c, h => by
    rw [crcL]
    have : c ^^^ b.toNat < 2 ^ 32 := Nat.xor_lt_two_pow (by omega) (by have := b.toNat_lt; omega)
    refine crcL_lt l _ ?_
    unfold crcB
    have key : ∀ n c, c < 4294967296 → bits n c < 4294967296 := by
      intro n
      induction n with
      | zero => intro c h; exact h
      | succ n ih => intro c h; exact ih _ (bitStep_lt h)
    exact key 8 _ this
theorem crc_lt (l : List UInt8) : crc l < 4294967296 := by
  have := crcL_lt l 4294967295 (by omega)
  have h : crcL 4294967295 l ^^^ 4294967295 < 2 ^ 32 := Nat.xor_lt_two_pow this (by omega)
  exact h
theorem encode_o (n : Int) (k : Nat) (l : List UInt8) (hk : k < 256) (hl : l.length ≤ 1000000) : DoesO Try.prog (fun _ => none) 12 [aInt .i64 n, .agg [aInt .u8 k, .d (bD l)]] [] (.tup [.d (bD (encodeR n k l).1), aInt .u8 (encodeR n k l).2]) [] := by
  obtain ⟨ki, hki⟩ : ∃ i : Int, (k : Int) = i := ⟨_, rfl⟩
  obtain ⟨R, hR⟩ : ∃ R, encodeR n k l = R := ⟨_, rfl⟩
  rw [hki, hR]
  obtain ⟨R1, R2⟩ := R
  unfold bD
  obtain ⟨cr, hcr⟩ : ∃ cs, bytesD R1 = cs := ⟨_, rfl⟩
  obtain ⟨nr, hnr⟩ : ∃ n, R1.length = n := ⟨_, rfl⟩
  dsimp only
  rw [hcr, hnr]
  obtain ⟨cs, hcs⟩ : ∃ cs, bytesD l = cs := ⟨_, rfl⟩
  obtain ⟨m, hm⟩ : ∃ n, l.length = n := ⟨_, rfl⟩
  rw [hcs, hm]
  refine does_p KK (fn := Try.f12) Try.func12 rfl (by show 2 ≤ _; decide) ?_
  intro C F p hC hF hp
  unfold encodeR at hR
  by_cases hn0 : n < 0
  · have e1 : p.cmp .lss n 0 = true := by rw [p_cmp_lss hp]; exact decide_eq_true hn0
    rw [if_pos (.inl hn0)] at hR
    cases hR
    subst hcr hnr
    conv => cbv
    repeat (simp only [e1]; conv => cbv)
    exact back_tell (wk_tup (wk_cons wk_nil (wk_cons (wk_same rfl rfl) wk_end)))
  have e1 : p.cmp .lss n 0 = false := by rw [p_cmp_lss hp]; exact decide_eq_false hn0
  by_cases hn1 : n > 1048575
  · have e2 : p.cmp .gtr n 1048575 = true := by rw [p_cmp_gtr hp]; exact decide_eq_true hn1
    rw [if_pos (.inr hn1)] at hR
    cases hR
    subst hcr hnr
    conv => cbv
    repeat (simp only [e1, e2]; conv => cbv)
    exact back_tell (wk_tup (wk_cons wk_nil (wk_cons (wk_same rfl rfl) wk_end)))
  have e2 : p.cmp .gtr n 1048575 = false := by rw [p_cmp_gtr hp]; exact decide_eq_false hn1
  rw [if_neg (by omega)] at hR
  by_cases hm1 : m > 4096
  · have e3 : p.cmp .gtr (p.zi m) 4096 = true := by rw [p_cmp_gtr hp, p_zi hp]; exact decide_eq_true (by omega)
    rw [if_pos (by omega)] at hR
    cases hR
    subst hcr hnr
    conv => cbv
    repeat (simp only [e1, e2, e3]; conv => cbv)
    exact back_tell (wk_tup (wk_cons wk_nil (wk_cons (wk_same rfl rfl) wk_end)))
  have e3 : p.cmp .gtr (p.zi m) 4096 = false := by rw [p_cmp_gtr hp, p_zi hp]; exact decide_eq_false (by omega)
  rw [if_neg (by omega)] at hR
  cases hR
  obtain ⟨ch, hch⟩ : ∃ ch, bytesD (headR n.toNat k m) = ch := ⟨_, rfl⟩
  have lch : ch.length = 10 := by rw [← hch, bytesD_length]; rfl
  obtain ⟨mi, hmi⟩ : ∃ mi, p.zi m = mi := ⟨_, rfl⟩
  have hmi' : (m : Int) = mi := by rw [← hmi, p_zi hp]
  rw [hmi] at e3
  have lcs : cs.length = m := by rw [← hcs, bytesD_length, hm]
  have k1 : p.neq (p.len cs) (p.nm m 1) = true := p_neq hp (by rw [p_len hp, p_nm hp]; omega)
  have k2 : p.neq (p.nm 10 1) (p.len ch) = true := p_neq hp (by rw [p_len hp, p_nm hp]; omega)
  have k3 : p.fit 10 m 1 = true := p_fit hp (by omega) (by show _ ≤ 9223372036854775807; omega)
  conv => cbv
  repeat (simp only [e1, e2, hmi, e3]; conv => cbv)
  refine call_p hC (by kernel_rfl) (head_c n.toNat k m (by omega) hk (by omega) (by omega) hki hmi' hch rfl) ⟨by decide_cbv, ?_⟩
  obtain ⟨B, hB⟩ : ∃ B, headR n.toNat k m ++ l = B := ⟨_, rfl⟩
  obtain ⟨mb, hmb⟩ : ∃ mb, p.na 10 m = mb := ⟨_, rfl⟩
  obtain ⟨cb, hcb⟩ : ∃ cb, p.app ch cs = cb := ⟨_, rfl⟩
  have hmb' : mb = B.length := by rw [← hmb, p_na hp, ← hB, List.length_append, hm]; rfl
  have hcb' : cb = bytesD B := by rw [← hcb, p_app hp, ← hB, bytesD_append, hch, hcs]
  obtain ⟨ck, hck⟩ : ∃ ck : Int, (crc B : Int) = ck := ⟨_, rfl⟩
  have hBl : B.length ≤ 5000 := by rw [← hB, List.length_append, hm]; show 10 + m ≤ 5000; omega
  conv => cbv
  repeat (simp only [k1, k2, k3, p_neq00 hp, hmb, hcb]; conv => cbv)
  refine call_p hC (by kernel_rfl) (check_row B rfl hcb' hmb' (by omega) hck) ⟨by decide_cbv, ?_⟩
  conv => cbv
  refine call_p hC (by kernel_rfl) (write_row (r := 1509) (r2 := 3) (q := 1604) B [(crc B, 4)] rfl rfl rfl rfl hcb' hmb' (by rw [← hck]; rfl) rfl (by simp; exact crc_lt B) (by simp; omega) (c1 := cr) (n1 := nr) ?_ ?_) ⟨by decide_cbv, ?_⟩
  · rw [← hcr, ← hB, ← hm]; rfl
  · rw [← hnr, ← hB, ← hm]; rfl
  conv => cbv
  have lcr : cr.length = nr := by rw [← hcr, bytesD_length, hnr]
  exact back_tell (wk_tup (wk_cons (wk_row (cs := cr) (e := 5) (sz := 1) (wr := true) rfl (by rw [List.drop_zero, List.take_of_length_le (by omega)])) (wk_cons (wk_same rfl rfl) wk_end)))
end Go.Proofs.Ytmkbnmjhkghdjaa
