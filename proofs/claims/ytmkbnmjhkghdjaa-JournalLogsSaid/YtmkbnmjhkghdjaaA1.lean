/- Chapter 20: the check of bytes. -/
import Derived.Test.YtmkbnmjhkghdjaaT
set_option linter.unusedVariables false
set_option linter.unusedSimpArgs false
namespace Go.Proofs.Ytmkbnmjhkghdjaa
open Go.RowKit
set_option maxHeartbeats 2000000
def bitStep (c : Nat) : Nat := if c &&& 1 = 1 then (c / 2) ^^^ 3988292384 else c / 2
def bits : Nat → Nat → Nat
  | 0, c => c
  | n + 1, c => bits n (bitStep c)
theorem bitStep_lt {c : Nat} (h : c < 4294967296) : bitStep c < 4294967296 := by
  unfold bitStep
  split
  · have : c / 2 ^^^ 3988292384 < 2 ^ 32 := Nat.xor_lt_two_pow (by omega) (by omega)
    omega
  · omega
def crcB (c : Nat) (b : UInt8) : Nat := bits 8 (c ^^^ b.toNat)
def crcL : Nat → List UInt8 → Nat
  | c, [] => c
  | c, b :: l => crcL (crcB c b) l
def crc (l : List UInt8) : Nat := crcL 4294967295 l ^^^ 4294967295
theorem check_o (l : List UInt8) (hl : l.length ≤ maxLen) : DoesO Try.prog (fun _ => none) 14 [.d (bD l)] [] (aInt .u32 (crc l)) [] := by
  unfold bD
  have hl' : l.length ≤ 9223372036854775807 := hl
  obtain ⟨r, hr⟩ : ∃ r : Int, (crc l : Int) = r := ⟨_, rfl⟩
  rw [hr]
  generalize hcs : bytesD l = cs
  generalize hn : l.length = n
  refine does_p KK (fn := Try.f14) Try.func14 rfl (by show 1 ≤ _; decide) ?_
  intro C F p hC hF hp
  conv => cbv
  refine loop_p KK hC hF hp (fun (x : Int × Int) => ⟨31, [(7, .d (.dl cs n none)), (8, aInt .i64 (p.zi n)), (3, aInt .u32 x.2), (9, aInt .i64 x.1)], []⟩)
    (fun x => ∃ j c : Nat, x.1 = j ∧ x.2 = c ∧ j ≤ n ∧ c < 4294967296 ∧ crcL c (l.drop j) = crcL 4294967295 l) (fun x => n - x.1.toNat) (0, 4294967295) (tells_bare ⟨rfl, rfl, rfl, rfl, rfl, rfl, rfl, rfl, trivial⟩) ⟨0, 4294967295, rfl, rfl, by omega, by omega, rfl⟩ ?_
  rintro ⟨k, x⟩ ⟨j, c, h1, h2, hj, hc, hinv⟩
  dsimp only at h1 h2
  by_cases hk : j < n
  · have e1 : p.cmp .lss k (p.zi n) = true := by rw [p_cmp_lss hp, p_zi hp, h1]; exact decide_eq_true (by omega)
    have e2 : p.ix k n = some j := p_ix hp h1 hk
    have e3 : p.emp cs = false := p_emp hp (by rintro rfl; subst hn; cases l <;> simp_all [bytesD])
    have hj' : j < l.length := by omega
    have e4 : p.cell cs (p.nm j 1) = some (.val (.int .u8 (l[j].toNat : Nat))) := by rw [← hcs]; exact p_cellB hp hj'
    obtain ⟨b, hb⟩ : ∃ b : Int, ((l[j].toNat : Nat) : Int) = b := ⟨_, rfl⟩
    rw [hb] at e4
    conv => cbv
    repeat (simp only [e1, e2, e3, e4]; conv => cbv)
    refine loop_p KK hC hF hp (fun (x : Int × Int) => ⟨31, [(17, aInt .i64 x.1), (3, aInt .u32 x.2), (7, .d (.dl cs n none)), (8, aInt .i64 (p.zi n)), (9, aInt .i64 k)], []⟩)
      (fun x => ∃ i d : Nat, x.1 = i ∧ x.2 = d ∧ i ≤ 8 ∧ d < 4294967296 ∧ bits (8 - i) d = crcB c l[j]) (fun x => 8 - x.1.toNat) (_, _) (tells_bare ⟨rfl, rfl, rfl, rfl, rfl, rfl, rfl, rfl, rfl, rfl, trivial⟩) ?_ ?_
    · have hb8 : l[j].toNat < 256 := l[j].toNat_lt
      refine ⟨0, c ^^^ l[j].toNat, rfl, ?_, by omega, ?_, rfl⟩
      · show p.ar .xor .u32 x (p.wr .u32 b) = _
        rw [h2, ← hb, p_wr32 hp (by omega) (by omega)]
        exact p_xor32 hp hc (by omega)
      · have : c ^^^ l[j].toNat < 2 ^ 32 := Nat.xor_lt_two_pow (by omega) (by omega)
        omega
    rintro ⟨kj, y⟩ ⟨i, d, g1, g2, hi, hd, hb2⟩
    dsimp only at g1 g2
    by_cases hi8 : i < 8
    · have f1 : p.cmp .lss kj 8 = true := by rw [p_cmp_lss hp, g1]; exact decide_eq_true (by omega)
      have f2 : p.nz 2 = false := by rw [hp]; rfl
      have a1 : p.ar .and .u32 y 1 = ((d &&& 1 : Nat) : Int) := by rw [g2]; exact p_and32 (b := 1) hp hd (by omega)
      have a2 : p.ar .quo .u32 y 2 = ((d / 2 : Nat) : Int) := by rw [g2]; exact p_quo32 (b := 2) hp hd
      have a3 : p.ar .add .i64 kj 1 = ((i + 1 : Nat) : Int) := by rw [g1, p_add hp (by omega) (by omega)]; rfl
      by_cases hb1 : d &&& 1 = 1
      · have f3 : p.cmp .eql (p.ar .and .u32 y 1) 1 = true := by rw [p_cmp_eql hp, a1]; exact decide_eq_true (by omega)
        conv => cbv
        repeat (simp only [f1, f2, f3]; conv => cbv)
        refine ⟨(p.ar .add .i64 kj 1, p.ar .xor .u32 (p.ar .quo .u32 y 2) 3988292384), ⟨i + 1, bitStep d, a3, ?_, by omega, bitStep_lt hd, ?_⟩, ?_, tells_bare ⟨rfl, rfl, rfl, rfl, rfl, rfl, rfl, rfl, rfl, rfl, trivial⟩⟩
        · unfold bitStep; rw [if_pos hb1]
          show p.ar .xor .u32 (p.ar .quo .u32 y 2) 3988292384 = _
          rw [a2]; exact p_xor32 (b := 3988292384) hp (by omega) (by omega)
        · rw [← hb2, show 8 - i = (8 - (i + 1)) + 1 from by omega]; rfl
        · show 8 - (p.ar .add .i64 kj 1).toNat < 8 - kj.toNat
          rw [a3, g1]; omega
      · have f3 : p.cmp .eql (p.ar .and .u32 y 1) 1 = false := by rw [p_cmp_eql hp, a1]; exact decide_eq_false (by omega)
        conv => cbv
        repeat (simp only [f1, f2, f3]; conv => cbv)
        refine ⟨(p.ar .add .i64 kj 1, p.ar .quo .u32 y 2), ⟨i + 1, bitStep d, a3, ?_, by omega, bitStep_lt hd, ?_⟩, ?_, tells_bare ⟨rfl, rfl, rfl, rfl, rfl, rfl, rfl, rfl, rfl, rfl, trivial⟩⟩
        · unfold bitStep; rw [if_neg hb1]; exact a2
        · rw [← hb2, show 8 - i = (8 - (i + 1)) + 1 from by omega]; rfl
        · show 8 - (p.ar .add .i64 kj 1).toNat < 8 - kj.toNat
          rw [a3, g1]; omega
    · have f1 : p.cmp .lss kj 8 = false := by rw [p_cmp_lss hp, g1]; exact decide_eq_false (by omega)
      conv => cbv
      simp only [f1]
      conv => cbv
      have a3 : p.ar .add .i64 k 1 = ((j + 1 : Nat) : Int) := by rw [h1, p_add hp (by omega) (by omega)]; rfl
      have hi0 : 8 - i = 0 := by omega
      rw [hi0] at hb2
      refine ⟨(p.ar .add .i64 k 1, y), ⟨j + 1, d, a3, g2, by omega, hd, ?_⟩, ?_, tells_bare ⟨rfl, rfl, rfl, rfl, rfl, rfl, rfl, rfl, trivial⟩⟩
      · rw [← hinv, List.drop_eq_getElem_cons hj', crcL, ← hb2]; rfl
      · show n - (p.ar .add .i64 k 1).toNat < n - k.toNat
        rw [a3, h1]; omega
  · have e1 : p.cmp .lss k (p.zi n) = false := by rw [p_cmp_lss hp, p_zi hp, h1]; exact decide_eq_false (by omega)
    conv => cbv
    simp only [e1]
    conv => cbv
    have : j = n := by omega
    have e2 : p.un .xor .u32 x = r := by
      rw [← hr, h2]
      have hx : crcL 4294967295 l = c := by rw [← hinv, this, ← hn, List.drop_length]; rfl
      unfold crc
      rw [hx]
      exact p_not32 hp hc
    simp only [e2]
    exact back_same rfl
end Go.Proofs.Ytmkbnmjhkghdjaa
