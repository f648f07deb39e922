/- The abstract machine: what the driver says of the reckoning. -/
import Derived.Test.YtmkbnmjhkghdjaaH32
set_option linter.unusedVariables false
set_option linter.unusedSimpArgs false
namespace Go.Proofs.Ytmkbnmjhkghdjaa
open Go.RowKit
section
variable {p : Pr} (hp : p = real)
include hp
theorem sp_lss (a b : Int) : (p.cmp .lss a b = true ∧ a < b) ∨ (p.cmp .lss a b = false ∧ b ≤ a) := by
  rw [p_cmp_lss hp]; by_cases h : a < b
  · exact .inl ⟨decide_eq_true h, h⟩
  · exact .inr ⟨decide_eq_false h, by omega⟩
theorem sp_leq (a b : Int) : (p.cmp .leq a b = true ∧ a ≤ b) ∨ (p.cmp .leq a b = false ∧ b < a) := by
  rw [p_cmp_leq hp]; by_cases h : a ≤ b
  · exact .inl ⟨decide_eq_true h, h⟩
  · exact .inr ⟨decide_eq_false h, by omega⟩
theorem sp_gtr (a b : Int) : (p.cmp .gtr a b = true ∧ b < a) ∨ (p.cmp .gtr a b = false ∧ a ≤ b) := by
  rw [p_cmp_gtr hp]; by_cases h : a > b
  · exact .inl ⟨decide_eq_true h, h⟩
  · exact .inr ⟨decide_eq_false h, by omega⟩
theorem sp_geq (a b : Int) : (p.cmp .geq a b = true ∧ b ≤ a) ∨ (p.cmp .geq a b = false ∧ a < b) := by
  rw [p_cmp_geq hp]; by_cases h : a ≥ b
  · exact .inl ⟨decide_eq_true h, h⟩
  · exact .inr ⟨decide_eq_false h, by omega⟩
theorem sp_eql (a b : Int) : (p.cmp .eql a b = true ∧ a = b) ∨ (p.cmp .eql a b = false ∧ a ≠ b) := by
  rw [p_cmp_eql hp]; by_cases h : a = b
  · exact .inl ⟨decide_eq_true h, h⟩
  · exact .inr ⟨decide_eq_false h, h⟩
theorem sp_neq (a b : Int) : (p.cmp .neq a b = true ∧ a ≠ b) ∨ (p.cmp .neq a b = false ∧ a = b) := by
  rw [p_cmp_neq hp]; by_cases h : a = b
  · exact .inr ⟨by simp [h], h⟩
  · exact .inl ⟨by simp [h], h⟩
theorem p_nzF {a : Int} (h : a ≠ 0) : p.nz a = false := by rw [hp]; exact decide_eq_false h
theorem p_nzT {a : Int} (h : a = 0) : p.nz a = true := by rw [hp]; exact decide_eq_true h
theorem sp_nz (a : Int) : (p.nz a = true ∧ a = 0) ∨ (p.nz a = false ∧ a ≠ 0) := by
  by_cases h : a = 0
  · exact .inl ⟨p_nzT hp h, h⟩
  · exact .inr ⟨p_nzF hp h, h⟩
theorem p_nnI {a : Int} (h : 0 ≤ a) : p.nn a = true := by rw [hp]; exact decide_eq_true h
theorem p_nleF {a b : Nat} (h : b < a) : p.nle a b = false := by rw [hp]; exact decide_eq_false (by omega)
theorem sp_nle (a b : Nat) : (p.nle a b = true ∧ a ≤ b) ∨ (p.nle a b = false ∧ b < a) := by
  by_cases h : a ≤ b
  · exact .inl ⟨p_nle hp h, h⟩
  · exact .inr ⟨p_nleF hp (by omega), by omega⟩
theorem sp_nat (a b : Nat) : (p.neq a b = true ∧ a = b) ∨ (p.neq a b = false ∧ a ≠ b) := by
  by_cases h : a = b
  · exact .inl ⟨p_neq hp h, h⟩
  · exact .inr ⟨p_neqf hp h, h⟩
theorem p_mks {n k : Int} {b : Nat} (h1 : 0 ≤ n) (h2 : n ≤ k) (h3 : k * b ≤ 140737488355328) (h4 : k ≤ (maxLen : Int)) : p.mks n k b = true := by
  rw [hp]; exact decide_eq_true ⟨h1, h2, h3, h4⟩
theorem p_empL {cs : List DV} (h : 0 < cs.length) : p.emp cs = false := p_emp hp (fun e => by subst e; simp at h)
theorem p_ixE {i : Int} {n : Nat} (h1 : 0 ≤ i) (h2 : i < n) : ∃ j : Nat, (j : Int) = i ∧ j < n ∧ p.ix i n = some j :=
  ⟨i.toNat, by omega, by omega, p_ix hp (by omega) (by omega)⟩
theorem p_ixleE {i : Int} {n : Nat} (h1 : 0 ≤ i) (h2 : i ≤ n) : ∃ j : Nat, (j : Int) = i ∧ j ≤ n ∧ p.ixle i n = some j :=
  ⟨i.toNat, by omega, by omega, p_ixle hp (by omega) (by omega)⟩
theorem p_tn {i : Int} : p.tn i = i.toNat := by rw [hp]; rfl
theorem p_ssz {s : ByteArray} : p.ssz s = s.size := by rw [hp]; rfl
theorem p_mn {a b : Int} : p.mn a b = min a b := by
  rw [hp]; show minA a b = _; unfold minA; rw [Int.min_def]
  by_cases h : a ≤ b <;> by_cases h' : b < a <;> simp_all <;> omega
theorem p_mx {a b : Int} : p.mx a b = max a b := by
  rw [hp]; show maxA a b = _; unfold maxA; rw [Int.max_def]
  by_cases h : a ≤ b <;> by_cases h' : a < b <;> simp_all <;> omega
theorem p_wr8m {a : Int} : p.wr .u8 a = a % 256 := by rw [hp]; rfl
theorem p_wr16m {a : Int} : p.wr .u16 a = a % 65536 := by rw [hp]; rfl
theorem p_wr32m {a : Int} : p.wr .u32 a = a % 4294967296 := by rw [hp]; rfl
theorem p_wr64m {a : Int} : p.wr .u64 a = a % 18446744073709551616 := by rw [hp]; rfl
theorem p_wr8i {a : Int} (h1 : 0 ≤ a) (h2 : a < 256) : p.wr .u8 a = a := by rw [p_wr8m hp]; omega
theorem p_wr16i {a : Int} (h1 : 0 ≤ a) (h2 : a < 65536) : p.wr .u16 a = a := by rw [p_wr16m hp]; omega
theorem p_wr64i {a : Int} (h1 : 0 ≤ a) (h2 : a < 18446744073709551616) : p.wr .u64 a = a := by rw [p_wr64m hp]; omega
theorem p_wri64 {a : Int} (h1 : -9223372036854775808 ≤ a) (h2 : a ≤ 9223372036854775807) : p.wr .i64 a = a := by rw [hp]; exact wrap_i64 h1 h2
theorem p_quoN {a b : Int} (h1 : 0 ≤ a) (h2 : 0 < b) (h3 : a ≤ 9223372036854775807) : p.ar .quo .i64 a b = a / b := by
  rw [hp]
  show IntKind.wrap .i64 (a.tdiv b) = _
  rw [Int.tdiv_eq_ediv_of_nonneg h1]
  have h4 := Int.ediv_nonneg h1 (Int.le_of_lt h2)
  have h5 : a / b ≤ a := Int.ediv_le_self b h1
  exact wrap_i64 (by omega) (by omega)
theorem p_remN {a b : Int} (h1 : 0 ≤ a) (h2 : 0 < b) : p.ar .rem .i64 a b = a % b := by
  rw [hp]; exact Int.tmod_eq_emod_of_nonneg h1
omit hp in
theorem seq_iff {a b : ByteArray} : (a.toList == b.toList) = true ↔ a = b := by
  constructor
  · intro h
    have h' := eq_of_beq h
    rw [ByteArray.toList_eq, ByteArray.toList_eq] at h'
    cases a; cases b
    simp only [Array.toList_inj] at h'
    rw [h']
  · rintro rfl; exact beq_self_eq_true _
theorem sp_seq (a b : ByteArray) : (p.seq a b = true ∧ a = b) ∨ (p.seq a b = false ∧ a ≠ b) := by
  have e : p.seq a b = (a.toList == b.toList) := by rw [hp]; rfl
  rw [e]
  by_cases h : a = b
  · exact .inl ⟨seq_iff.2 h, h⟩
  · refine .inr ⟨?_, h⟩
    cases hb : a.toList == b.toList with
    | false => rfl
    | true => exact (h (seq_iff.1 hb)).elim
theorem cellB_E {l : List UInt8} {cs : List DV} (h : bytesD l = cs) {o : Nat} (ho : o < l.length) : ∃ b : Int, ((l[o].toNat : Nat) : Int) = b ∧ 0 ≤ b ∧ b < 256 ∧ p.cell cs o = some (.val (.int .u8 b)) := by
  have h1 := l[o].toNat_lt
  refine ⟨_, rfl, by omega, by omega, p_cell hp ?_⟩
  subst h
  unfold bytesD
  rw [List.getElem?_map, List.getElem?_eq_getElem ho]; rfl
end
end Go.Proofs.Ytmkbnmjhkghdjaa
