/- Chapter 20: numbers as bytes. -/
import Derived.Test.YtmkbnmjhkghdjaaA2
set_option linter.unusedVariables false
set_option linter.unusedSimpArgs false
namespace Go.Proofs.Ytmkbnmjhkghdjaa
open Go.RowKit
set_option maxHeartbeats 2000000
def fieldsD (fs : List (Nat × Nat)) : List DV := fs.flatMap fun (v, k) => [.val (.int .u32 v), .val (.int .i64 k)]
def beN (v : Nat) : Nat → List UInt8
  | 0 => []
  | k + 1 => UInt8.ofNat (v / 2 ^ (8 * k)) :: beN v k
def enc (fs : List (Nat × Nat)) : List UInt8 := fs.flatMap fun (v, k) => beN v k
theorem write_o (l : List UInt8) (fs : List (Nat × Nat)) (hf : ∀ f ∈ fs, f.1 < 4294967296 ∧ f.2 ≤ 4) (hl : l.length + 8 * fs.length ≤ 1000000000) :
    DoesO Try.prog (fun _ => none) 33 [.sl 1 0 l.length none, .d (.dl (fieldsD fs) fs.length none)] [(1, .data 5 1 (bytesD l) true)] (.sl 2 0 (l ++ enc fs).length none) [(2, .data 5 1 (bytesD (l ++ enc fs)) true), (1, .dead)] := by
  obtain ⟨cs, hcs⟩ : ∃ cs, fieldsD fs = cs := ⟨_, rfl⟩
  obtain ⟨m, hm⟩ : ∃ m, fs.length = m := ⟨_, rfl⟩
  obtain ⟨c0, hc0⟩ : ∃ c0, bytesD l = c0 := ⟨_, rfl⟩
  obtain ⟨n0, hn0⟩ : ∃ n0, l.length = n0 := ⟨_, rfl⟩
  obtain ⟨c1, hc1⟩ : ∃ c1, bytesD (l ++ enc fs) = c1 := ⟨_, rfl⟩
  obtain ⟨n1, hn1⟩ : ∃ n1, (l ++ enc fs).length = n1 := ⟨_, rfl⟩
  rw [hcs, hm, hc0, hn0, hc1, hn1]
  refine does_p KK (fn := Try.f33) Try.func33 rfl (by show 2 ≤ _; decide) ?_
  intro C F p hC hF hp
  conv => cbv
  refine loop_p KK hC hF hp (fun (x : Int × List DV × Nat) => ⟨32, [(8, .d (.dl cs m none)), (9, aInt .i64 (p.zi m)), (10, aInt .i64 x.1), (0, .sl 7 0 x.2.2 none)], [(7, .data 5 1 x.2.1 true), (1, .dead)]⟩)
    (fun x => ∃ (j : Nat) (l' : List UInt8), x.1 = j ∧ j ≤ m ∧ x.2.1 = bytesD l' ∧ x.2.2 = l'.length ∧ l' ++ enc (fs.drop j) = l ++ enc fs ∧ l'.length ≤ n0 + 4 * j) (fun x => m - x.1.toNat) (0, c0, n0)
    (tells_obj [(7, 1), (1, 1)] rfl rfl ⟨⟨rfl, rfl, rfl⟩, trivial, trivial⟩ ⟨rfl, rfl, rfl, rfl, rfl, rfl, rfl, rfl, trivial⟩) ⟨0, l, rfl, Nat.zero_le _, hc0.symm, hn0.symm, rfl, by omega⟩ ?_
  rintro ⟨k, cur, len⟩ ⟨j, l', h1, hj, h2, h3, hinv, hlen⟩
  dsimp only at h1 h2 h3
  by_cases hk : j < m
  · have hjf : j < fs.length := by omega
    obtain ⟨v, hv⟩ : ∃ v : Int, ((fs[j].1 : Nat) : Int) = v := ⟨_, rfl⟩
    obtain ⟨sz, hsz⟩ : ∃ s : Int, ((fs[j].2 : Nat) : Int) = s := ⟨_, rfl⟩
    have e1 : p.cmp .lss k (p.zi m) = true := by rw [p_cmp_lss hp, p_zi hp, h1]; exact decide_eq_true (by omega)
    have e2 : p.ix k m = some j := p_ix hp h1 hk
    have e3 : p.emp cs = false := p_emp hp (by rintro rfl; subst hm; cases fs <;> simp_all [fieldsD])
    have e4 : p.cells cs (p.nm j 2) 2 = some [.d (.val (.int .u32 v)), .d (.val (.int .i64 sz))] := by
      have := p_cellsF hp (f := fun (x : Nat × Nat) => [DV.val (.int .u32 x.1), .val (.int .i64 x.2)]) (s := 2) (fun _ => rfl) hjf (cs := cs) hcs
      rw [this, ← hv, ← hsz]; rfl
    conv => cbv
    repeat (simp only [e1, e2, e3, e4]; conv => cbv)
    refine loop_p KK hC hF hp (fun (x : Int × List DV × Nat) => ⟨32, [(7, aInt .i64 x.1), (6, .ptr 9 0), (8, .d (.dl cs m none)), (9, aInt .i64 (p.zi m)), (10, aInt .i64 k), (0, .sl 7 0 x.2.2 none)], [(9, .mix [.d (.val (.int .u32 v)), .d (.val (.int .i64 sz))]), (7, .data 5 1 x.2.1 true), (1, .dead)]⟩)
      (fun x => ∃ (i : Nat) (l2 : List UInt8), x.1 + 1 = i ∧ i ≤ 4 ∧ x.2.1 = bytesD l2 ∧ x.2.2 = l2.length ∧ l2 ++ beN fs[j].1 i = l' ++ beN fs[j].1 fs[j].2 ∧ l2.length + i ≤ n0 + 4 * j + 4) (fun x => (x.1 + 1).toNat) (_, _, _)
      (tells_obj [(9, 1302), (7, 7), (1, 1)] rfl rfl ⟨⟨rfl, rfl, rfl⟩, ⟨rfl, rfl, rfl⟩, trivial, trivial⟩ ⟨rfl, rfl, rfl, rfl, rfl, rfl, rfl, rfl, rfl, rfl, rfl, rfl, trivial⟩) ?_ ?_
    · have hfj := hf _ (List.getElem_mem hjf)
      have a1 : p.ar .sub .i64 sz 1 = ((fs[j].2 : Nat) : Int) - 1 := by rw [← hsz, p_sub hp (by omega) (by omega)]
      refine ⟨fs[j].2, l', ?_, hfj.2, h2, h3, rfl, by omega⟩
      show p.ar .sub .i64 sz 1 + 1 = _
      rw [a1]; omega
    rintro ⟨ki, cu2, le2⟩ ⟨i, l2, g1, gi, g2, g3, ginv, glen⟩
    dsimp only at g1 g2 g3
    by_cases hi0 : 0 < i
    · have f1 : p.cmp .geq ki 0 = true := by rw [p_cmp_geq hp]; exact decide_eq_true (by omega)
      obtain ⟨i', rfl⟩ : ∃ i', i = i' + 1 := ⟨i - 1, by omega⟩
      have hki : ki = (i' : Int) := by omega
      have a1 : p.ar .mul .i64 8 ki = ((8 * i' : Nat) : Int) := by rw [hki, p_mul hp (by omega) (by omega)]; omega
      have a2 : p.wr .u8 (p.ar .shr .u32 v (p.ar .mul .i64 8 ki)) = ((UInt8.ofNat (fs[j].1 / 2 ^ (8 * i'))).toNat : Nat) := by
        rw [a1, ← hv, p_shr32 hp (by omega), p_wr8 hp]
      have a3 : p.ar .sub .i64 ki 1 = (i' : Int) - 1 := by rw [hki, p_sub hp (by omega) (by omega)]
      have f2 : p.nn (p.ar .mul .i64 8 ki) = true := by rw [a1]; exact p_nn hp
      have f4 : p.neq (p.nm le2 1) (p.len cu2) = true := p_neq hp (by rw [p_nm hp, p_len hp, g2, g3, bytesD_length]; omega)
      have f5 : p.fit le2 1 1 = true := p_fit hp (by omega) (by show _ ≤ 9223372036854775807; omega)
      conv => cbv
      repeat (simp only [f1, f2, p_len1 hp, p_cut1 hp, p_nm1 hp, p_na01 hp, p_nle11 hp, p_neq00 hp, f4, f5]; conv => cbv)
      refine ⟨(p.ar .sub .i64 ki 1, p.app cu2 [.val (.int .u8 (p.wr .u8 (p.ar .shr .u32 v (p.ar .mul .i64 8 ki))))], p.na le2 1), ⟨i', l2 ++ [UInt8.ofNat (fs[j].1 / 2 ^ (8 * i'))], ?_, by omega, ?_, ?_, ?_, ?_⟩, ?_,
        tells_obj [(9, 9), (7, 1708), (1, 1)] rfl rfl ⟨⟨rfl, rfl, rfl⟩, ⟨rfl, rfl, rfl⟩, trivial, trivial⟩ ⟨rfl, rfl, rfl, rfl, rfl, rfl, rfl, rfl, rfl, rfl, rfl, rfl, trivial⟩⟩
      · show p.ar .sub .i64 ki 1 + 1 = _
        rw [a3]
        exact Int.sub_add_cancel _ _
      · show p.app cu2 _ = _
        rw [p_app hp, g2, bytesD_append, a2]; rfl
      · show p.na le2 1 = _
        rw [p_na hp, g3]; simp
      · rw [← ginv, beN]; simp
      · simp only [List.length_append, List.length_singleton]; omega
      · show (p.ar .sub .i64 ki 1 + 1).toNat < (ki + 1).toNat
        rw [a3, hki]; omega
    · have f1 : p.cmp .geq ki 0 = false := by rw [p_cmp_geq hp]; exact decide_eq_false (by omega)
      have hi00 : i = 0 := by omega
      subst hi00
      have a3 : p.ar .add .i64 k 1 = ((j + 1 : Nat) : Int) := by rw [h1, p_add hp (by omega) (by omega)]; rfl
      conv => cbv
      repeat (simp only [f1]; conv => cbv)
      refine ⟨(p.ar .add .i64 k 1, cu2, le2), ⟨j + 1, l2, a3, by omega, g2, g3, ?_, by omega⟩, ?_,
        tells_obj [(7, 7), (1, 1)] rfl rfl ⟨⟨rfl, rfl, rfl⟩, trivial, trivial⟩ ⟨rfl, rfl, rfl, rfl, rfl, rfl, rfl, rfl, trivial⟩⟩
      · rw [← hinv, List.drop_eq_getElem_cons hjf]
        rw [beN, List.append_nil] at ginv
        rw [ginv]
        unfold enc
        rw [List.flatMap_cons, List.append_assoc]
      · show m - (p.ar .add .i64 k 1).toNat < m - k.toNat
        rw [a3, h1]; omega
  · have e1 : p.cmp .lss k (p.zi m) = false := by rw [p_cmp_lss hp, p_zi hp, h1]; exact decide_eq_false (by omega)
    conv => cbv
    repeat (simp only [e1]; conv => cbv)
    have hjm : fs.drop j = [] := by rw [List.drop_eq_nil_iff]; omega
    rw [hjm] at hinv
    have hll : l' = l ++ enc fs := by rw [← hinv]; unfold enc; simp
    have q1 : cur = c1 := by rw [h2, hll, hc1]
    have q2 : len = n1 := by rw [h3, hll, hn1]
    rw [q1, q2]
    exact back_obj [(2, 7), (1, 1)] rfl rfl ⟨⟨rfl, rfl, rfl⟩, trivial, trivial⟩ rfl rfl
end Go.Proofs.Ytmkbnmjhkghdjaa
