/- The abstract machine: contracts and loops, the reckoning set apart. -/
import Derived.Test.YtmkbnmjhkghdjaaH25
set_option linter.unusedVariables false
set_option linter.unusedSimpArgs false
namespace Go.Proofs.Ytmkbnmjhkghdjaa
open Go.RowKit

section
variable {P : Program} {GL : Nat → Option (List DV)} {L : List (List (Option TI))} {cs : List Nat}
/-- **A function's contract.** -/
theorem does_p (K : Facts P L cs) {f : FuncId} {fn : Func} {c : Code} (hf : P.funcs[f]? = some fn) (hb : fn.body = some c) {args : List AV} (hn : args.length ≤ fn.ntmps) {os : List (Nat × AO)} {v : AV} {us : List (Nat × AO)}
    (h : ∀ C F p, C = cxtOf P GL fn.ntmps (lookF os) → F = tiOf P → p = real → acodeP p C (tabF F L) GL (qOf cs) fn.ntmps c (retQ (tabF F L) fn os v us) ⟨fn.ntmps, argTm 0 args, os⟩) : DoesO P GL f args os v us :=
  does_tab K hf hb hn (fun C F hC hF => by rw [← acodeP_real]; exact h C F real hC hF rfl)
/-- **A loop.** -/
theorem loop_p (K : Facts P L cs) {N : Nat} {hp0 : Nat → Option AO} {C : Cxt} {F : Ty} {p : Pr} (hC : C = cxtOf P GL N hp0) (hF : F = tiOf P) (hp : p = real) {c : Code} {Q : Exit → SL → Prop} {s : SL} {ι : Type} (st : ι → SL) (I : ι → Prop) (μ : ι → Nat) (x0 : ι) (h0 : Tells GL N hp0 s.S (st x0).S) (hI : I x0)
    (round : ∀ x, I x → acodeP p C (tabF F L) GL (qOf cs) N c (seqQ (fun s' => ∃ x', I x' ∧ μ x' < μ x ∧ Tells GL N hp0 s'.S (st x').S) Q) (st x)) : C.L (.loop c) Q s := by
  subst hp
  exact loop_tab K hC hF st I μ x0 h0 hI (fun x hx => by rw [← acodeP_real]; exact round x hx)
end
/-- The temporaries that are kept: as they are, without an object. -/
def TmOk (s : SL) : List (Nat × AV) → Prop
  | [] => True
  | (t, v) :: l => s.get t = v ∧ v.plain = true ∧ TmOk s l
theorem tmOk_mem {s : SL} : ∀ {l : List (Nat × AV)}, TmOk s l → ∀ x ∈ l, s.get x.1 = x.2 ∧ x.2.plain = true
  | [], _, x, hx => by cases hx
  | (t, v) :: l, h, x, hx => by
    rcases List.mem_cons.1 hx with rfl | hx
    · exact ⟨h.1, h.2.1⟩
    · exact tmOk_mem h.2.2 x hx
/-- The same state with fewer temporaries and no object. -/
theorem tells_bare {GL : Nat → Option (List DV)} {N : Nat} {s : SL} {n : Nat} {tm : List (Nat × AV)} (h : TmOk s tm) : Tells GL N (lookF []) s.S (⟨n, tm, []⟩ : SL).S :=
  tells_of (fun _ => none) (fun r o h => by cases h) ⟨fun r o h => (by cases h), fun r r' o o' x h => (by cases h)⟩ (fun x hx => by
    obtain ⟨h1, h2⟩ := tmOk_mem h x hx
    rw [h1]
    exact wkV_refl x.2 h2)
section
variable {p : Pr} (hp : p = real)
include hp
theorem p_cmp_lss {a b : Int} : p.cmp .lss a b = decide (a < b) := by rw [hp]; rfl
theorem p_cmp_leq {a b : Int} : p.cmp .leq a b = decide (a ≤ b) := by rw [hp]; rfl
theorem p_cmp_gtr {a b : Int} : p.cmp .gtr a b = decide (a > b) := by rw [hp]; rfl
theorem p_cmp_geq {a b : Int} : p.cmp .geq a b = decide (a ≥ b) := by rw [hp]; rfl
theorem p_cmp_eql {a b : Int} : p.cmp .eql a b = decide (a = b) := by rw [hp]; rfl
theorem p_cmp_neq {a b : Int} : p.cmp .neq a b = decide (a ≠ b) := by
  rw [hp]; show (a != b) = _
  by_cases h : a = b <;> simp [h]
theorem p_ix {i : Int} {n j : Nat} (h : i = j) (hj : j < n) : p.ix i n = some j := by
  subst hp h
  show (if 0 ≤ (j : Int) ∧ (j : Int) < n then some (j : Int).toNat else none) = some j
  rw [if_pos (by omega)]; rfl
theorem p_ixle {i : Int} {n j : Nat} (h : i = j) (hj : j ≤ n) : p.ixle i n = some j := by
  subst hp h
  show (if 0 ≤ (j : Int) ∧ (j : Int) ≤ n then some (j : Int).toNat else none) = some j
  rw [if_pos (by omega)]; rfl
omit hp in
theorem wrap_i64 {n : Int} (h1 : -9223372036854775808 ≤ n) (h2 : n ≤ 9223372036854775807) : IntKind.wrap .i64 n = n := by
  show (if (true && decide (n % 18446744073709551616 ≥ 9223372036854775808)) = true then n % 18446744073709551616 - 18446744073709551616 else n % 18446744073709551616) = n
  simp only [Bool.true_and, decide_eq_true_eq]
  split <;> omega
theorem p_add {a b : Int} (h1 : -9223372036854775808 ≤ a + b) (h2 : a + b ≤ 9223372036854775807) : p.ar .add .i64 a b = a + b := by rw [hp]; exact wrap_i64 h1 h2
theorem p_sub {a b : Int} (h1 : -9223372036854775808 ≤ a - b) (h2 : a - b ≤ 9223372036854775807) : p.ar .sub .i64 a b = a - b := by rw [hp]; exact wrap_i64 h1 h2
theorem p_mul {a b : Int} (h1 : -9223372036854775808 ≤ a * b) (h2 : a * b ≤ 9223372036854775807) : p.ar .mul .i64 a b = a * b := by rw [hp]; exact wrap_i64 h1 h2
end
section
variable {p : Pr} (hp : p = real)
include hp
theorem p_zi {n : Nat} : p.zi n = (n : Int) := by rw [hp]; rfl
theorem p_nm {a b : Nat} : p.nm a b = a * b := by rw [hp]; rfl
theorem p_na {a b : Nat} : p.na a b = a + b := by rw [hp]; rfl
theorem p_ns {a b : Nat} : p.ns a b = a - b := by rw [hp]; rfl
theorem p_emp {cs : List DV} (h : cs ≠ []) : p.emp cs = false := by rw [hp]; cases cs with | nil => exact absurd rfl h | cons _ _ => rfl
theorem p_cell {cs : List DV} {o : Nat} {x : DV} (h : cs[o]? = some x) : p.cell cs o = some x := by rw [hp]; exact h
theorem p_cellB {l : List UInt8} {j : Nat} (h : j < l.length) : p.cell (bytesD l) (p.nm j 1) = some (.val (.int .u8 (l[j].toNat : Nat))) := by
  rw [p_nm hp, Nat.mul_one]
  refine p_cell hp ?_
  unfold bytesD
  rw [List.getElem?_map, List.getElem?_eq_getElem h]; rfl
omit hp in
theorem wrap_u32 {n : Int} (h1 : 0 ≤ n) (h2 : n < 4294967296) : IntKind.wrap .u32 n = n := by
  show (if (false && decide (n % 4294967296 ≥ 2147483648)) = true then n % 4294967296 - 4294967296 else n % 4294967296) = n
  simp only [Bool.false_and, Bool.false_eq_true, if_false]
  omega
theorem p_xor32 {a b : Nat} (ha : a < 4294967296) (hb : b < 4294967296) : p.ar .xor .u32 a b = ((a ^^^ b : Nat) : Int) := by
  rw [hp]
  show IntKind.wrap .u32 (BitVec.ofInt 32 a ^^^ BitVec.ofInt 32 b).toNat = _
  have e : (BitVec.ofInt 32 (a : Int) ^^^ BitVec.ofInt 32 (b : Int)).toNat = a ^^^ b := by
    rw [BitVec.toNat_xor]
    simp only [BitVec.ofInt_natCast, BitVec.toNat_ofNat]
    rw [Nat.mod_eq_of_lt (by omega), Nat.mod_eq_of_lt (by omega)]
  rw [e]
  have : a ^^^ b < 2 ^ 32 := Nat.xor_lt_two_pow (by omega) (by omega)
  exact wrap_u32 (by omega) (by omega)
theorem p_and32 {a b : Nat} (ha : a < 4294967296) (hb : b < 4294967296) : p.ar .and .u32 a b = ((a &&& b : Nat) : Int) := by
  rw [hp]
  show IntKind.wrap .u32 (BitVec.ofInt 32 a &&& BitVec.ofInt 32 b).toNat = _
  have e : (BitVec.ofInt 32 (a : Int) &&& BitVec.ofInt 32 (b : Int)).toNat = a &&& b := by
    rw [BitVec.toNat_and]
    simp only [BitVec.ofInt_natCast, BitVec.toNat_ofNat]
    rw [Nat.mod_eq_of_lt (by omega), Nat.mod_eq_of_lt (by omega)]
  rw [e]
  have : a &&& b < 2 ^ 32 := Nat.and_lt_two_pow _ (by omega)
  exact wrap_u32 (by omega) (by omega)
theorem p_quo32 {a b : Nat} (ha : a < 4294967296) : p.ar .quo .u32 a b = ((a / b : Nat) : Int) := by
  rw [hp]
  show IntKind.wrap .u32 ((a : Int).tdiv b) = _
  have e : (a : Int).tdiv b = ((a / b : Nat) : Int) := rfl
  rw [e]
  have := Nat.div_le_self a b
  generalize a / b = d at *
  exact wrap_u32 (by omega) (by omega)
end
section
variable {p : Pr} (hp : p = real)
include hp
theorem p_wr32 {a : Int} (h1 : 0 ≤ a) (h2 : a < 4294967296) : p.wr .u32 a = a := by rw [hp]; exact wrap_u32 h1 h2
theorem p_not32 {a : Nat} (ha : a < 4294967296) : p.un .xor .u32 a = ((a ^^^ 4294967295 : Nat) : Int) := by
  have := p_xor32 (p := p) (a := 4294967295) hp (by omega) ha
  rw [Nat.xor_comm, ← this, hp]; rfl
end
theorem p_rem {p : Pr} (hp : p = real) {k : IntKind} {a b : Nat} : p.ar .rem k a b = ((a % b : Nat) : Int) := by rw [hp]; rfl
end Go.Proofs.Ytmkbnmjhkghdjaa
