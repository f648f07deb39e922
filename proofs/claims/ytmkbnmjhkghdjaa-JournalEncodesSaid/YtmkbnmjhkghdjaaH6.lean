/- The abstract machine: arithmetic, comparison, slicing; all operations that look into no object. -/
import Derived.Test.YtmkbnmjhkghdjaaH5
import Derived.Laws.StructEq
set_option linter.unusedVariables false
set_option linter.unusedSimpArgs false
namespace Go.Proofs.Ytmkbnmjhkghdjaa
open Go.RowKit

section
variable {P : Program} {E : En} {lk : Nat → Option AK} {ρ : Operand → AV} {ev : Operand → Value} {w : World}
set_option maxHeartbeats 1000000 in
theorem binV_sim {op : BinOp} {t : Nat} {x y v : Value} (h : binV op x y = some v) : (binOp op t x y).run P w = .ok v w ∧ v.oneCell' = true := by
  unfold binV at h
  split at h
  all_goals first
    | (cases h; done)
    | (split at h
       · rename_i hc
         first
           | (simp only [Option.some.injEq] at h; subst h; refine ⟨?_, rfl⟩
              have h1 := Int.not_lt.2 hc
              simp [binOp, Op.shift, go_sem, h1]; done)
           | (subst hc; simp only [Option.some.injEq] at h; subst h
              refine ⟨?_, rfl⟩
              simp [binOp, Op.intArith, Op.intBits, Op.intCmp, go_sem]; done)
           | (subst hc; split at h
              · cases h
              · rename_i hn
                simp only [Option.some.injEq] at h; subst h
                refine ⟨?_, rfl⟩
                simp [binOp, Op.intDiv, go_sem, hn]; done)
           | (simp only [Option.some.injEq] at h; subst h; refine ⟨?_, rfl⟩
              simp [binOp, Op.stringOp, go_sem]; omega)
       · cases h)
    | (simp only [Option.some.injEq] at h; subst h; refine ⟨?_, rfl⟩
       simp [binOp, Op.stringOp, Op.equal, Op.equalIn, go_sem]; done)
    | skip
  · split at h
    · rename_i hc
      simp only [Option.some.injEq] at h; subst h
      refine ⟨?_, rfl⟩
      simp only [binOp, Op.stringOp]
      rw [if_neg (Int.not_lt.2 hc)]
      rfl
    · cases h
theorem eqGuard_val {op : BinOp} {t : Nat} {xo yo : Operand} {x y v : Value} (h : binV op x y = some v) : (eqGuard op t xo yo x y).run P w = .ok () w := by
  unfold eqGuard
  unfold binV at h
  split at h <;> first | (cases h; done) | simp [go_sem]
theorem equalIn_bool {t : Nat} (hd : P.underlying t = some .bool) (n : Nat) (a b : Bool) : (Op.equalIn (n + 1) t (.bool a) (.bool b)).run P w = .ok (a == b) w := by
  rw [Op.equalIn]
  simp [go_sem, run_underlying hd]
theorem binBool_sim {t : Nat} {i : TI} (ht : tiOf P t = some i) (hk : i.k = .bool) (a b : Bool) : (binOp .eql t (.bool a) (.bool b)).run P w = .ok (.bool (a == b)) w ∧ (binOp .neq t (.bool a) (.bool b)).run P w = .ok (.bool (a != b)) w := by
  obtain ⟨d, hd, hk'⟩ := run_under ht
  rw [hk] at hk'
  cases d <;> simp only [atOf] at hk' <;> try (cases hk'; done)
  have h2 : (Op.equal t (.bool a) (.bool b)).run P w = .ok (a == b) w := equalIn_bool hd 9999 a b
  have e1 : binOp .eql t (.bool a) (.bool b) = (do pure (.bool (← Op.equal t (.bool a) (.bool b)))) := rfl
  have e2 : binOp .neq t (.bool a) (.bool b) = (do pure (.bool (!(← Op.equal t (.bool a) (.bool b))))) := rfl
  rw [e1, e2]
  generalize Op.equal t (.bool a) (.bool b) = e at *
  constructor <;> simp [go_sem, h2, bne]
theorem binNil_sim {t e : Nat} {i : TI} (ht : tiOf P t = some i) (hk : i.k = .slice e) (A : Option Addr) (n c : Nat) : (binOp .eql t (.slice A n c) (.slice none 0 0)).run P w = .ok (.bool A.isNone) w ∧ (binOp .neq t (.slice A n c) (.slice none 0 0)).run P w = .ok (.bool (!A.isNone)) w := by
  obtain ⟨d, hd, hk'⟩ := run_under ht
  rw [hk] at hk'
  cases d <;> simp only [atOf] at hk' <;> try (cases hk'; done)
  have h2 : (Op.equal t (.slice A n c) (.slice none 0 0)).run P w = .ok A.isNone w := by
    unfold Op.equal
    rw [show Op.maxDepth = 9999 + 1 from rfl]
    unfold Op.equalIn
    cases A <;> simp [go_sem, run_underlying hd]
  have e1 : binOp .eql t (.slice A n c) (.slice none 0 0) = (do pure (.bool (← Op.equal t (.slice A n c) (.slice none 0 0)))) := rfl
  have e2 : binOp .neq t (.slice A n c) (.slice none 0 0) = (do pure (.bool (!(← Op.equal t (.slice A n c) (.slice none 0 0))))) := rfl
  rw [e1, e2]
  generalize Op.equal t (.slice A n c) (.slice none 0 0) = e at *
  constructor <;> simp [go_sem, h2]
theorem eqGuard_slice {op : BinOp} {t : Nat} {xo yo : Operand} {A B : Option Addr} {n c n' c' : Nat} : (eqGuard op t xo yo (.slice A n c) (.slice B n' c')).run P w = .ok () w := by
  unfold eqGuard
  cases op <;> simp [go_sem]
theorem eqGuard_bool {op : BinOp} {t : Nat} {xo yo : Operand} (a b : Bool) : (eqGuard op t xo yo (.bool a) (.bool b)).run P w = .ok () w := by
  unfold eqGuard
  cases op <;> simp [go_sem]
theorem unV_sim {op : UnOp} {x v : Value} (h : unV op x = some v) : (Op.unary op x).run P w = .ok v w ∧ v.oneCell' = true := by
  unfold unV at h
  split at h
  · simp only [Option.some.injEq] at h; subst h
    exact ⟨by simp [Op.unary, Op.intArith, go_sem], rfl⟩
  · simp only [Option.some.injEq] at h; subst h
    exact ⟨by simp [Op.unary, go_sem], rfl⟩
  · simp only [Option.some.injEq] at h; subst h
    exact ⟨by simp [Op.unary, Op.intBits, go_sem], rfl⟩
  · cases h
theorem convert_sim {src dst : Nat} {si di : TI} (hs : tiOf P src = some si) (hd : tiOf P dst = some di) {k : IntKind} (hk : di.k = .int k) (k0 k1 : IntKind) (n : Int) : (convert src dst (.int k0 n)).run P w = .ok (.int k (k.wrap n)) w := by
  obtain ⟨d, hdd, hk'⟩ := run_under hd
  obtain ⟨e, hee, _⟩ := run_under hs
  rw [hk] at hk'
  cases d <;> simp only [atOf] at hk' <;> try (cases hk'; done)
  simp only [AT.int.injEq] at hk'
  subst hk'
  simp [convert, go_sem, run_underlying hdd, run_underlying hee, Conv.intToInt]
theorem convert_str {src dst : Nat} {si di : TI} (hs : tiOf P src = some si) (hd : tiOf P dst = some di) (hk0 : si.k = .str) (hk : di.k = .str) (s : ByteArray) : (convert src dst (.string s)).run P w = .ok (.string s) w := by
  obtain ⟨d, hdd, hk'⟩ := run_under hd
  obtain ⟨e, hee, hk2⟩ := run_under hs
  rw [hk] at hk'
  rw [hk0] at hk2
  cases d <;> simp only [atOf] at hk' <;> try (cases hk'; done)
  cases e <;> simp only [atOf] at hk2 <;> try (cases hk2; done)
  simp [convert, go_sem, run_underlying hdd, run_underlying hee]
theorem index_str {t : Nat} {i : TI} (ht : tiOf P t = some i) (hk : i.k = .str) (s : ByteArray) (k : IntKind) (j : Int) (hj : 0 ≤ j) {b : UInt8} (hb : s.data.toList[j.toNat]? = some b) : (Instr.index t (.string s) (.int k j)).run P w = .ok (.int .u8 b.toNat) w := by
  obtain ⟨d, hd, hk'⟩ := run_under ht
  rw [hk] at hk'
  cases d <;> simp only [atOf] at hk' <;> try (cases hk'; done)
  have hb' : s[j.toNat]? = some b := by
    rw [Array.getElem?_toList] at hb
    obtain ⟨h1, h2⟩ := Array.getElem?_eq_some_iff.1 hb
    rw [getElem?_pos (h := by exact h1)]
    exact congrArg some h2
  simp [Instr.index, go_sem, run_underlying hd, asIntOf, hj, hb']
theorem index_arr {t n e : Nat} {i ei : TI} (ht : tiOf P t = some i) (hk : i.k = .arr n e) (hei : tiOf P e = some ei) (vs : Array Value) (j : Nat) (k : IntKind) (hj : j < n) {cs : List AV} (hc : RelL E cs vs.toList) {v : AV} (h : partA ei cs (j * ei.size) = some v) :
    ∃ u, (Instr.index t (.agg vs) (.int k j)).run P w = .ok u w ∧ Rel E v u := by
  obtain ⟨d, hd, hk'⟩ := run_under ht
  rw [hk] at hk'
  cases d <;> simp only [atOf] at hk' <;> try (cases hk'; done)
  simp only [AT.arr.injEq] at hk'
  obtain ⟨rfl, rfl⟩ := hk'
  obtain ⟨u, hu, hr⟩ := part_sim (w := w) hei hc h
  refine ⟨u, ?_, hr⟩
  have h1 : (j : Int) < n := by omega
  have hu' := hu
  simp [part, go_sem, run_sizeOf hei] at hu'
  simp [Instr.index, go_sem, run_underlying hd, asIntOf, h1, hj, run_sizeOf hei, hu']
/-- The structs that may be compared. -/
def QOk (P : Program) (q : Nat → Bool) : Prop := ∀ t, q t = true → P.stoodInHeld t = false ∧ ∀ f ∈ (P.fieldsOf t).toList, f.name ≠ "_"
theorem eqLeaf_sim {ft : Nat} {fi : TI} (hft : tiOf P ft = some fi) {x y : AV} {b : Bool} (h : eqLeaf fi.k x y = some b) {u v : Value} (hx : Rel E x u) (hy : Rel E y v) (n : Nat) : (Op.equalIn (n + 1) ft u v).run P w = .ok b w := by
  obtain ⟨d, hd, hk⟩ := run_under hft
  unfold eqLeaf at h
  split at h
  · rename_i k1 k a k' c hk1
    split at h
    · rename_i hkk
      subst hkk
      simp only [Option.some.injEq] at h
      subst h
      rw [rel_val hx, rel_val hy]
      rw [hk1] at hk
      cases d <;> simp only [atOf] at hk <;> try (cases hk; done)
      exact run_equalIn_int w n ft _ _ _ _ hd
    · cases h
  · rename_i a c hk1
    simp only [Option.some.injEq] at h
    subst h
    rw [rel_val hx, rel_val hy]
    rw [hk1] at hk
    cases d <;> simp only [atOf] at hk <;> try (cases hk; done)
    exact run_equalIn_bool' w n ft _ _ hd
  · rename_i a c hk1
    simp only [Option.some.injEq] at h
    subst h
    rw [rel_val hx, rel_val hy]
    rw [hk1] at hk
    cases d <;> simp only [atOf] at hk <;> try (cases hk; done)
    exact run_equalIn_string w n ft _ _ hd
  · cases h
theorem leaf_not_agg {k : AT} (h : k.leaf = true) : k.isAgg = false := by cases k <;> simp [AT.leaf] at h <;> rfl
theorem eqF_sim {q : Nat → Bool} {sub : Nat → List AV → List AV → Option Bool} (d : Nat)
    (hsub : ∀ t xs ys b, sub t xs ys = some b → ∀ us vs : Array Value, RelL E xs us.toList → RelL E ys vs.toList → (Op.equalIn (d + 1) t (.agg us) (.agg vs)).run P w = .ok b w)
    (hagg : ∀ t xs ys b, sub t xs ys = some b → ∃ i, tiOf P t = some i ∧ i.k.isAgg = true) :
    ∀ (fs : List Field), (∀ f ∈ fs, f.name ≠ "_") → ∀ (xs ys : List AV) (us vs : Array Value) (b : Bool), RelL E xs us.toList → RelL E ys vs.toList →
      eqA.eqF (tiOf P) q sub (fs.map fun f => (f.offset, f.type)) xs ys = some b → (Op.eqFields (d + 1) us vs fs).run P w = .ok b w
  | [], _, xs, ys, us, vs, b, hx, hy, h => by
    simp only [List.map_nil, eqA.eqF, Option.some.injEq] at h
    subst h
    simp [Op.eqFields]
  | f :: fs, hn, xs, ys, us, vs, b, hx, hy, h => by
    have hn1 := hn f List.mem_cons_self
    simp only [List.map_cons, eqA.eqF] at h
    split at h
    · cases h
    · rename_i fi hft
      split at h
      · rename_i a c ha hc
        simp only [Option.some.injEq] at h
        subst h
        have ih := eqF_sim d hsub hagg fs (fun g hg => hn g (List.mem_cons_of_mem _ hg)) xs ys us vs c hx hy hc
        have key : ∃ u v, (part f.type us f.offset).run P w = .ok u w ∧ (part f.type vs f.offset).run P w = .ok v w ∧ (Op.equalIn (d + 1) f.type u v).run P w = .ok a w := by
          by_cases hl : fi.k.leaf = true
          · rw [if_pos hl] at ha
            split at ha
            · rename_i x y hx1 hy1
              have p1 : partA fi xs f.offset = some x := by unfold partA; rw [leaf_not_agg hl]; exact hx1
              have p2 : partA fi ys f.offset = some y := by unfold partA; rw [leaf_not_agg hl]; exact hy1
              obtain ⟨u, hu, hru⟩ := part_sim (w := w) hft hx p1
              obtain ⟨v, hv, hrv⟩ := part_sim (w := w) hft hy p2
              exact ⟨u, v, hu, hv, eqLeaf_sim hft ha hru hrv d⟩
            · cases ha
          · rw [if_neg hl] at ha
            obtain ⟨i, hi, hia⟩ := hagg _ _ _ _ ha
            obtain rfl : i = fi := by rw [hft] at hi; exact (Option.some.inj hi).symm
            have ex : ∀ zs : Array Value, (part f.type zs f.offset).run P w = .ok (.agg (zs.extract f.offset (f.offset + i.size))) w := fun zs => by
              simp [part, go_sem, run_isAgg hft, hia, run_sizeOf hft]
            have dt : ∀ (l : List AV) (zs : Array Value), RelL E l zs.toList → RelL E ((l.drop f.offset).take i.size) (zs.extract f.offset (f.offset + i.size)).toList := fun l zs hz => by
              rw [Array.toList_extract, List.extract_eq_take_drop]
              have := relL_take i.size _ _ (relL_drop f.offset _ _ hz)
              simpa using this
            exact ⟨_, _, ex us, ex vs, hsub _ _ _ _ ha _ _ (dt xs us hx) (dt ys vs hy)⟩
        obtain ⟨u, v, k1, k2, k3⟩ := key
        simp only [Op.eqFields, hn1, ne_eq, not_false_eq_true, if_true, Sem.run_bind, k1, k2, k3, Result.andThen_ok]
        cases a
        · simp
        · simp [ih]
      · cases h
theorem eqA_agg {q : Nat → Bool} {n t : Nat} {xs ys : List AV} {b : Bool} (h : eqA (tiOf P) q n t xs ys = some b) : ∃ i, tiOf P t = some i ∧ i.k.isAgg = true := by
  cases n with
  | zero => cases h
  | succ n =>
    simp only [eqA] at h
    split at h
    · cases h
    · rename_i i hi
      split at h
      · rename_i fs hfs
        exact ⟨i, hi, by rw [hfs]; rfl⟩
      · cases h
theorem eqA_sim {q : Nat → Bool} (hq : QOk P q) : ∀ (n t : Nat) (xs ys : List AV) (b : Bool), eqA (tiOf P) q n t xs ys = some b → ∀ us vs : Array Value, RelL E xs us.toList → RelL E ys vs.toList → ∀ d, n ≤ d → (Op.equalIn (d + 1) t (.agg us) (.agg vs)).run P w = .ok b w
  | 0, _, _, _, _, h => by cases h
  | n + 1, t, xs, ys, b, h => by
    intro us vs hx hy d hd
    simp only [eqA] at h
    split at h
    · cases h
    · rename_i i hi
      split at h
      · rename_i fs hfs
        split at h
        · rename_i hqt
          obtain ⟨d0, hd0, hk⟩ := run_under hi
          rw [hfs] at hk
          cases d0 <;> simp only [atOf] at hk <;> try (cases hk; done)
          rename_i fields
          simp only [AT.agg.injEq] at hk
          subst hk
          have hfo : P.fieldsOf t = fields := by simp [Program.fieldsOf, hd0]
          obtain ⟨e, rfl⟩ : ∃ e, d = e + 1 := ⟨d - 1, by omega⟩
          rw [run_equalIn_struct w (e + 1) t us vs (by rw [hfo]; exact hd0) (hq t hqt).1, hfo]
          exact eqF_sim e (fun t xs ys b hb us vs hx hy => eqA_sim hq n t xs ys b hb us vs hx hy e (by omega)) (fun t xs ys b hb => eqA_agg hb) fields.toList (by have := (hq t hqt).2; rw [hfo] at this; exact this) xs ys us vs b hx hy h
        · cases h
      · cases h
/-- A struct that may be compared holds no interface. -/
theorem eqF_guard {q : Nat → Bool} {sub : Nat → List AV → List AV → Option Bool} (d : Nat) (hsub : ∀ t xs ys b, sub t xs ys = some b → P.eqGuardType d t = false) : ∀ (fs : List Field) (xs ys : List AV) (b : Bool),
    eqA.eqF (tiOf P) q sub (fs.map fun f => (f.offset, f.type)) xs ys = some b → 0 < d → ∀ f ∈ fs, P.eqGuardType d f.type = false
  | [], _, _, _, _, _, f, hf => by cases hf
  | g :: fs, xs, ys, b, h, hd, f, hf => by
    simp only [List.map_cons, eqA.eqF] at h
    split at h
    · cases h
    · rename_i fi hft
      split at h
      · rename_i a c ha hc
        rcases List.mem_cons.1 hf with rfl | hf
        · by_cases hl : fi.k.leaf = true
          · obtain ⟨d0, hd0, hk⟩ := run_under hft
            rw [hk] at hl
            obtain ⟨e, rfl⟩ : ∃ e, d = e + 1 := ⟨d - 1, by omega⟩
            unfold Program.eqGuardType
            rw [hd0]
            cases d0 <;> simp [atOf, AT.leaf] at hl ⊢
          · rw [if_neg hl] at ha
            exact hsub _ _ _ _ ha
        · exact eqF_guard d hsub fs xs ys c hc hd f hf
      · cases h
theorem eqA_guard {q : Nat → Bool} : ∀ (n t : Nat) (xs ys : List AV) (b : Bool), eqA (tiOf P) q n t xs ys = some b → ∀ d, n < d → P.eqGuardType d t = false
  | 0, _, _, _, _, h => by cases h
  | n + 1, t, xs, ys, b, h => by
    intro d hd
    simp only [eqA] at h
    split at h
    · cases h
    · rename_i i hi
      split at h
      · rename_i fs hfs
        split at h
        · rename_i hqt
          obtain ⟨d0, hd0, hk⟩ := run_under hi
          rw [hfs] at hk
          cases d0 <;> simp only [atOf] at hk <;> try (cases hk; done)
          rename_i fields
          simp only [AT.agg.injEq] at hk
          subst hk
          obtain ⟨e, rfl⟩ : ∃ e, d = e + 1 := ⟨d - 1, by omega⟩
          have hg := eqF_guard e (fun t xs ys b hb => eqA_guard n t xs ys b hb e (by omega)) fields.toList xs ys b h (by omega)
          unfold Program.eqGuardType
          rw [hd0]
          simp only [Array.any_eq_false']
          intro f hf
          simp [hg f (Array.mem_toList_iff.2 hf)]
        · cases h
      · cases h
end
end Go.Proofs.Ytmkbnmjhkghdjaa
