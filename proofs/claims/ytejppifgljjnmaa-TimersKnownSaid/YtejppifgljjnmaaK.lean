/- 'make([]T, n)': n zero elements. -/
import Derived.Test.YtejppifgljjnmaaB
set_option linter.unusedVariables false
set_option linter.unusedSimpArgs false
namespace Go.Proofs.Ytejppifgljjnmaa
open Go.RowKit

theorem madeCells_list (z : Array Value) (s : Nat) (hs : z.size = s) (hp : 0 < s) : ∀ n, (madeCells z (n * s)).toList = (List.replicate n z.toList).flatten
  | 0 => by simp [madeCells]
  | n + 1 => by
    have ih := madeCells_list z s hs hp n
    simp only [madeCells, Array.toList_map, Array.toList_range] at ih ⊢
    rw [List.replicate_succ', List.flatten_append, ← ih, Nat.add_mul, Nat.one_mul, List.range_add, List.map_append, List.map_map]
    congr 1
    apply List.ext_getElem?
    intro j
    simp only [List.flatten_cons, List.flatten_nil, List.append_nil, List.getElem?_map, Array.getElem?_toList]
    by_cases hj : j < s
    · rw [List.getElem?_range hj]
      simp only [Option.map_some, Function.comp, hs, Nat.mul_add_mod_of_lt, Nat.mul_comm n s, Nat.mul_add_mod, Nat.mod_eq_of_lt hj]
      rw [Array.getElem?_eq_getElem (by omega), getElem!_pos z j (by omega)]
    · rw [List.getElem?_eq_none (by simp; omega), Array.getElem?_eq_none (by omega)]
      rfl

/-- An operation whose guard is open stands as one without a guard. -/
theorem wpList_unguard {P : Program} {ops : Array Oper} {rest : List Oper} {a : Act} {w : World} {Q : Exit → Act → World → Prop} {o : Oper} (hw : Region.wanted o (yielded ops a.tmps) = true)
    (h : wpList P ops Q ({ o with guard := none } :: rest) a w) : wpList P ops Q (o :: rest) a w := by
  unfold wpList at h ⊢
  rw [if_pos hw]
  rw [if_pos (by simp [Region.wanted])] at h
  exact h

/-- 'make([]T, n)', n a literal. -/
theorem wpList_makeN {P : Program} {t e : TypeId} {size bytes : Nat} (ET : ElemTy P t e size bytes) {α : Type} (enc : α → List Value) (x0 : α) (hz : ∃ z, (P.info? e).map (·.zero) = some (some z) ∧ z.cells.toList = enc x0) (w : World) {ops : Array Oper} {rest : List Oper} {o : Oper} {a : Act} {Q : Exit → Act → World → Prop} (hgd : o.guard = none) (l c : Operand)
    (hop : o.op = Op.makeSlice t l c) (base : Nat) (kl kc : IntKind) (L C : Int) (n : Nat) (hl : a.eval l = .int kl L) (hc : a.eval c = .int kc C) (hL : L = (n : Int)) (hC : C = (n : Int)) (b2 : bytes * n ≤ 281474976710656) (b3 : n ≤ maxLen) (b4 : base ≤ w.heap.size)
    (h : ∀ w', OwnL enc e size w' base (.slice (some ⟨w.heap.size, 0, none⟩) n n) (List.replicate n x0) → Below base w w' → w.grownBy w' none → wpList P ops Q rest (a.put o.dst (.slice (some ⟨w.heap.size, 0, none⟩) n n)) w') : wpList P ops Q (o :: rest) a w := by
  obtain ⟨i, z, hi, hzz, hsz, hby, hzs⟩ := ET.info
  obtain ⟨z', hz', hze⟩ := hz
  rw [hi] at hz'
  have e1 : i.zero = some z' := by simpa using hz'
  have e2 : z = z' := by rw [hzz] at e1; exact Option.some.inj e1
  subst e2
  refine wpList_make_full w hgd l c t hop base e i z size ET.ht hi hzz hsz kl kc L C n hl hc hL hC (by rw [hby]; exact b2) b3 b4 ?_
  intro w' hown hg
  refine h w' ?_ ((Below.refl base w).grown hg b4 (by simp)) hg
  rw [madeCells_list z.cells size hzs ET.pos n, hze] at hown
  show w'.ownsRow base e size _ (List.replicate n x0).length ((List.replicate n x0).flatMap enc)
  rw [List.length_replicate, List.flatMap_def, List.map_replicate]
  exact hown
end Go.Proofs.Ytejppifgljjnmaa
