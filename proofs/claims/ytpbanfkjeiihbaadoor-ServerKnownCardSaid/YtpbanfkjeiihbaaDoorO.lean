/- Arguments opened: slices of structs of integers. -/
import Derived.Test.YtpbanfkjeiihbaaDoorB
import Derived.ProofKit
import Derived.Deep.Slices
import Derived.Deep.Fields
import Derived.ChangeSame
set_option linter.unusedVariables false
set_option linter.unusedSimpArgs false
namespace Go.Proofs.YtpbanfkjeiihbaaDoor
open Go.ChangeShapes Go.WideShapes Go.Deep Go.RowKit

section
variable {H : Type} {ec : TypeId × Value → H} {P : Program} {w : World} {base : Nat} {spare : Nat → Bool} {held : Bool}
/-- A slice of structs whose fields are integers: it reads as a list. -/
theorem open_flat {α : Type} (enc : α → List Value) (n : Nat) (ks : Nat → IntKind) (mk : (Nat → Int) → α) (henc : ∀ f, enc (mk f) = (List.range n).map fun j => Value.int (ks j) (f j)) (hpos : 0 < n)
    {t e : TypeId} {fs : Array Field} {v : Value} {fuel : Nat} {x : DataW H × List MemPlace} (ht : P.underlying t = some (.slice e)) (he : P.underlying e = some (.struct fs))
    (hone : oneCellFields P fs = true) (hC : P.cellsOf e = fs.size) (hn : fs.size = n) (hk : ∀ j f, fs[j]? = some f → P.underlying f.type = some (.int (ks j)))
    (h : DataW.trod ec P w base spare held fuel t [v] = some x) :
    ∃ l : List α, IsL enc w v l ∧ ∀ y ∈ l, ∃ f, y = mk f ∧ ∀ j, j < n → (Lit.int (ks j) (f j)).wf = true := by
  rcases open_slice ht h with ⟨hcs, _⟩ | ⟨a, len, cap, m, nf, D, Pl, hcs, _, hl, hm, hmm, _, hi⟩
  · injection hcs with hv
    subst hv
    exact ⟨[], IsL.nil w, by simp⟩
  · injection hcs with hv
    subst hv
    rw [hC, hn] at hi
    have hlm : len ≤ m := by rw [hmm]; split <;> omega
    have key : ∀ i, i < len → ∀ j, j < n → ∃ q : Int, w.cell? (a.add (i * n + j)) = some (.int (ks j) q) ∧ (Lit.int (ks j) q).wf = true := by
      intro i hil j hj
      obtain ⟨cs', hc, ht'⟩ := hi i (by omega)
      obtain ⟨ys, n', hn', hy, hlen, hyl, hf⟩ := DataW.trod_struct he ht'
      obtain ⟨_, hcl, hat⟩ := World.cells?_some hc
      have hjf : j < fs.size := by omega
      have hf1 : fs[j]? = some fs[j] := Array.getElem?_eq_getElem hjf
      obtain ⟨ho, hk1⟩ := hone_of hone j _ hf1
      have hcell := hat j (by omega)
      have h1 := hf j _ hf1
      rw [ho, hk1] at h1
      have hjl : j < cs'.length := by omega
      have hone' : (cs'.drop j).take 1 = [cs'[j]] := by
        rw [List.drop_eq_getElem_cons hjl]
        rfl
      rw [hone'] at h1
      have hys : ys[j]? = some (ys[j]'(by omega)) := List.getElem?_eq_getElem (by omega)
      obtain ⟨q, hq, _, hwf⟩ := DataW.trod_int (hk j _ hf1) (h1.trans hys)
      injection hq with hq
      refine ⟨q, ?_, hwf⟩
      rw [← Go.Deep.add_add, hcell, List.getElem?_eq_getElem hjl, hq]
    let X : Nat → Nat → Int := fun i j => match w.cell? (a.add (i * n + j)) with | some (.int _ q) => q | _ => 0
    have hX : ∀ i, i < len → ∀ j, j < n → w.cell? (a.add (i * n + j)) = some (.int (ks j) (X i j)) ∧ (Lit.int (ks j) (X i j)).wf = true := by
      intro i hil j hj
      obtain ⟨q, hq, hwf⟩ := key i hil j hj
      have : X i j = q := by show (match w.cell? (a.add (i * n + j)) with | some (.int _ q) => q | _ => 0) = q; rw [hq]
      rw [this]
      exact ⟨hq, hwf⟩
    have hlenl : ((List.range len).map fun i => mk (X i)).length = len := by simp
    refine ⟨(List.range len).map fun i => mk (X i), ⟨some a, cap, by rw [hlenl], by rw [hlenl]; omega, by rw [hlenl]; omega, ?_⟩, ?_⟩
    · rcases Nat.eq_zero_or_pos len with h0 | h0
      · left; rw [h0]; simp
      · have h1 := (hX 0 h0 0 hpos).1
        simp only [Nat.zero_mul, Nat.add_zero] at h1
        have hs : a.spot = none := by
          unfold Addr.add at h1
          simp only [if_true] at h1
          cases hsp : a.spot with
          | none => rfl
          | some s => unfold World.cell? at h1; rw [hsp] at h1; split at h1 <;> simp at h1
        obtain ⟨b, o, sp⟩ := a
        simp only at hs
        subst hs
        refine .inr ⟨b, o, rfl, fun J u hu => ?_⟩
        have hel : ∀ y, (enc (mk y)).length = n := fun y => by rw [henc]; simp
        have hlt : J < len * n := by
          have h2 := (List.getElem?_eq_some_iff.1 hu).1
          have h3 : (((List.range len).map fun i => mk (X i)).flatMap enc).length = len * n := by
            rw [List.flatMap_map]
            have : ∀ l : List Nat, (l.flatMap fun i => enc (mk (X i))).length = l.length * n := by
              intro l
              induction l with
              | nil => simp
              | cons c l ih => simp [hel, ih, Nat.add_mul]; omega
            rw [this]; simp
          omega
        have hi2 : J / n < len := (Nat.div_lt_iff_lt_mul hpos).2 hlt
        have hj2 : J % n < n := Nat.mod_lt _ hpos
        have hJ : J / n * n + J % n = J := Nat.div_add_mod' J n
        have h4 := (hX (J / n) hi2 (J % n) hj2).1
        rw [Addr.add_lit, hJ] at h4
        rw [h4, ← hu]
        have h5 : ((List.range len).map fun i => enc (mk (X i)))[J / n]? = some (enc (mk (X (J / n)))) := by simp [hi2]
        have h6 : ∀ (l : List (List Value)) (i : Nat) (r : List Value), (∀ y ∈ l, y.length = n) → l[i]? = some r → ∀ j, j < n → l.flatten[i * n + j]? = r[j]? := by
          intro l
          induction l with
          | nil => intro i r _ h; simp at h
          | cons c l ih =>
            intro i r hl h j hj
            cases i with
            | zero => simp at h; subst h; simp [List.getElem?_append, hl c (by simp), hj]
            | succ i =>
              simp at h
              have hcn := hl c (by simp)
              rw [List.flatten_cons, List.getElem?_append_right (by rw [hcn, Nat.add_mul]; omega), hcn, show (i + 1) * n + j - n = i * n + j by rw [Nat.add_mul]; omega]
              exact ih i r (fun y hy => hl y (by simp [hy])) h j hj
        have h7 : ((List.range len).map fun i => mk (X i)).flatMap enc = ((List.range len).map fun i => enc (mk (X i))).flatten := by
          rw [List.flatMap_map, List.flatMap_def]
        rw [h7, ← hJ, h6 _ _ _ (by simp [hel]) h5 _ hj2, henc, hJ]
        simp [hj2]
    · intro y hy
      obtain ⟨i, hi2, rfl⟩ := List.mem_map.1 hy
      exact ⟨X i, rfl, fun j hj => (hX i (List.mem_range.1 hi2) j hj).2⟩
end
theorem wf_i64 {n : Int} (h : (Lit.int .i64 n).wf = true) : -9223372036854775808 ≤ n ∧ n ≤ 9223372036854775807 := by
  simp [Lit.wf, IntKind.min, IntKind.max, IntKind.signed, IntKind.bits] at h; omega
theorem wf_u8 {n : Int} (h : (Lit.int .u8 n).wf = true) : 0 ≤ n ∧ n ≤ 255 := by
  simp [Lit.wf, IntKind.min, IntKind.max, IntKind.signed, IntKind.bits] at h; omega
end Go.Proofs.YtpbanfkjeiihbaaDoor
