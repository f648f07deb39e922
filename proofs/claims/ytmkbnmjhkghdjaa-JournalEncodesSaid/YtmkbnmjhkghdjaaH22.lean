/- The abstract machine: the table of types. -/
import Derived.Test.YtmkbnmjhkghdjaaH21
set_option linter.unusedVariables false
set_option linter.unusedSimpArgs false
namespace Go.Proofs.Ytmkbnmjhkghdjaa
open Go.RowKit

/-- A table of types, in rows of sixteen; what is not in it is asked of F. -/
def tabF (F : Nat → Option TI) (L : List (List (Option TI))) (t : Nat) : Option TI :=
  match L[t / 16]? with
  | some l => match l[t % 16]? with
    | some (some i) => some i
    | _ => F t
  | none => F t
theorem tabF_eq {P : Program} {L : List (List (Option TI))} (h : (List.range (16 * L.length)).map (tiOf P) = (List.range (16 * L.length)).map (tabF (tiOf P) L)) : tiOf P = tabF (tiOf P) L := by
  funext t
  by_cases ht : t < 16 * L.length
  · have := congrArg (fun l => l[t]?) h
    simp only [List.getElem?_map, List.getElem?_range ht, Option.map_some, Option.some.injEq] at this
    exact this
  · unfold tabF
    rw [List.getElem?_eq_none (by omega)]
/-- Which structs may be compared: a list, looked at by the kernel. -/
def qOf (L : List Nat) (t : Nat) : Bool := L.contains t
def qCheck (P : Program) (L : List Nat) : Bool := L.all fun t => !P.stoodInHeld t && (P.fieldsOf t).toList.all fun f => f.name != "_"
theorem qOk_of {P : Program} {L : List Nat} (h : qCheck P L = true) : QOk P (qOf L) := fun t ht => by
  have := List.all_eq_true.1 h t (by simpa [qOf] using ht)
  simp only [Bool.and_eq_true, Bool.not_eq_true', List.all_eq_true, bne_iff_ne, ne_eq] at this
  exact ⟨this.1, this.2⟩
theorem dp_of {P : Program} (h : (P.depth - 30 + 30 == P.depth) = true) : 30 ≤ P.depth := by
  have : P.depth - 30 + 30 = P.depth := by simpa using h
  omega
/-- What is to be known of a program: its table of types, the structs that may be compared. -/
structure Facts (P : Program) (L : List (List (Option TI))) (cs : List Nat) : Prop where
  hq : QOk P (qOf cs)
  hdp : 30 ≤ P.depth
  hm : P.follows .mixedOrders = true
  hT : tiOf P = tabF (tiOf P) L
theorem facts_of {P : Program} {L : List (List (Option TI))} {cs : List Nat} (h1 : qCheck P cs = true) (h2 : (P.depth - 30 + 30 == P.depth) = true) (h3 : P.follows .mixedOrders = true) (h4 : (List.range (16 * L.length)).map (tiOf P) = (List.range (16 * L.length)).map (tabF (tiOf P) L)) : Facts P L cs := ⟨qOk_of h1, dp_of h2, h3, tabF_eq h4⟩
section
variable {P : Program} {GL : Nat → Option (List DV)} {L : List (List (Option TI))} {cs : List Nat}
/-- **A function's contract**, with the program's table. -/
theorem does_tab (K : Facts P L cs) {f : FuncId} {fn : Func} {c : Code} (hf : P.funcs[f]? = some fn) (hb : fn.body = some c) {args : List AV} (hn : args.length ≤ fn.ntmps) {os : List (Nat × AO)} {v : AV} {us : List (Nat × AO)}
    (h : ∀ C F, C = cxtOf P GL fn.ntmps (lookF os) → F = tiOf P → acode C (tabF F L) GL (qOf cs) fn.ntmps c (retQ (tabF F L) fn os v us) ⟨fn.ntmps, argTm 0 args, os⟩) : DoesO P GL f args os v us :=
  doesO_of_body K.hq K.hdp K.hm K.hT hf hb hn (fun C hC => h C _ hC rfl)
/-- **A loop**, with the program's table. -/
theorem loop_tab (K : Facts P L cs) {N : Nat} {hp0 : Nat → Option AO} {C : Cxt} {F : Ty} (hC : C = cxtOf P GL N hp0) (hF : F = tiOf P) {c : Code} {Q : Exit → SL → Prop} {s : SL} {ι : Type} (st : ι → SL) (I : ι → Prop) (μ : ι → Nat) (x0 : ι) (h0 : Tells GL N hp0 s.S (st x0).S) (hI : I x0)
    (round : ∀ x, I x → acode C (tabF F L) GL (qOf cs) N c (seqQ (fun s' => ∃ x', I x' ∧ μ x' < μ x ∧ Tells GL N hp0 s'.S (st x').S) Q) (st x)) : C.L (.loop c) Q s := by
  subst hC hF
  exact loop_list K.hq K.hdp K.hm K.hT st I μ x0 h0 hI (fun C x hC hx => by rw [hC]; exact round x hx)
end
end Go.Proofs.Ytmkbnmjhkghdjaa
