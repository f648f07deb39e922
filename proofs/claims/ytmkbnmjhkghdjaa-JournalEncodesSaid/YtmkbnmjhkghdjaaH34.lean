/- The abstract machine: calls and ends for the driver. -/
import Derived.Test.YtmkbnmjhkghdjaaH33
set_option linter.unusedVariables false
set_option linter.unusedSimpArgs false
namespace Go.Proofs.Ytmkbnmjhkghdjaa
open Go.RowKit
/-- A call whose result is named by its contract. -/
theorem call_E {P : Program} {GL : Nat → Option (List DV)} {N : Nat} {hp0 : Nat → Option AO} {C : Cxt} (hC : C = cxtOf P GL N hp0) {f : FuncId} {args : List AV} {rds : List Nat} {rd : Nat → Option AO} {X : AV → List (Nat × AO) → List Nat → Prop} (hok : fnOk P f = true) {α : Type} {φ : α → Prop} {v : α → AV} {us : α → List (Nat × AO)}
    (h : ∃ c, φ c ∧ Does P GL f args rds (v c) (us c) rd) (k : ∀ c, φ c → X (v c) (us c) rds) : ∃ v us rds, C.D f args rds v us rd ∧ X v us rds := by
  obtain ⟨c, h1, h2⟩ := h
  exact call_p hC hok h2 (k c h1)
/-- A contract that is handed no object and makes none. -/
theorem does_data {P : Program} {GL : Nat → Option (List DV)} {f : FuncId} {args : List AV} {v : AV} (h : DoesO P GL f args [] v []) (hr : refsB [] (AV.refs.refsL args) = true) {rd : Nat → Option AO} : Does P GL f args [] v [] rd :=
  does_of_O h (fun x hx => by cases hx) rfl hr (fun x hx => by cases hx) rfl
theorem back_b {hp : List (Nat × AO)} {r b : Bool} (h : r = b) : Back [] hp [] (aBool r) (aBool b) := by subst h; exact back_same rfl
theorem back_i {hp : List (Nat × AO)} {k : IntKind} {r b : Int} (h : r = b) : Back [] hp [] (aInt k r) (aInt k b) := by subst h; exact back_same rfl
theorem p_seqT {p : Pr} (hp : p = real) {a b : ByteArray} (h : a = b) : p.seq a b = true := by
  rw [hp]; exact seq_iff.2 h
theorem bytesOfD_bytesD : ∀ l : List UInt8, bytesOfD (bytesD l) = some l
  | [] => rfl
  | b :: l => by
    have h := bytesOfD_bytesD l
    unfold bytesD at h ⊢
    rw [List.map_cons, bytesOfD, h]
    simp [u8D]
theorem p_sof {p : Pr} (hp : p = real) {l : List UInt8} {cs : List DV} (h : bytesD l = cs) : p.sof cs = some l := by
  rw [hp, ← h]; exact bytesOfD_bytesD l
theorem p_cutE {p : Pr} (hp : p = real) {cs : List DV} {a b : Nat} : p.cut cs a b = (cs.drop a).take b := by rw [hp]; rfl
theorem splice_len {α : Type} : ∀ (l : List α) (o : Nat) (new : List α), o + new.length ≤ l.length → (splice l o new).length = l.length
  | l, 0, new, h => by
    rw [splice_zero, List.length_append, List.length_drop]; omega
  | [], o + 1, new, h => by simp at h
  | x :: l, o + 1, new, h => by
    rw [splice, List.length_cons, List.length_cons, splice_len l o new (by simp only [List.length_cons] at h; omega)]
theorem repD_len : ∀ (n : Nat) (l : List DV), (repD n l).length = n * l.length
  | 0, l => by simp [repD]
  | n + 1, l => by rw [repD, List.length_append, repD_len n l, Nat.succ_mul, Nat.add_comm]
end Go.Proofs.Ytmkbnmjhkghdjaa
