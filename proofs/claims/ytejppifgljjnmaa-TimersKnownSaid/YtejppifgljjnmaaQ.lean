/- The laws' arguments. -/
import Derived.Test.YtejppifgljjnmaaA10
import Derived.Test.YtejppifgljjnmaaA12
import Derived.Test.YtejppifgljjnmaaO
import Derived.Lib.SmallJoins
set_option linter.unusedVariables false
set_option linter.unusedSimpArgs false
namespace Go.Proofs.Ytejppifgljjnmaa
open Go.ChangeShapes Go.WideShapes Go.Deep Go.RowKit

def IsB (w : World) (v : Value) (bs : List Int) : Prop := IsL encB w v bs ∧ ∀ x ∈ bs, 0 ≤ x ∧ x ≤ 255
section
variable {H : Type} {ec : TypeId × Value → H} {w : World} {base : Nat} {spare : Nat → Bool} {held : Bool} {fuel : Nat} {v : Value} {x : DataW H × List MemPlace}
theorem openB (hf : DataW.trod ec Try.prog w base spare held fuel 22 [v] = some x) : ∃ l, IsB w v l := by
  rcases open_ints Try.underlying22 Try.underlying5 (by kernel_rfl) hf with ⟨hcs, _⟩ | ⟨a, l, c, zs, hcs, _, hl, hm, hz, _, hcell, hwz⟩
  · injection hcs with hcs
    subst hcs
    exact ⟨[], IsL.nil w, by simp⟩
  · injection hcs with hcs
    subst hcs
    have hrow : ∃ m, IsRow .u8 w (some a) l m zs ∧ l ≤ m := by
      refine ⟨zs.length, .inr ⟨a, rfl, ?_, ?_, rfl, hcell, hwz⟩, ?_⟩ <;> (rw [hz]; split <;> omega)
    obtain ⟨m, hrow, hlm⟩ := hrow
    obtain ⟨bs, hr, e1, e2, e3, e4⟩ := hrow.isB
    exact ⟨bs, ⟨some a, c, by rw [e1], e3, by omega, hr⟩, e4⟩
theorem openT (hf : DataW.trod ec Try.prog w base spare held fuel 23 [v] = some x) : ∃ l, IsT w v l := by
  obtain ⟨l, hl, _⟩ := open_flat Tm.enc 3 (fun _ => .i64) (fun f => ⟨f 0, f 1, f 2⟩) (fun f => rfl) (by omega) Try.underlying23 Try.underlying28 (by kernel_rfl) (by kernel_rfl) rfl
    (fun j f hj => by
      match j, hj with
      | 0, hj => simp at hj; subst hj; exact Try.underlying3
      | 1, hj => simp at hj; subst hj; exact Try.underlying3
      | 2, hj => simp at hj; subst hj; exact Try.underlying3) hf
  exact ⟨l, hl⟩
def IsTv (w : World) (v : Value) (t : Tm) : Prop := v = t.val
theorem openTv {r : Reach} {b0 : Nat} {d : DataW H} {p : List MemPlace} (hv : Value.okWide Try.prog w r b0 28 v) (h : DataW.Trod ec Try.prog w base spare held 28 v d p) : ∃ t, IsTv w v t := by
  obtain ⟨c0, c1, c2, y0, y1, y2, m, rfl, _, _, h0, h1, h2⟩ := Go.Joins.open_agg3 Try.underlying28 (by kernel_rfl) (by kernel_rfl) hv h
  obtain ⟨a, e0, _, _⟩ := DataW.trod_int Try.underlying3 h0
  obtain ⟨b, e1, _, _⟩ := DataW.trod_int Try.underlying3 h1
  obtain ⟨c, e2, _, _⟩ := DataW.trod_int Try.underlying3 h2
  injection e0 with e0; injection e1 with e1; injection e2 with e2
  subst e0; subst e1; subst e2
  exact ⟨⟨a, b, c⟩, rfl⟩
end
theorem refSame_t (w : World) (v v' : Value) (xs ys : List Tm) (hv : IsT w v xs) (hv' : IsT w v' ys) (h : xs = ys) :
    Calls Try.prog 16 #[v, v'] w fun e w' => e = .returned (.bool true) ∧ Below w.heap.size w w' :=
  (refSame_any w v v' xs ys hv hv').mono fun e w' ⟨h1, h2⟩ => ⟨by rw [h1, decide_eq_true h], h2⟩
theorem same_t (w : World) (v v' : Value) (xs ys : List Tm) (hv : IsT w v xs) (hv' : IsT w v' ys) (h : xs = ys) :
    Calls Try.prog 18 #[v, v'] w fun e w' => e = .returned (.bool true) ∧ Below w.heap.size w w' :=
  (same_any w v v' xs ys hv hv').mono fun e w' ⟨h1, h2⟩ => ⟨by rw [h1, decide_eq_true h], h2⟩
/-- min(len(l), n) -/
theorem min_ex (n : Int) (len : Nat) (hn : 0 ≤ n) : ∃ X : Nat, X ≤ len ∧ (X : Int) ≤ n ∧ (if n < len then n else (len : Int)) = X := by
  by_cases h : n < len
  · exact ⟨n.toNat, by omega, by omega, by rw [if_pos h]; omega⟩
  · exact ⟨len, by omega, by omega, by rw [if_neg h]⟩
end Go.Proofs.Ytejppifgljjnmaa
