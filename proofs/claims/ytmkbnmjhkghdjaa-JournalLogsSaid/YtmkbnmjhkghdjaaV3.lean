/- Chapter 20: contracts in the driver's form: logs. -/
import Derived.Test.YtmkbnmjhkghdjaaV2
import Derived.Test.YtmkbnmjhkghdjaaH36
set_option linter.unusedVariables false
set_option linter.unusedSimpArgs false
namespace Go.Proofs.Ytmkbnmjhkghdjaa
open Go.RowKit
theorem joined_v {na nb : Nat} {a b : List UInt8} {ca cb : List DV} {rd : Nat → Option AO} (hl : na + nb ≤ 1000000000) (ha : bytesD a = ca) (hna : a.length = na) (hb : bytesD b = cb) (hnb : b.length = nb) :
    ∃ R : List DV × Nat, (bytesD (a ++ b) = R.1 ∧ (a ++ b).length = R.2 ∧ R.1.length = R.2) ∧ Does Try.prog (fun _ => none) 37 [.d (.dl ca na none), .d (.dl cb nb none)] [] (.d (.dl R.1 R.2 none)) [] rd := by
  refine ⟨(bytesD (a ++ b), (a ++ b).length), ⟨rfl, rfl, bytesD_length _⟩, ?_⟩
  have W := joined_o a b (by omega)
  unfold bD at W
  rw [ha, hna, hb, hnb] at W
  exact does_data W rfl
theorem copied_v {na : Nat} {a : List UInt8} {ca : List DV} {rd : Nat → Option AO} (hl : na ≤ 1000000000) (ha : bytesD a = ca) (hna : a.length = na) : Does Try.prog (fun _ => none) 38 [.d (.dl ca na none)] [] (.d (.dl ca na none)) [] rd := by
  have W := copied_o a (by omega)
  unfold bD at W
  rw [ha, hna] at W
  exact does_data W rfl
theorem valid_v {n : Nat} {l : List UInt8} {cs : List DV} {sy ct : Int} {rd : Nat → Option AO} (hcs : bytesD l = cs) (hn : l.length = n) {b : Bool} (hb : validL l sy ct = b) : Does Try.prog (fun _ => none) 27 [.agg [.d (.dl cs n none), aInt .i64 sy, aInt .i64 ct]] [] (aBool b) [] rd := by
  have W := valid_o l sy ct
  unfold logA bD at W
  rw [hcs, hn, hb] at W
  exact does_data W rfl
theorem rvalid_v {n : Nat} {l : List UInt8} {cs : List DV} {sy ct : Int} {rd : Nat → Option AO} (hcs : bytesD l = cs) (hn : l.length = n) {b : Bool} (hb : validL l sy ct = b) : Does Try.prog (fun _ => none) 28 [.agg [.d (.dl cs n none), aInt .i64 sy, aInt .i64 ct]] [] (aBool b) [] rd := by
  have W := rvalid_o l sy ct
  unfold logA bD at W
  rw [hcs, hn, hb] at W
  exact does_data W rfl
theorem validL_iff {l : List UInt8} {sy ct : Int} : validL l sy ct = true ↔ (0 ≤ sy ∧ sy ≤ l.length ∧ 0 ≤ ct ∧ ct ≤ 1048576) := by
  unfold validL
  simp only [Bool.and_eq_true, decide_eq_true_eq]
/-- A log with one record more. -/
def appendR (l : List UInt8) (sy ct : Int) (k : Nat) (d : List UInt8) : (List UInt8 × Int × Int) × Int :=
  if validL l sy ct = false then (([], 0, 0), 2) else if ct = 1048576 then (([], 0, 0), 10)
  else if (encodeR ct k d).2 ≠ 0 then (([], 0, 0), (encodeR ct k d).2) else ((l ++ (encodeR ct k d).1, sy, ct + 1), 0)
end Go.Proofs.Ytmkbnmjhkghdjaa
