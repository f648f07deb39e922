/- Chapter 20: contracts in the driver's form. -/
import Derived.Test.YtmkbnmjhkghdjaaA9
import Derived.Test.YtmkbnmjhkghdjaaHB
import Derived.Test.YtmkbnmjhkghdjaaF
set_option linter.unusedVariables false
set_option linter.unusedSimpArgs false
namespace Go.Proofs.Ytmkbnmjhkghdjaa
open Go.RowKit
theorem number_v {a b : Int} {rd : Nat → Option AO} (h0 : 0 ≤ a) (h1 : a < 9223372036854775807) (h2 : 0 ≤ b) (h3 : b ≤ 4) :
    ∃ c, (bytesD (beN a.toNat b.toNat) = c ∧ c.length = b.toNat) ∧ Does Try.prog (fun _ => none) 34 [aInt .i64 a, aInt .i64 b] [] (.d (.dl c b.toNat none)) [] rd := by
  refine ⟨_, ⟨rfl, by rw [bytesD_length, beN_length]⟩, ?_⟩
  have := number_o a.toNat b.toNat (by omega) (by omega)
  rw [show ((a.toNat : Nat) : Int) = a from by omega, show ((b.toNat : Nat) : Int) = b from by omega] at this
  exact does_data this rfl
/-- The document's Check of an own row. -/
theorem rcheck_v {rd : Nat → Option AO} {r n : Nat} {cap : Option Nat} {cb : List DV} {wr : Bool} (l : List UInt8) (hr : rd r = some (.data 5 1 cb wr)) (hb : bytesD l = cb) (hn : l.length = n) (hl : n ≤ 1000000000) :
    ∃ c : Int, ((crc l : Int) = c ∧ 0 ≤ c ∧ c < 4294967296) ∧ Does Try.prog (fun _ => none) 15 [.sl r 0 n cap] [r] (aInt .u32 c) [] rd := by
  have h1 := crc_lt l
  refine ⟨_, ⟨rfl, by omega, by omega⟩, ?_⟩
  have W := rcheck_o l (Nat.le_trans (by omega : l.length ≤ 1000000000) (by show _ ≤ 9223372036854775807; omega))
  unfold bD at W
  rw [hb, hn] at W
  refine does_lend W rfl (F := [(r, .data 5 1 cb false)]) ⟨by simp, ⟨_, _, _, _, hr, rfl⟩, trivial⟩ ?_ rfl
  rw [TdL]
  refine ⟨_, _, rfl, ?_, by rw [TdL]⟩
  rw [TdV]
  unfold TdD lookF look
  simp only [if_true]
  refine .inl ?_
  rw [List.drop_zero, List.take_of_length_le (by rw [← hb, bytesD_length]; omega)]
end Go.Proofs.Ytmkbnmjhkghdjaa
