/- Chapter 20: contracts in the driver's form. -/
import Derived.Test.YtmkbnmjhkghdjaaB1
import Derived.Test.YtmkbnmjhkghdjaaL
set_option linter.unusedVariables false
set_option linter.unusedSimpArgs false
namespace Go.Proofs.Ytmkbnmjhkghdjaa
open Go.RowKit
theorem encode_v {n a : Int} {k m : Nat} {l : List UInt8} {cs : List DV} {rd : Nat → Option AO} (hk : k < 256) (ha : (k : Int) = a) (hl : m ≤ 1000000) (hcs : bytesD l = cs) (hm : l.length = m) :
    ∃ R : List UInt8 × Int × List DV × Nat, (encodeR n k l = (R.1, R.2.1) ∧ bytesD R.1 = R.2.2.1 ∧ R.1.length = R.2.2.2 ∧ R.2.2.1.length = R.2.2.2) ∧ Does Try.prog (fun _ => none) 12 [aInt .i64 n, .agg [aInt .u8 a, .d (.dl cs m none)]] [] (.tup [.d (.dl R.2.2.1 R.2.2.2 none), aInt .u8 R.2.1]) [] rd := by
  refine ⟨((encodeR n k l).1, (encodeR n k l).2, bytesD (encodeR n k l).1, (encodeR n k l).1.length), ⟨rfl, rfl, rfl, bytesD_length _⟩, ?_⟩
  have W := encode_o n k l hk (by omega)
  unfold bD at W
  rw [hcs, hm, ha] at W
  exact does_data W rfl
theorem rencode_v {n a : Int} {k m : Nat} {l : List UInt8} {cs : List DV} {rd : Nat → Option AO} (hk : k < 256) (ha : (k : Int) = a) (hl : m ≤ 1000000) (hcs : bytesD l = cs) (hm : l.length = m) :
    ∃ R : List UInt8 × Int × List DV × Nat, (encodeR n k l = (R.1, R.2.1) ∧ bytesD R.1 = R.2.2.1 ∧ R.1.length = R.2.2.2 ∧ R.2.2.1.length = R.2.2.2) ∧ Does Try.prog (fun _ => none) 13 [aInt .i64 n, .agg [aInt .u8 a, .d (.dl cs m none)]] [] (.tup [.d (.dl R.2.2.1 R.2.2.2 none), aInt .u8 R.2.1]) [] rd := by
  refine ⟨((encodeR n k l).1, (encodeR n k l).2, bytesD (encodeR n k l).1, (encodeR n k l).1.length), ⟨rfl, rfl, rfl, bytesD_length _⟩, ?_⟩
  have W := rencode_o n k l hk (by omega)
  unfold bD at W
  rw [hcs, hm, ha] at W
  exact does_data W rfl
theorem check_v {m : Nat} {l : List UInt8} {cs : List DV} {rd : Nat → Option AO} (hl : m ≤ 1000000) (hcs : bytesD l = cs) (hm : l.length = m) :
    ∃ c : Int, ((crc l : Int) = c ∧ 0 ≤ c ∧ c < 4294967296) ∧ Does Try.prog (fun _ => none) 14 [.d (.dl cs m none)] [] (aInt .u32 c) [] rd := by
  have h1 := crc_lt l
  refine ⟨_, ⟨rfl, by omega, by omega⟩, ?_⟩
  have W := check_o l (Nat.le_trans (by omega : l.length ≤ 1000000) (by show _ ≤ 9223372036854775807; omega))
  unfold bD at W
  rw [hcs, hm] at W
  exact does_data W rfl
theorem rcheckd_v {m : Nat} {l : List UInt8} {cs : List DV} {rd : Nat → Option AO} (hl : m ≤ 1000000) (hcs : bytesD l = cs) (hm : l.length = m) :
    ∃ c : Int, ((crc l : Int) = c ∧ 0 ≤ c ∧ c < 4294967296) ∧ Does Try.prog (fun _ => none) 15 [.d (.dl cs m none)] [] (aInt .u32 c) [] rd := by
  have h1 := crc_lt l
  refine ⟨_, ⟨rfl, by omega, by omega⟩, ?_⟩
  have W := rcheck_o l (Nat.le_trans (by omega : l.length ≤ 1000000) (by show _ ≤ 9223372036854775807; omega))
  unfold bD at W
  rw [hcs, hm] at W
  exact does_data W rfl
theorem lives_v {rd : Nat → Option AO} : Does Try.prog (fun _ => none) 11 [] [] (aBool true) [] rd := does_data lives_o rfl
end Go.Proofs.Ytmkbnmjhkghdjaa
