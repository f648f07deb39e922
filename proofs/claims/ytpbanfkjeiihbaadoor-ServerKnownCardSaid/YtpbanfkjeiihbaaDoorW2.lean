/- Chapter 15: works. -/
import Derived.Test.YtpbanfkjeiihbaaDoorW1
set_option linter.unusedVariables false
set_option linter.unusedSimpArgs false
namespace Go.Proofs.YtpbanfkjeiihbaaDoor
open Go.RowKit

set_option maxRecDepth 100000 in
set_option maxHeartbeats 8000000 in
theorem works_any (w : World) (hG : Gl w) : Calls Tryd.prog 13 #[] w fun e w' => e = .returned (.bool true) ∧ Below w.heap.size w w' := by
  obtain ⟨N, hN⟩ : ∃ N, N = w.heap.size := ⟨_, rfl⟩
  have hN0 : 0 < N := by rw [hN]; exact hG.1
  have hb0 : Below N w w := Below.refl _ _
  have hs0 : N ≤ w.heap.size := by omega
  rw [← hN]
  have HN := Lib.hid hN; clear hN
  go_enter Tryd.func13, Tryd.ntmps13
  go_wp2_with fail
  refine (start_any _).mono ?_
  rintro e wa ⟨v0, rfl, hown, hb⟩
  go_wp2_with fail
  have B0 := Blk.new wa 24 #[.int .u8 2, .int .i64 0, .int .i64 0]
  have I0 := (hown.is).alloc (.cells #[.int .u8 2, .int .i64 0, .int .i64 0] 24)
  have hbn := (hb0.trans (hb.mono hs0)).alloc (Nat.le_trans hs0 hb.size) (.cells #[.int .u8 2, .int .i64 0, .int .i64 0] 24)
  have hsn : N ≤ (wa.alloc (.cells #[.int .u8 2, .int .i64 0, .int .i64 0] 24)).heap.size := Nat.le_trans (Nat.le_trans hs0 hb.size) (by simp)
  have hGn := hG.keep hbn hN0
  have cB0 := B0.cell
  generalize wa.alloc (.cells #[.int .u8 2, .int .i64 0, .int .i64 0] 24) = wb at *
  clear hown hb hb0 hs0
  have hb0 := hbn; have hs0 := hsn; clear hbn hsn
  refine (step_at _ ⟨2, 0, 0⟩ ⟨1, 0, 0⟩ ⟨2, 0, 0⟩ [] (by decide) hGn).mono ?_
  clear hGn cB0
  rintro e wa ⟨v1, rfl, hown, hb⟩
  obtain ⟨A1, cc1, rfl, _, _, _⟩ := hown.is
  replace B0 := B0.ext hb
  have cB0 := B0.cell
  have zB0 := B0.lt
  go_wp2_with fail
  clear cB0 zB0
  replace B0 := B0.alloc (.cells #[.int .u8 2, .int .i64 0, .int .i64 0] 24)
  replace I0 := (I0.below hb).alloc (.cells #[.int .u8 2, .int .i64 0, .int .i64 0] 24)
  have B1 := Blk.new wa 24 #[.int .u8 2, .int .i64 0, .int .i64 0]
  have I1 := (hown.is).alloc (.cells #[.int .u8 2, .int .i64 0, .int .i64 0] 24)
  have hbn := (hb0.trans (hb.mono hs0)).alloc (Nat.le_trans hs0 hb.size) (.cells #[.int .u8 2, .int .i64 0, .int .i64 0] 24)
  have hsn : N ≤ (wa.alloc (.cells #[.int .u8 2, .int .i64 0, .int .i64 0] 24)).heap.size := Nat.le_trans (Nat.le_trans hs0 hb.size) (by simp)
  have hGn := hG.keep hbn hN0
  have cB0 := B0.cell
  have cB1 := B1.cell
  generalize wa.alloc (.cells #[.int .u8 2, .int .i64 0, .int .i64 0] 24) = wb at *
  clear hown hb hb0 hs0
  have hb0 := hbn; have hs0 := hsn; clear hbn hsn
  refine (step_at _ ⟨2, 0, 0⟩ ⟨4, 100, 0⟩ ⟨3, 0, 100⟩ [⟨1, 100, 0, 0⟩] (by decide) hGn).mono ?_
  clear hGn cB0 cB1
  rintro e wa ⟨v2, rfl, hown, hb⟩
  replace B0 := B0.ext hb
  have cB0 := B0.cell
  have zB0 := B0.lt
  replace B1 := B1.ext hb
  have cB1 := B1.cell
  have zB1 := B1.lt
  go_wp2_with fail
  clear cB0 zB0 cB1 zB1
  replace B0 := B0.alloc (.cells #[.int .u8 3, .int .i64 0, .int .i64 100] 24)
  replace B1 := B1.alloc (.cells #[.int .u8 3, .int .i64 0, .int .i64 100] 24)
  replace I0 := (I0.below hb).alloc (.cells #[.int .u8 3, .int .i64 0, .int .i64 100] 24)
  replace I1 := (I1.below hb).alloc (.cells #[.int .u8 3, .int .i64 0, .int .i64 100] 24)
  have B2 := Blk.new wa 24 #[.int .u8 3, .int .i64 0, .int .i64 100]
  have I2 := (hown.is).alloc (.cells #[.int .u8 3, .int .i64 0, .int .i64 100] 24)
  have hbn := (hb0.trans (hb.mono hs0)).alloc (Nat.le_trans hs0 hb.size) (.cells #[.int .u8 3, .int .i64 0, .int .i64 100] 24)
  have hsn : N ≤ (wa.alloc (.cells #[.int .u8 3, .int .i64 0, .int .i64 100] 24)).heap.size := Nat.le_trans (Nat.le_trans hs0 hb.size) (by simp)
  have hGn := hG.keep hbn hN0
  have cB0 := B0.cell
  have cB1 := B1.cell
  have cB2 := B2.cell
  generalize wa.alloc (.cells #[.int .u8 3, .int .i64 0, .int .i64 100] 24) = wb at *
  clear hown hb hb0 hs0
  have hb0 := hbn; have hs0 := hsn; clear hbn hsn
  refine (step_at _ ⟨3, 0, 100⟩ ⟨4, 200, 0⟩ ⟨5, 0, 200⟩ [⟨1, 200, 0, 0⟩, ⟨4, 0, 10, 32000⟩] (by decide) hGn).mono ?_
  clear hGn cB0 cB1 cB2
  rintro e wa ⟨v3, rfl, hown, hb⟩
  replace B0 := B0.ext hb
  have cB0 := B0.cell
  have zB0 := B0.lt
  replace B1 := B1.ext hb
  have cB1 := B1.cell
  have zB1 := B1.lt
  replace B2 := B2.ext hb
  have cB2 := B2.cell
  have zB2 := B2.lt
  go_wp2_with fail
  clear cB0 zB0 cB1 zB1 cB2 zB2
  replace B0 := B0.alloc (.cells #[.int .u8 5, .int .i64 0, .int .i64 200] 24)
  replace B1 := B1.alloc (.cells #[.int .u8 5, .int .i64 0, .int .i64 200] 24)
  replace B2 := B2.alloc (.cells #[.int .u8 5, .int .i64 0, .int .i64 200] 24)
  replace I0 := (I0.below hb).alloc (.cells #[.int .u8 5, .int .i64 0, .int .i64 200] 24)
  replace I1 := (I1.below hb).alloc (.cells #[.int .u8 5, .int .i64 0, .int .i64 200] 24)
  replace I2 := (I2.below hb).alloc (.cells #[.int .u8 5, .int .i64 0, .int .i64 200] 24)
  have B3 := Blk.new wa 24 #[.int .u8 5, .int .i64 0, .int .i64 200]
  have I3 := (hown.is).alloc (.cells #[.int .u8 5, .int .i64 0, .int .i64 200] 24)
  have hbn := (hb0.trans (hb.mono hs0)).alloc (Nat.le_trans hs0 hb.size) (.cells #[.int .u8 5, .int .i64 0, .int .i64 200] 24)
  have hsn : N ≤ (wa.alloc (.cells #[.int .u8 5, .int .i64 0, .int .i64 200] 24)).heap.size := Nat.le_trans (Nat.le_trans hs0 hb.size) (by simp)
  have hGn := hG.keep hbn hN0
  have cB0 := B0.cell
  have cB1 := B1.cell
  have cB2 := B2.cell
  have cB3 := B3.cell
  generalize wa.alloc (.cells #[.int .u8 5, .int .i64 0, .int .i64 200] 24) = wb at *
  clear hown hb hb0 hs0
  have hb0 := hbn; have hs0 := hsn; clear hbn hsn
  refine (step_at _ ⟨5, 0, 200⟩ ⟨1, 0, 0⟩ ⟨5, 0, 200⟩ [⟨1, 200, 0, 0⟩] (by decide) hGn).mono ?_
  clear hGn cB0 cB1 cB2 cB3
  rintro e wa ⟨v4, rfl, hown, hb⟩
  replace B0 := B0.ext hb
  have cB0 := B0.cell
  have zB0 := B0.lt
  replace B1 := B1.ext hb
  have cB1 := B1.cell
  have zB1 := B1.lt
  replace B2 := B2.ext hb
  have cB2 := B2.cell
  have zB2 := B2.lt
  replace B3 := B3.ext hb
  have cB3 := B3.cell
  have zB3 := B3.lt
  go_wp2_with fail
  clear cB0 zB0 cB1 zB1 cB2 zB2 cB3 zB3
  replace B0 := B0.alloc (.cells #[.int .u8 5, .int .i64 0, .int .i64 200] 24)
  replace B1 := B1.alloc (.cells #[.int .u8 5, .int .i64 0, .int .i64 200] 24)
  replace B2 := B2.alloc (.cells #[.int .u8 5, .int .i64 0, .int .i64 200] 24)
  replace B3 := B3.alloc (.cells #[.int .u8 5, .int .i64 0, .int .i64 200] 24)
  replace I0 := (I0.below hb).alloc (.cells #[.int .u8 5, .int .i64 0, .int .i64 200] 24)
  replace I1 := (I1.below hb).alloc (.cells #[.int .u8 5, .int .i64 0, .int .i64 200] 24)
  replace I2 := (I2.below hb).alloc (.cells #[.int .u8 5, .int .i64 0, .int .i64 200] 24)
  replace I3 := (I3.below hb).alloc (.cells #[.int .u8 5, .int .i64 0, .int .i64 200] 24)
  have B4 := Blk.new wa 24 #[.int .u8 5, .int .i64 0, .int .i64 200]
  have I4 := (hown.is).alloc (.cells #[.int .u8 5, .int .i64 0, .int .i64 200] 24)
  have hbn := (hb0.trans (hb.mono hs0)).alloc (Nat.le_trans hs0 hb.size) (.cells #[.int .u8 5, .int .i64 0, .int .i64 200] 24)
  have hsn : N ≤ (wa.alloc (.cells #[.int .u8 5, .int .i64 0, .int .i64 200] 24)).heap.size := Nat.le_trans (Nat.le_trans hs0 hb.size) (by simp)
  have hGn := hG.keep hbn hN0
  have cB0 := B0.cell
  have cB1 := B1.cell
  have cB2 := B2.cell
  have cB3 := B3.cell
  have cB4 := B4.cell
  generalize wa.alloc (.cells #[.int .u8 5, .int .i64 0, .int .i64 200] 24) = wb at *
  clear hown hb hb0 hs0
  have hb0 := hbn; have hs0 := hsn; clear hbn hsn
  refine (step_at _ ⟨5, 0, 200⟩ ⟨5, 0, 10⟩ ⟨7, 0, 200⟩ [⟨7, 0, 0, 0⟩] (by decide) hGn).mono ?_
  clear hGn cB0 cB1 cB2 cB3 cB4
  rintro e wa ⟨v5, rfl, hown, hb⟩
  replace B0 := B0.ext hb
  have cB0 := B0.cell
  have zB0 := B0.lt
  replace B1 := B1.ext hb
  have cB1 := B1.cell
  have zB1 := B1.lt
  replace B2 := B2.ext hb
  have cB2 := B2.cell
  have zB2 := B2.lt
  replace B3 := B3.ext hb
  have cB3 := B3.cell
  have zB3 := B3.lt
  replace B4 := B4.ext hb
  have cB4 := B4.cell
  have zB4 := B4.lt
  go_wp2_with fail
  clear cB0 zB0 cB1 zB1 cB2 zB2 cB3 zB3 cB4 zB4
  replace B0 := B0.alloc (.cells #[.int .u8 7, .int .i64 0, .int .i64 200] 24)
  replace B1 := B1.alloc (.cells #[.int .u8 7, .int .i64 0, .int .i64 200] 24)
  replace B2 := B2.alloc (.cells #[.int .u8 7, .int .i64 0, .int .i64 200] 24)
  replace B3 := B3.alloc (.cells #[.int .u8 7, .int .i64 0, .int .i64 200] 24)
  replace B4 := B4.alloc (.cells #[.int .u8 7, .int .i64 0, .int .i64 200] 24)
  replace I0 := (I0.below hb).alloc (.cells #[.int .u8 7, .int .i64 0, .int .i64 200] 24)
  replace I1 := (I1.below hb).alloc (.cells #[.int .u8 7, .int .i64 0, .int .i64 200] 24)
  replace I2 := (I2.below hb).alloc (.cells #[.int .u8 7, .int .i64 0, .int .i64 200] 24)
  replace I3 := (I3.below hb).alloc (.cells #[.int .u8 7, .int .i64 0, .int .i64 200] 24)
  replace I4 := (I4.below hb).alloc (.cells #[.int .u8 7, .int .i64 0, .int .i64 200] 24)
  have B5 := Blk.new wa 24 #[.int .u8 7, .int .i64 0, .int .i64 200]
  have I5 := (hown.is).alloc (.cells #[.int .u8 7, .int .i64 0, .int .i64 200] 24)
  have hbn := (hb0.trans (hb.mono hs0)).alloc (Nat.le_trans hs0 hb.size) (.cells #[.int .u8 7, .int .i64 0, .int .i64 200] 24)
  have hsn : N ≤ (wa.alloc (.cells #[.int .u8 7, .int .i64 0, .int .i64 200] 24)).heap.size := Nat.le_trans (Nat.le_trans hs0 hb.size) (by simp)
  have hGn := hG.keep hbn hN0
  have cB0 := B0.cell
  have cB1 := B1.cell
  have cB2 := B2.cell
  have cB3 := B3.cell
  have cB4 := B4.cell
  have cB5 := B5.cell
  have hsz : (wa.alloc (.cells #[.int .u8 7, .int .i64 0, .int .i64 200] 24)).heap.size = wa.heap.size + 1 := by simp
  generalize wa.alloc (.cells #[.int .u8 7, .int .i64 0, .int .i64 200] 24) = wb at *
  have HSZ := Lib.hid hsz; clear hsz
  rw [← HSZ.out]
  clear hown hb hb0 hs0
  have hb0 := hbn; have hs0 := hsn; clear hbn hsn
  refine (outs_t _ v0 _ [⟨3, 0, 0, 0⟩] (I0.alloc _) (ownO_lit wb #[.int .u8 3, .int .i64 0, .int .u8 0, .int .i64 0] [⟨3, 0, 0, 0⟩] 1 0 (Nat.zero_le _) rfl rfl (by omega)).is).mono ?_
  clear cB0 cB1 cB2 cB3 cB4 cB5
  rintro e wc0 ⟨rfl, hb⟩
  have hbx := (Below.refl wb.heap.size wb).alloc (Nat.le_refl _) (.cells #[.int .u8 3, .int .i64 0, .int .u8 0, .int .i64 0] 53)
  replace hb := hbx.trans (hb.mono (by simp))
  clear hbx
  replace B0 := B0.ext hb
  replace B1 := B1.ext hb
  replace B2 := B2.ext hb
  replace B3 := B3.ext hb
  replace B4 := B4.ext hb
  replace B5 := B5.ext hb
  replace I0 := I0.below hb
  replace I1 := I1.below hb
  replace I2 := I2.below hb
  replace I3 := I3.below hb
  replace I4 := I4.below hb
  replace I5 := I5.below hb
  have hbn := hb0.trans (hb.mono hs0)
  have hsn := Nat.le_trans hs0 hb.size
  clear hb hb0 hs0
  have hb0 := hbn; have hs0 := hsn; clear hbn hsn
  have cB0 := B0.cell
  have cB1 := B1.cell
  have cB2 := B2.cell
  have cB3 := B3.cell
  have cB4 := B4.cell
  have cB5 := B5.cell
  go_wp2_with fail
  refine (outs_t _ v2 _ [⟨1, 100, 0, 0⟩] (I2.alloc _) (ownO_lit wc0 #[.int .u8 1, .int .i64 100, .int .u8 0, .int .i64 0] [⟨1, 100, 0, 0⟩] 1 0 (Nat.zero_le _) rfl rfl (by omega)).is).mono ?_
  clear cB0 cB1 cB2 cB3 cB4 cB5
  rintro e wc1 ⟨rfl, hb⟩
  have hbx := (Below.refl wc0.heap.size wc0).alloc (Nat.le_refl _) (.cells #[.int .u8 1, .int .i64 100, .int .u8 0, .int .i64 0] 53)
  replace hb := hbx.trans (hb.mono (by simp))
  clear hbx
  replace B0 := B0.ext hb
  replace B1 := B1.ext hb
  replace B2 := B2.ext hb
  replace B3 := B3.ext hb
  replace B4 := B4.ext hb
  replace B5 := B5.ext hb
  replace I0 := I0.below hb
  replace I1 := I1.below hb
  replace I2 := I2.below hb
  replace I3 := I3.below hb
  replace I4 := I4.below hb
  replace I5 := I5.below hb
  have hbn := hb0.trans (hb.mono hs0)
  have hsn := Nat.le_trans hs0 hb.size
  clear hb hb0 hs0
  have hb0 := hbn; have hs0 := hsn; clear hbn hsn
  have cB0 := B0.cell
  have cB1 := B1.cell
  have cB2 := B2.cell
  have cB3 := B3.cell
  have cB4 := B4.cell
  have cB5 := B5.cell
  go_wp2_with fail
  refine (outs_t _ v3 _ [⟨1, 200, 0, 0⟩, ⟨4, 0, 10, 32000⟩] (I3.alloc _) (ownO_lit wc1 #[.int .u8 1, .int .i64 200, .int .u8 0, .int .i64 0, .int .u8 4, .int .i64 0, .int .u8 10, .int .i64 32000] [⟨1, 200, 0, 0⟩, ⟨4, 0, 10, 32000⟩] 2 0 (Nat.zero_le _) rfl rfl (by omega)).is).mono ?_
  clear cB0 cB1 cB2 cB3 cB4 cB5
  rintro e wc2 ⟨rfl, hb⟩
  have hbx := (Below.refl wc1.heap.size wc1).alloc (Nat.le_refl _) (.cells #[.int .u8 1, .int .i64 200, .int .u8 0, .int .i64 0, .int .u8 4, .int .i64 0, .int .u8 10, .int .i64 32000] 53)
  replace hb := hbx.trans (hb.mono (by simp))
  clear hbx
  replace B0 := B0.ext hb
  replace B1 := B1.ext hb
  replace B2 := B2.ext hb
  replace B3 := B3.ext hb
  replace B4 := B4.ext hb
  replace B5 := B5.ext hb
  replace I0 := I0.below hb
  replace I1 := I1.below hb
  replace I2 := I2.below hb
  replace I3 := I3.below hb
  replace I4 := I4.below hb
  replace I5 := I5.below hb
  have hbn := hb0.trans (hb.mono hs0)
  have hsn := Nat.le_trans hs0 hb.size
  clear hb hb0 hs0
  have hb0 := hbn; have hs0 := hsn; clear hbn hsn
  have cB0 := B0.cell
  have cB1 := B1.cell
  have cB2 := B2.cell
  have cB3 := B3.cell
  have cB4 := B4.cell
  have cB5 := B5.cell
  go_wp2_with fail
  refine (outs_t _ v4 _ [⟨1, 200, 0, 0⟩] (I4.alloc _) (ownO_lit wc2 #[.int .u8 1, .int .i64 200, .int .u8 0, .int .i64 0] [⟨1, 200, 0, 0⟩] 1 0 (Nat.zero_le _) rfl rfl (by omega)).is).mono ?_
  clear cB0 cB1 cB2 cB3 cB4 cB5
  rintro e wc3 ⟨rfl, hb⟩
  have hbx := (Below.refl wc2.heap.size wc2).alloc (Nat.le_refl _) (.cells #[.int .u8 1, .int .i64 200, .int .u8 0, .int .i64 0] 53)
  replace hb := hbx.trans (hb.mono (by simp))
  clear hbx
  replace B0 := B0.ext hb
  replace B1 := B1.ext hb
  replace B2 := B2.ext hb
  replace B3 := B3.ext hb
  replace B4 := B4.ext hb
  replace B5 := B5.ext hb
  replace I0 := I0.below hb
  replace I1 := I1.below hb
  replace I2 := I2.below hb
  replace I3 := I3.below hb
  replace I4 := I4.below hb
  replace I5 := I5.below hb
  have hbn := hb0.trans (hb.mono hs0)
  have hsn := Nat.le_trans hs0 hb.size
  clear hb hb0 hs0
  have hb0 := hbn; have hs0 := hsn; clear hbn hsn
  have cB0 := B0.cell
  have cB1 := B1.cell
  have cB2 := B2.cell
  have cB3 := B3.cell
  have cB4 := B4.cell
  have cB5 := B5.cell
  go_wp2_with fail
  refine (outs_t _ v5 _ [⟨7, 0, 0, 0⟩] (I5.alloc _) (ownO_lit wc3 #[.int .u8 7, .int .i64 0, .int .u8 0, .int .i64 0] [⟨7, 0, 0, 0⟩] 1 0 (Nat.zero_le _) rfl rfl (by omega)).is).mono ?_
  clear cB0 cB1 cB2 cB3 cB4 cB5
  rintro e wc4 ⟨rfl, hb⟩
  have hbx := (Below.refl wc3.heap.size wc3).alloc (Nat.le_refl _) (.cells #[.int .u8 7, .int .i64 0, .int .u8 0, .int .i64 0] 53)
  replace hb := hbx.trans (hb.mono (by simp))
  clear hbx
  replace B0 := B0.ext hb
  replace B1 := B1.ext hb
  replace B2 := B2.ext hb
  replace B3 := B3.ext hb
  replace B4 := B4.ext hb
  replace B5 := B5.ext hb
  replace I0 := I0.below hb
  replace I1 := I1.below hb
  replace I2 := I2.below hb
  replace I3 := I3.below hb
  replace I4 := I4.below hb
  replace I5 := I5.below hb
  have hbn := hb0.trans (hb.mono hs0)
  have hsn := Nat.le_trans hs0 hb.size
  clear hb hb0 hs0
  have hb0 := hbn; have hs0 := hsn; clear hbn hsn
  have cB0 := B0.cell
  have cB1 := B1.cell
  have cB2 := B2.cell
  have cB3 := B3.cell
  have cB4 := B4.cell
  have cB5 := B5.cell
  go_wp2
  go_ret
  exact ⟨rfl, hb0⟩
end Go.Proofs.YtpbanfkjeiihbaaDoor
