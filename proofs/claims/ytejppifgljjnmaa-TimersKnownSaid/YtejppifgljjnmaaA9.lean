import Derived.Test.YtejppifgljjnmaaA8
set_option linter.unusedVariables false
set_option linter.unusedSimpArgs false
namespace Go.Proofs.Ytejppifgljjnmaa
open Go.RowKit

theorem kc {w w' : World} (h : Below w.heap.size w w') {a : Addr} {v : Value} (hc : w.cell? a = some v) : w'.cell? a = some v := (h.cell (World.block_lt_of_cell? w a hc)).trans hc
def wl1 : List Tm := [⟨3, 1, 1⟩, ⟨5, 1, 2⟩, ⟨5, 9, 9⟩, ⟨8, 2, 1⟩]
def wl2 : List Tm := [⟨5, 1, 2⟩, ⟨6, 1, 1⟩, ⟨8, 2, 1⟩]
set_option maxRecDepth 100000 in
set_option maxHeartbeats 1000000 in
theorem works_any (w : World) : Calls Try.prog 12 #[] w fun e w' => e = .returned (.bool true) ∧ Below w.heap.size w w' := by
  have E1 : Hid (addR exT ⟨5, 9, 9⟩ = (wl1, 0)) := by show _ = _; decide
  have E2 : Hid (restartR exT ⟨6, 1, 1⟩ = (wl2, 0)) := by show _ = _; decide
  have E3 : Hid (addR [] ⟨-1, 0, 0⟩ = ([], 2)) := by show _ = _; decide
  go_enter Try.func12, Try.ntmps12
  go_wp2_with fail
  refine (example_any _).mono ?_
  rintro e w1 ⟨v1, rfl, hown1, hb1⟩
  go_wp2_with fail
  refine (add_any _ v1 exT ⟨5, 9, 9⟩ hown1.is (by decide)).mono ?_
  rw [E1.out]
  rintro e w2 ⟨v2, rfl, hown2, hb2⟩
  replace hb2 := hb1.trans (hb2.mono hb1.size)
  go_wp2_with fail
  refine (example_any _).mono ?_
  rintro e w3 ⟨v3, rfl, hown3, hb3⟩
  have hs2 := hown2.is.below hb3
  replace hb3 := hb2.trans (hb3.mono hb2.size)
  go_wp2_with fail
  refine (restart_any _ v3 exT ⟨6, 1, 1⟩ hown3.is (by decide)).mono ?_
  rw [E2.out]
  rintro e w4 ⟨v4, rfl, hown4, hb4⟩
  replace hs2 := hs2.below hb4
  replace hb4 := hb3.trans (hb4.mono hb3.size)
  go_wp2_with fail
  refine (add_any _ _ [] ⟨-1, 0, 0⟩ (IsL.nil _) (by decide)).mono ?_
  rw [E3.out]
  rintro e w5 ⟨v5, rfl, hown5, hb5⟩
  replace hs2 := hs2.below hb5
  have hs4 := hown4.is.below hb5
  replace hb5 := hb4.trans (hb5.mono hb4.size)
  go_wp2_with fail
  refine (example_any _).mono ?_
  rintro e w6 ⟨v6, rfl, hown6, hb6⟩
  replace hs2 := hs2.below hb6
  replace hs4 := hs4.below hb6
  replace hb6 := hb5.trans (hb6.mono hb5.size)
  obtain ⟨A, c, rfl, _, _, hr6⟩ := hown6.is
  obtain ⟨b, o, rfl, a0, a1, a2⟩ := RdT (k := 0) hr6 rfl
  obtain ⟨b', o', he, b0, b1, b2⟩ := RdT (k := 1) hr6 rfl
  injection he with he; injection he with e1 e2; subst e1; subst e2
  obtain ⟨b', o', he, c0, c1, c2⟩ := RdT (k := 2) hr6 rfl
  injection he with he; injection he with e1 e2; subst e1; subst e2
  simp only [Nat.zero_mul, Nat.add_zero, Nat.one_mul, Nat.reduceMul] at a0 a1 a2 b0 b1 b2 c0 c1 c2
  clear hown1 hown2 hown3 hown4 hown5 hown6
  go_wp2_with fail
  refine wp_order [(0, [0, 1, 2, 3, 4, 5, 6, 7, 8, 9, 10, 11, 12, 13]), (1, [14]), (2, [15]), (0, [16, 17, 18, 19, 20, 21, 22, 23, 24, 25, 26, 27, 28, 29]), (1, [30]), (2, [31]), (0, [32, 33, 34, 35, 36, 37])] (by kernel_rfl) (by kernel_rfl) ?_
  refine walk0 ?_
  dsimp only [pickL, nthL]
  go_wp2
  refine ⟨rfl, rfl, ?_⟩
  refine walk1 ?_
  dsimp only [pickL, nthL]
  go_wp2_with fail
  refine ⟨rfl, (Below.refl _ w6.drew).alloc (Nat.le_refl _) _, ?_⟩
  refine walk2 ?_
  dsimp only [pickL, nthL]
  go_wp2_with fail
  refine (same_any _ v2 _ wl1 wl1 (hs2.alloc _).drew (ownT_lit w6 _ wl1 4 0 (Nat.zero_le _) rfl rfl (by omega)).is.drew).mono ?_
  rw [decide_eq_true rfl]
  rintro e w7 ⟨rfl, hb7⟩
  have hb67 : Below w6.heap.size w6 w7 := (((Below.refl _ w6).alloc (Nat.le_refl _) _).drew).trans (hb7.mono (by simp))
  replace hs4 := hs4.below hb67
  have b0' := kc hb67 b0
  have b1' := kc hb67 b1
  have b2' := kc hb67 b2
  have c0' := kc hb67 c0
  have c1' := kc hb67 c1
  have c2' := kc hb67 c2
  clear a0 a1 a2 b0 b1 b2 c0 c1 c2 hb7
  go_wp2_with fail
  refine ⟨rfl, ?_⟩
  refine walk0 ?_
  dsimp only [pickL, nthL]
  go_wp2
  refine ⟨rfl, rfl, ?_⟩
  refine walk1 ?_
  dsimp only [pickL, nthL]
  go_wp2_with fail
  refine ⟨rfl, (Below.refl _ w7).alloc (Nat.le_refl _) _, ?_⟩
  refine walk2 ?_
  dsimp only [pickL, nthL]
  go_wp2_with fail
  refine (same_any _ v4 _ wl2 wl2 (hs4.alloc _) (ownT_lit w7 _ wl2 3 0 (Nat.zero_le _) rfl rfl (by omega)).is).mono ?_
  rw [decide_eq_true rfl]
  rintro e w8 ⟨rfl, hb8⟩
  go_wp2_with fail
  refine ⟨rfl, ?_⟩
  refine walk0 ?_
  dsimp only [pickL, nthL]
  go_wp2
  refine ⟨rfl, rfl, ?_⟩
  refine walk_nil ?_
  go_wp2
  go_ret
  exact ⟨rfl, ((hb6.trans (hb67.mono hb6.size)).alloc (Nat.le_trans hb6.size hb67.size) _).trans (hb8.mono (by have := hb6.size; have := hb67.size; simp; omega))⟩
end Go.Proofs.Ytejppifgljjnmaa
