/-
  The examples and limits. No condition, no arguments.
-/
import Derived.Test.YtejppifgljjnmaaN
import Derived.WalkKit
import Derived.ProofKit
import Derived.OpenShut
import Derived.ShutString
import Derived.ChangeOld
import Derived.Below
namespace Go.Proofs.Ytejppifgljjnmaa.timersKnown
open Go.ChangeShapes Go.WideShapes Go.ChangeAt Go.RowKit
open Go.ChangeMaps (open_string shut_string)
set_option linter.unusedVariables false
set_option linter.unusedSimpArgs false

theorem own : ownKnob Try.prog.godebug = none := by kernel_rfl
theorem laidOut : laidOutB Try.prog = true := by kernel_rfl

def tl : List Tm := [⟨5, 1, 2⟩, ⟨3, 1, 1⟩]
def t3 : List Tm := [⟨3, 1, 1⟩, ⟨5, 1, 2⟩, ⟨8, 1, 1⟩]
def zeros (n : Nat) : List Tm := List.replicate n ⟨0, 0, 0⟩
set_option maxRecDepth 100000 in
theorem z1 : addR (zeros 1000) ⟨0, 0, 0⟩ = ([], 10) := by decide +kernel
theorem z2 : (restartR (zeros 999) ⟨1099511627776, 1, 0⟩).2 = 0 ∧ (restartR (zeros 999) ⟨1099511627776, 1, 0⟩).1.length = 1000 := by decide +kernel
theorem z3 : restartR (zeros 1000) ⟨1, 0, 1⟩ = ([], 10) := by decide +kernel
theorem z4 : addR [] ⟨1099511627777, 0, 0⟩ = ([], 2) := by decide +kernel
theorem z5 : validB (zeros 1000) = true := by decide +kernel
theorem z6 : validB (zeros 1001) = false := by decide +kernel
theorem z7 : cancelR t3 1 1 = (exT.drop 1).take 1 := by decide +kernel
theorem zlen (n : Nat) : (zeros n).length = n := List.length_replicate
theorem ztake : (zeros 1000).take 999 = zeros 999 := by unfold zeros; rw [List.take_replicate, show min 999 1000 = 999 from rfl]
theorem zz : ∃ z, (Try.prog.info? 28).map (·.zero) = some (some z) ∧ z.cells.toList = Tm.enc ⟨0, 0, 0⟩ := ⟨.agg #[.int .i64 0, .int .i64 0, .int .i64 0], by kernel_rfl, rfl⟩
set_option maxRecDepth 100000 in
set_option maxHeartbeats 4000000 in
theorem walk (w : World) :
    Calls Try.prog 9 #[] w fun e w' => e = .returned (.bool true) ∧ Below w.heap.size w w' := by
  have E1 : Hid (addR tl ⟨9, 1, 1⟩ = ([], 2)) := by show _ = _; decide
  have E2 : Hid (nextR exT = (3, true)) := by show _ = _; decide
  have E3 : Hid (nextR [] = (0, false)) := by show _ = _; decide
  go_enter Try.func9, Try.ntmps9
  go_wp2_with fail
  refine (example_any _).mono ?_
  rintro e w1 ⟨v1, rfl, hown1, hb1⟩
  have hs1 := hb1.size
  have hI1 := hown1.is
  obtain ⟨A, c, hvv, _, hc, hr⟩ := hown1.is
  have h3 : exT.length = 3 := rfl
  rw [h3] at hvv hc
  subst hvv
  obtain ⟨b, o, rfl, a0, a1, a2⟩ := RdT (k := 0) hr rfl
  obtain ⟨b', o', he, b0, b1, b2⟩ := RdT (k := 1) hr rfl
  injection he with he; injection he with e1 e2; subst e1; subst e2
  simp only [Nat.zero_mul, Nat.add_zero, Nat.one_mul, Nat.reduceMul] at a0 a1 a2 b0 b1 b2
  clear hown1
  go_wp2_with fail
  refine wp_order [(0, [0, 1, 2, 3, 4, 5]), (2, [6]), (0, [7])] (by kernel_rfl) (by kernel_rfl) ?_
  refine walk0 ?_
  dsimp only [pickL, nthL]
  go_wp2
  refine ⟨rfl, rfl, ?_⟩
  refine walk2 ?_
  dsimp only [pickL, nthL]
  go_wp2_with fail
  refine ⟨rfl, ?_⟩
  refine walk0 ?_
  dsimp only [pickL, nthL]
  go_wp2
  refine ⟨rfl, rfl, ?_⟩
  refine walk_nil ?_
  have hIl : IsT (w1.alloc (.cells #[.int .i64 5, .int .i64 1, .int .i64 2, .int .i64 3, .int .i64 1, .int .i64 1] 28)).drew (.slice (some ⟨w1.heap.size, 0, none⟩) 2 2) tl := (ownT_lit w1 #[.int .i64 5, .int .i64 1, .int .i64 2, .int .i64 3, .int .i64 1, .int .i64 1] tl 2 0 (Nat.zero_le _) rfl rfl (by omega)).is.drew
  have hI2 := (hI1.alloc (.cells #[.int .i64 5, .int .i64 1, .int .i64 2, .int .i64 3, .int .i64 1, .int .i64 1] 28)).drew
  have hr2 : Rd (w1.alloc (.cells #[.int .i64 5, .int .i64 1, .int .i64 2, .int .i64 3, .int .i64 1, .int .i64 1] 28)).drew (some ⟨b, o, none⟩) (exT.flatMap Tm.enc) := hr.below (((Below.refl _ w1).alloc (Nat.le_refl _) _).drew)
  have hb2 : Below w.heap.size w (w1.alloc (.cells #[.int .i64 5, .int .i64 1, .int .i64 2, .int .i64 3, .int .i64 1, .int .i64 1] 28)).drew := (hb1.alloc hs1 _).drew
  have hs2 := hb2.size
  go_wp2_with fail
  generalize (w1.alloc (.cells #[.int .i64 5, .int .i64 1, .int .i64 2, .int .i64 3, .int .i64 1, .int .i64 1] 28)).drew = w2 at *
  generalize Value.slice (some ⟨w1.heap.size, 0, none⟩) 2 2 = vb at *
  clear hb1 hs1 hI1 hr a0 a1 a2 b0 b1 b2
  refine (add_any w2 _ tl ⟨9, 1, 1⟩ hIl (by decide)).mono ?_
  rw [E1.out]
  rintro e w3 ⟨v3, rfl, _, hb3⟩
  have hs3 := hb3.size
  have hB3 : Below w2.heap.size w2 w3 := hb3
  go_wp2_with fail
  refine (due_any w3 _ exT 5 (hI2.below hb3) (by decide)).mono ?_
  rintro e w4 ⟨d, rs, rfl, ownd, ownr, _, hb4⟩
  have hs4 := hb4.size
  have hB4 : Below w2.heap.size w2 w4 := hB3.trans (hb4.mono hs3)
  go_wp2_with fail
  refine (next_any w4 _ exT (hI2.below hB4)).mono ?_
  rw [E2.out]
  rintro e w5 ⟨rfl, hb5⟩
  have hs5 := hb5.size
  have hB5 : Below w2.heap.size w2 w5 := hB4.trans (hb5.mono (by omega))
  go_wp2_with fail
  refine (next_any w5 _ [] (IsL.nil _)).mono ?_
  rw [E3.out]
  rintro e w6 ⟨rfl, hb6⟩
  have hs6 := hb6.size
  have hB6 : Below w2.heap.size w2 w6 := hB5.trans (hb6.mono (by omega))
  have hI6 := hI2.below hB6
  have hl6 := hIl.below hB6
  have hr6 := hr2.below hB6
  have hd6 := ((ownd.below hb5).below hb6).is
  have hn6 := ((ownr.below hb5).below hb6).is
  have hS6 : w2.heap.size ≤ w6.heap.size := hB6.size
  clear hB3 hB4 hB5 hb3 hb4 hb5 hb6 ownd ownr hI2 hIl hr2 hs3 hs4 hs5 hs6
  have E4 : Hid (validB tl = false) := by show _ = _; decide
  have E5 : Hid (dueR exT 5 = exT.take 2) := by show _ = _; decide
  have E6 : Hid (restR exT 5 = exT.drop 2) := by show _ = _; decide
  have E7 : Hid (countR exT 1 = 2) := by show _ = _; decide
  have E8 : Hid (cancelAllR exT 1 = exT.drop 2) := by show _ = _; decide
  have E9 : Hid (cancelR tl 0 0 = []) := by show _ = _; decide
  have E10 : Hid (countR tl 1 = 0) := by show _ = _; decide
  have hml : exT.length ≤ maxLen := by decide
  have suf : ∀ w', Below w6.heap.size w6 w' → IsT w' (.slice (some ⟨b, o + 6, none⟩) 1 (c - 2)) (exT.drop 2) := by
    intro w' hb'
    have := isL_drop Tm.enc_length (hr6.below hb') (X := 2) (by decide) hc hml
    rw [if_neg (by omega)] at this
    simpa [Addr.add_lit, h3] using this
  have mid : ∀ w', Below w6.heap.size w6 w' → IsT w' (.slice (some ⟨b, o + 3, none⟩) 1 (c - 1)) ((exT.drop 1).take 1) := by
    intro w' hb'
    have h := isL_drop Tm.enc_length (hr6.below hb') (X := 1) (by decide) hc hml
    rw [if_neg (by omega)] at h
    obtain ⟨A', c', he, hm', hc', hr'⟩ := h
    have he' : Value.slice (some ⟨b, o + 3, none⟩) 2 (c - 1) = .slice A' 2 c' := by simpa [Addr.add_lit] using he
    injection he' with e1 e2 e3
    rw [e1, e3]
    exact isL_take hr' (X := 1) (by decide) hc' hm'
  go_wp2_with fail
  refine wp_order [(0, [0, 1, 2, 3]), (2, [4]), (0, [5, 6, 7, 8, 9]), (2, [10]), (0, [11, 12, 13, 14, 15, 16]), (2, [17]), (0, [18, 19, 20, 21, 22, 23, 24, 25, 26, 27, 28, 29, 30, 31, 32]), (2, [33]), (0, [34, 35, 36, 37, 39, 40]), (1, [38]), (2, [41]), (0, [42, 43, 44, 45]), (2, [46]), (0, [47, 48, 49, 50, 51]), (2, [52]), (0, [53, 54])] (by kernel_rfl) (by kernel_rfl) ?_
  refine walk0 ?_
  dsimp only [pickL, nthL]
  go_wp2
  refine ⟨rfl, rfl, ?_⟩
  refine walk2 ?_
  dsimp only [pickL, nthL]
  go_wp2_with fail
  refine (valid_any _ vb tl hl6.drew).mono ?_
  rw [E4.out]
  rintro e w7 ⟨rfl, hb7⟩
  have hb67 : Below w6.heap.size w6 w7 := un1 hb7
  have hs7 := hb67.size
  go_wp2_with fail
  refine ⟨rfl, ?_⟩
  refine walk0 ?_
  dsimp only [pickL, nthL]
  go_wp2
  refine ⟨rfl, rfl, ?_⟩
  refine walk2 ?_
  dsimp only [pickL, nthL]
  go_wp2_with fail
  refine (same_t w7 d _ _ (exT.take 2) (hd6.below hb67) (isL_take (hr6.below hb67) (X := 2) (by decide) hc hml) E5.out).mono ?_
  rintro e w8 ⟨rfl, hb8⟩
  have hs8 := hb8.size
  have hb68 : Below w6.heap.size w6 w8 := hb67.trans (hb8.mono hs7)
  go_wp2_with fail
  refine ⟨rfl, ?_⟩
  refine walk0 ?_
  dsimp only [pickL, nthL]
  go_wp2
  refine ⟨rfl, rfl, ?_⟩
  refine walk2 ?_
  dsimp only [pickL, nthL]
  go_wp2_with fail
  refine (same_t w8 rs _ _ (exT.drop 2) (hn6.below hb68) (suf w8 hb68) E6.out).mono ?_
  rintro e w9 ⟨rfl, hb9⟩
  have hs9 := hb9.size
  have hb69 : Below w6.heap.size w6 w9 := hb68.trans (hb9.mono (by omega))
  go_wp2_with fail
  refine ⟨rfl, ?_⟩
  refine walk0 ?_
  dsimp only [pickL, nthL]
  go_wp2
  refine ⟨rfl, rfl, ?_⟩
  refine walk2 ?_
  dsimp only [pickL, nthL]
  go_wp2_with fail
  refine (count_any w9 _ exT 1 (hI6.below hb69)).mono ?_
  rw [E7.out]
  rintro e w10 ⟨rfl, hb10⟩
  have hs10 := hb10.size
  have hb610 : Below w6.heap.size w6 w10 := hb69.trans (hb10.mono (by omega))
  clear hb67 hb7 hb8 hb9 hb10 hb68 hb69
  go_wp2_with fail
  refine ⟨rfl, ?_⟩
  refine walk0 ?_
  dsimp only [pickL, nthL]
  go_wp2
  refine ⟨rfl, rfl, ?_⟩
  refine walk1 ?_
  dsimp only [pickL, nthL]
  go_wp2_with fail
  refine (cancelAll_any _ _ exT 1 (hI6.below hb610) (by decide)).mono ?_
  rw [E8.out]
  rintro e w11 ⟨v11, rfl, own11, hbE⟩
  have hb11 : Below w10.heap.size w10 w11 := hbE
  have hs11 := hb11.size
  have hb611 : Below w6.heap.size w6 w11 := hb610.trans (hb11.mono (by omega))
  go_wp2_with fail
  refine ⟨rfl, hbE, ?_⟩
  refine walk2 ?_
  dsimp only [pickL, nthL]
  go_wp2_with fail
  refine (same_t _ v11 _ _ (exT.drop 2) own11.is (suf w11 hb611) rfl).mono ?_
  rintro e w12 ⟨rfl, hb12⟩
  have hs12 := hb12.size
  have hb612 : Below w6.heap.size w6 w12 := hb611.trans (hb12.mono (by omega))
  clear hb610 hbE hb11 hb611 hb12 own11
  go_wp2_with fail
  refine ⟨rfl, ?_⟩
  refine walk0 ?_
  dsimp only [pickL, nthL]
  go_wp2
  refine ⟨rfl, rfl, ?_⟩
  refine walk2 ?_
  dsimp only [pickL, nthL]
  go_wp2_with fail
  refine (cancel_any _ vb tl 0 0 (hl6.below hb612) (by decide)).mono ?_
  rw [E9.out]
  rintro e w13 ⟨v13, rfl, own13, hb13⟩
  have hs13 := hb13.size
  have hb613 : Below w6.heap.size w6 w13 := hb612.trans (hb13.mono (by omega))
  obtain ⟨A13, c13, rfl, _, _, _⟩ := own13.is
  clear own13
  go_wp2_with fail
  refine ⟨rfl, ?_⟩
  refine walk0 ?_
  dsimp only [pickL, nthL]
  go_wp2
  refine ⟨rfl, rfl, ?_⟩
  refine walk2 ?_
  dsimp only [pickL, nthL]
  go_wp2_with fail
  refine (count_any _ vb tl 1 (hl6.below hb613)).mono ?_
  rw [E10.out]
  rintro e w14 ⟨rfl, hb14⟩
  have hs14 := hb14.size
  have hb614 : Below w6.heap.size w6 w14 := hb613.trans (hb14.mono (by omega))
  clear hb612 hb613 hb13 hb14
  go_wp2_with fail
  refine ⟨rfl, ?_⟩
  refine walk0 ?_
  dsimp only [pickL, nthL]
  go_wp2
  refine ⟨rfl, rfl, ?_⟩
  refine walk_nil ?_
  clear hI6 hl6 hd6 hn6
  have hB14 : Below w.heap.size w w14 := hb2.trans ((hB6.mono hs2).trans (hb614.mono (by omega)))
  go_wp2_with (at_make; refine wpList_makeN ET28 Tm.enc ⟨0, 0, 0⟩ zz w14 rfl _ _ rfl w14.heap.size _ _ _ _ 1000 rfl rfl rfl rfl (by omega) (by simp only [maxLen]; omega) (Nat.le_refl _) ?_; intro w15 own15' hb15 hg15)
  have own15 : OwnT w15 w14.heap.size (.slice (some ⟨w14.heap.size, 0, none⟩) 1000 1000) (zeros 1000) := own15'
  have hs15 := hb15.size
  clear own15' hg15
  have hB15 : Below w6.heap.size w6 w15 := hb614.trans (hb15.mono (by omega))
  have hm1 : (zeros 1000).length ≤ 1100 := by rw [zlen]; omega
  have hm2 : (zeros 999).length ≤ 1100 := by rw [zlen]; omega
  have hZ := own15.is
  have hY : IsT w15 (.slice (some ⟨w14.heap.size, 0, none⟩) 999 1000) (zeros 999) := by
    obtain ⟨A', c', he, hm', hc', hr'⟩ := hZ
    rw [zlen] at he
    injection he with q1 q2 q3
    subst q1; subst q3
    have := isL_take hr' (X := 999) (by rw [zlen]; omega) hc' hm'
    rw [ztake] at this
    exact this
  generalize hvz : Value.slice (some ⟨w14.heap.size, 0, none⟩) 1000 1000 = vz at *
  refine (add_any w15 vz (zeros 1000) ⟨0, 0, 0⟩ hZ hm1).mono ?_
  rw [z1]
  rintro e w16 ⟨v16, rfl, _, hb16⟩
  have hs16 := hb16.size
  have hB16 : Below w15.heap.size w15 w16 := hb16
  subst hvz
  go_wp2_with fail
  refine (restart_any w16 _ (zeros 999) ⟨1099511627776, 1, 0⟩ (hY.below hB16) hm2).mono ?_
  rw [z2.1]
  rintro e w17 ⟨v17, rfl, own17, hb17⟩
  have hs17 := hb17.size
  have hB17 : Below w15.heap.size w15 w17 := hB16.trans (hb17.mono (by omega))
  obtain ⟨A17, c17, he17, _, _, _⟩ := own17.is
  rw [z2.2] at he17
  subst he17
  clear own17
  go_wp2_with fail
  refine (restart_any w17 _ (zeros 1000) ⟨1, 0, 1⟩ (hZ.below hB17) hm1).mono ?_
  rw [z3]
  rintro e w18 ⟨v18, rfl, _, hb18⟩
  have hs18 := hb18.size
  have hB18 : Below w15.heap.size w15 w18 := hB17.trans (hb18.mono (by omega))
  go_wp2_with fail
  refine (add_any w18 _ [] ⟨1099511627777, 0, 0⟩ (IsL.nil _) (by decide)).mono ?_
  rw [z4]
  rintro e w19 ⟨v19, rfl, _, hb19⟩
  have hs19 := hb19.size
  have hB19 : Below w15.heap.size w15 w19 := hB18.trans (hb19.mono (by omega))
  have hB69 : Below w6.heap.size w6 w19 := hB15.trans (hB19.mono (by omega))
  have hr19 := hr6.below hB69
  obtain ⟨b', o', he, a0, a1, a2⟩ := RdT (k := 0) hr19 rfl
  injection he with he; injection he with e1 e2; subst e1; subst e2
  obtain ⟨b', o', he, b0, b1, b2⟩ := RdT (k := 1) hr19 rfl
  injection he with he; injection he with e1 e2; subst e1; subst e2
  simp only [Nat.zero_mul, Nat.add_zero, Nat.one_mul, Nat.reduceMul] at a0 a1 a2 b0 b1 b2
  clear hB16 hB17 hB18 hb16 hb17 hb18 hb19 hr6 hr19
  go_wp2_with fail
  refine wp_order [(0, [0, 1, 2, 3, 4, 5, 6]), (2, [7]), (0, [8])] (by kernel_rfl) (by kernel_rfl) ?_
  refine walk0 ?_
  dsimp only [pickL, nthL]
  go_wp2
  refine ⟨rfl, rfl, ?_⟩
  refine walk2 ?_
  dsimp only [pickL, nthL]
  go_wp2_with fail
  refine ⟨rfl, ?_⟩
  refine walk0 ?_
  dsimp only [pickL, nthL]
  go_wp2
  refine ⟨rfl, rfl, ?_⟩
  refine walk_nil ?_
  have hIt : IsT (w19.alloc (.cells #[.int .i64 3, .int .i64 1, .int .i64 1, .int .i64 5, .int .i64 1, .int .i64 2, .int .i64 8, .int .i64 1, .int .i64 1] 28)).drew (.slice (some ⟨w19.heap.size, 0, none⟩) 3 3) t3 := (ownT_lit w19 #[.int .i64 3, .int .i64 1, .int .i64 1, .int .i64 5, .int .i64 1, .int .i64 2, .int .i64 8, .int .i64 1, .int .i64 1] t3 3 0 (Nat.zero_le _) rfl rfl (by omega)).is.drew
  have hb20 : Below w19.heap.size w19 (w19.alloc (.cells #[.int .i64 3, .int .i64 1, .int .i64 1, .int .i64 5, .int .i64 1, .int .i64 2, .int .i64 8, .int .i64 1, .int .i64 1] 28)).drew := ((Below.refl _ _).alloc (Nat.le_refl _) _).drew
  have hs20 := hb20.size
  clear a0 a1 a2 b0 b1 b2
  generalize hv20 : Value.slice (some ⟨w19.heap.size, 0, none⟩) 3 3 = v20 at *
  generalize hw20 : (w19.alloc (.cells #[.int .i64 3, .int .i64 1, .int .i64 1, .int .i64 5, .int .i64 1, .int .i64 2, .int .i64 8, .int .i64 1, .int .i64 1] 28)).drew = w20 at *
  have hB20 : Below w15.heap.size w15 w20 := hB19.trans (hb20.mono (by omega))
  have hB620 : Below w6.heap.size w6 w20 := hB69.trans (hb20.mono (by omega))
  go_wp2_with fail
  refine wp_order [(0, [0, 1, 2, 3, 4, 5, 6, 7, 8, 9, 10, 11, 12, 13, 14, 15, 16, 17, 18, 19, 20]), (2, [21]), (0, [22, 23]), (2, [24]), (2, [25]), (0, [26, 27, 28, 29, 31, 32]), (1, [30]), (2, [33]), (0, [34, 35]), (2, [36]), (0, [37, 38])] (by kernel_rfl) (by kernel_rfl) ?_
  refine walk0 ?_
  dsimp only [pickL, nthL]
  go_wp2
  refine ⟨rfl, rfl, ?_⟩
  refine walk2 ?_
  dsimp only [pickL, nthL]
  go_wp2_with fail
  refine (valid_any _ _ (zeros 1000) (hZ.below hB20).drew).mono ?_
  rw [z5]
  rintro e w21 ⟨rfl, hb21⟩
  have hB21 : Below w20.heap.size w20 w21 := un1 hb21
  have hs21 := hB21.size
  have hB1521 : Below w15.heap.size w15 w21 := hB20.trans (hB21.mono (by omega))
  have hB621 : Below w6.heap.size w6 w21 := hB620.trans (hB21.mono (by omega))
  clear hb21 hv20 hw20
  go_wp2_with fail
  refine ⟨rfl, ?_⟩
  refine walk0 ?_
  dsimp only [pickL, nthL]
  go_wp2
  refine ⟨rfl, rfl, ?_⟩
  refine walk2 ?_
  dsimp only [pickL, nthL]
  refine wpList_unguard (by rfl) ?_
  refine wpList_makeN ET28 Tm.enc ⟨0, 0, 0⟩ zz w21 rfl _ _ rfl w21.heap.size _ _ _ _ 1001 rfl rfl rfl rfl (by omega) (by simp only [maxLen]; omega) (Nat.le_refl _) ?_
  intro w22 own22' hb22 hg22
  go_wp2_with fail
  have own22 : OwnT w22 w21.heap.size (.slice (some ⟨w21.heap.size, 0, none⟩) 1001 1001) (zeros 1001) := own22'
  have hs22 := hb22.size
  have hB2022 : Below w20.heap.size w20 w22 := hB21.trans (hb22.mono (by omega))
  clear own22' hg22
  refine ⟨rfl, ?_⟩
  refine walk2 ?_
  dsimp only [pickL, nthL]
  go_wp2_with fail
  refine (valid_any _ _ (zeros 1001) own22.is).mono ?_
  rw [z6]
  rintro e w23 ⟨rfl, hb23⟩
  have hs23 := hb23.size
  have hB2023 : Below w20.heap.size w20 w23 := hB2022.trans (hb23.mono (by omega))
  clear own22
  go_wp2_with fail
  refine ⟨rfl, ?_⟩
  refine walk0 ?_
  dsimp only [pickL, nthL]
  go_wp2
  refine ⟨rfl, rfl, ?_⟩
  refine walk1 ?_
  dsimp only [pickL, nthL]
  go_wp2_with fail
  refine (cancel_any w23 v20 t3 1 1 (hIt.below hB2023) (by decide)).mono ?_
  rw [z7]
  rintro e w24 ⟨v24, rfl, own24, hb24⟩
  have hs24 := hb24.size
  have hB2024 : Below w20.heap.size w20 w24 := hB2023.trans (hb24.mono (by omega))
  have hB624 : Below w6.heap.size w6 w24 := hB620.trans (hB2024.mono (by omega))
  go_wp2_with fail
  refine ⟨rfl, hb24, ?_⟩
  refine walk2 ?_
  dsimp only [pickL, nthL]
  go_wp2_with fail
  refine (same_t w24 v24 _ _ _ own24.is (mid w24 hB624) rfl).mono ?_
  rintro e w25 ⟨rfl, hb25⟩
  have hs25 := hb25.size
  go_wp2_with fail
  refine ⟨rfl, ?_⟩
  refine walk0 ?_
  dsimp only [pickL, nthL]
  go_wp2
  refine ⟨rfl, rfl, ?_⟩
  refine walk2 ?_
  dsimp only [pickL, nthL]
  go_wp2_with fail
  refine (works_any w25).mono ?_
  rintro e w26 ⟨rfl, hb26⟩
  have hs26 := hb26.size
  go_wp2_with fail
  refine ⟨rfl, ?_⟩
  refine walk0 ?_
  dsimp only [pickL, nthL]
  go_wp2
  refine ⟨rfl, rfl, ?_⟩
  refine walk_nil ?_
  go_wp2
  go_ret
  exact ⟨rfl, hB14.trans ((hb15.mono (by have := hB14.size; omega)).trans ((hB19.mono (by have := hB14.size; omega)).trans ((hb20.mono (by have := hB14.size; omega)).trans ((hB2024.mono (by have := hB14.size; omega)).trans ((hb25.mono (by have := hB14.size; omega)).trans (hb26.mono (by have := hB14.size; omega)))))))⟩

set_option maxRecDepth 100000 in
theorem lifted (os : Os) (started : os.Started) (H : Type) (enc : TypeId × Value → H) :
    ReturnsInHanded {} Try.checked os 9 .any (Rows.timersKnownSpec.pre6 enc Try.prog Try.f9 Rows.timersKnownRow.domain false) (Rows.timersKnownSpec.post enc Try.prog Try.f9 false true false false) := by
  refine returnsInHanded_of_change (C := Try.checked) own started (by kernel_rfl) Try.func9
    (ChangeSpec.witness6 (enc := enc) (C := Try.checked) false ⟨#[], #[], []⟩ 8 (by kernel_rfl) (by kernel_rfl) (by kernel_rfl) (by kernel_rfl)) ?_
  intro W base args ds gs before hval0 hW hcnd _
  have hval : ∀ (j : Nat) t v, Try.f9.params[j]? = some t → args[j]? = some v → Value.okWide Try.prog W .any base t v := hval0
  have hW' := hW
  obtain ⟨p, q, hA0, hV, rfl, hfz, hnd⟩ := hW
  have hA : DataW.TrodAll enc Try.prog W 0 (fun _ => true) true Try.f9.params.toList args.toList ds p := hA0
  rw [Try.params9] at hA hval
  obtain ⟨rfl, rfl, rfl⟩ := trodAll_none hA
  obtain ⟨rfl, rfl⟩ := trodVars_none hV
  clear hA0 hval0
  refine (walk W ).mono fun e W' ⟨he, bel⟩ => ?_
  subst he
  exact ⟨_, rfl, _, _, _, [], _, [], hW', trodAll_mk1 (shut_bool Try.underlying4 _), trodAll_mk0, rfl, bel.frame _, fun h => by cases h⟩

theorem over : Rows.timersKnownRow.holds Try.pinned (OpenSpec.ofChange Rows.timersKnownSpec) :=
  OpenClaim.holds_of_wide 9 Try.f9 rfl rfl rfl rfl rfl rfl rfl ⟨rfl, rfl, rfl, rfl, rfl⟩ rfl rfl rfl rfl rfl (by kernel_rfl) Try.func9 (by kernel_rfl)
    (of_decide_eq_true (by kernel_rfl)) (by unfold Func.isWrapper; first | (rw [if_pos (by decide +kernel)]; kernel_rfl) | (rw [if_neg (by decide +kernel)]; exact ⟨rfl, rfl⟩))
    (fun os started H enc _ => lifted os started H enc)

theorem proved : Rows.TimersKnownSaid := over
#print axioms proved
end Go.Proofs.Ytejppifgljjnmaa.timersKnown
