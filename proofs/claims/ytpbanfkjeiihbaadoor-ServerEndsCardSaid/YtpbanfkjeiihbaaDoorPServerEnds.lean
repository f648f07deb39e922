/-
  ServerEnds: after a final answer the machine is over 32000 ms later, or as soon as sending fails.
-/
import Derived.Test.YtpbanfkjeiihbaaDoorQ2
import Derived.Test.YtpbanfkjeiihbaaDoorTie
import Derived.Test.YtpbanfkjeiihbaaDoorCards
import Derived.WalkKit
import Derived.ProofKit
import Derived.OpenShut
import Derived.ShutString
import Derived.ChangeOld
import Derived.Below
import Derived.LaidMore
import Derived.Stop.Joined
import Derived.SevenTiedAt
namespace Go.Proofs.YtpbanfkjeiihbaaDoor.serverEnds
open Go.ChangeShapes Go.WideShapes Go.ChangeAt Go.RowKit
open Go.ChangeMaps (open_string shut_string)
set_option linter.unusedVariables false
set_option linter.unusedSimpArgs false

theorem own : ownKnob Tryd.prog.godebug = none := by kernel_rfl
theorem laidOut : laidOutB Tryd.prog = true := by kernel_rfl

set_option maxRecDepth 100000 in
set_option maxHeartbeats 8000000 in
theorem walk (w : World) (hG : Gl w) (x : Int) (hx : (Lit.int .u16 x).wf = true) (f : Int) (hf : (Lit.int .u16 f).wf = true) : Calls Tryd.prog 6 #[.int .u16 x, .int .u16 f] w fun e w' => e = .returned (.bool true) ∧ Below w.heap.size w w' := by
  have hx' : 0 ≤ x ∧ x ≤ 65535 := by simp [Lit.wf, IntKind.min, IntKind.max, IntKind.signed, IntKind.bits] at hx; omega
  have hf' : 0 ≤ f ∧ f ≤ 65535 := by simp [Lit.wf, IntKind.min, IntKind.max, IntKind.signed, IntKind.bits] at hf; omega
  obtain ⟨hx0, hx1⟩ := hx'
  obtain ⟨hf0, hf1⟩ := hf'
  clear hx hf
  have hg : 0 < w.heap.size := hG.1
  have hc1 : 100 ≤ 100 + x % 600 := by omega
  have hc2 : 100 + x % 600 ≤ 699 := by omega
  go_enter Tryd.func6, Tryd.ntmps6
  go_wp2_with fail
  generalize 100 + x % 600 = c at *
  refine (start_sim _ hG).mono ?_
  rintro e wa ⟨v1, rfl, hA, hGa, hb⟩
  go_wp2_with fail
  refine (until_any _ w.heap.size v1 startS 3000 hA hGa hg (by rw [startS_now]; omega) (by omega) (by have := startS_log; omega)).mono ?_
  rw [e1]
  rintro e wb ⟨rfl, v2, hA2, hGb, hb2, _, _⟩
  replace hb := hb.trans hb2
  clear hA hGa hb2
  go_wp2_with fail
  refine (give_any _ w.heap.size v2 s3000 ⟨6, 0, 0⟩ hA2 hGb hg (by decide) (by decide)).mono ?_
  rw [e2]
  rintro e wa ⟨rfl, v1, hA, hb2⟩
  replace hb := hb.trans hb2
  have hGa := hG.keep hb hg
  clear hA2 hGb hb2
  go_wp2_with fail
  by_cases hc : c < 200
  · have hs := eA hc1 (by omega)
    refine (give_any _ w.heap.size v1 s3000 ⟨4, c, 0⟩ hA hGa hg (by decide) (by decide)).mono ?_
    rw [hs]
    rintro e wb ⟨rfl, v2, hA2, hb2⟩
    replace hb := hb.trans hb2
    have hGb := hG.keep hb hg
    clear hA hGa hb2 hs
    by_cases ht : f < 32000
    · go_wp2_with fail
      refine (until_any _ w.heap.size v2 (sA c) (3000 + f) hA2 hGb hg (by show (0 : Int) ≤ 3000 ∧ (3000 : Int) ≤ _; omega) (by omega) (by show 2 ≤ _; omega)).mono ?_
      rw [eA2 hc1 (by omega) hf0]
      have hI : Inv (atT (sA c) (3000 + f)) (-1) := by
        have := (invA hc1 (by omega : c ≤ 199)).later (3000 + f) (by show (3000 : Int) ≤ _; omega) (.inl rfl)
        rw [endS_at (by show (3000 : Int) ≤ _; omega)] at this
        exact this
      have hF := eF (s := atT (sA c) (3000 + f)) hI.may (.inl rfl)
      have hC : countS (failS (atT (sA c) (3000 + f))).log 6 (3000 + f) 0 1000 = 1 := by simp [countS, failS, atT, sA, hitB]
      obtain ⟨d, hJ⟩ := hI.give ⟨6, 0, 0⟩
      rw [hF] at hJ
      generalize hs4 : atT (sA c) (3000 + f) = s4 at *
      have hm4 : s4.m = ⟨3, 0, c⟩ := by rw [← hs4]; rfl
      have hn4 : s4.now = 3000 + f := by rw [← hs4]; rfl
      have hl4 : s4.log.length = 2 := by rw [← hs4]; rfl
      rintro e wa ⟨rfl, v1, hA, hGa, hb2, _, _⟩
      replace hb := hb.trans hb2
      have c0 := hA.c0
      rw [hm4] at c0
      have HM := Lib.hid hm4
      have HN := Lib.hid hn4
      have HL := Lib.hid hl4
      have HS := Lib.hid hs4
      clear hm4 hn4 hl4 hs4 hA2 hGb hb2
      go_wp2_with fail
      refine (give_any _ w.heap.size v1 s4 ⟨6, 0, 0⟩ hA hGa hg (by rw [HN.out]; omega) (by rw [HL.out]; omega)).mono ?_
      rw [hF]
      have HC := Lib.hid hC
      clear hF hC
      rintro e wb ⟨rfl, v2, hA2, hb2⟩
      replace hb := hb.trans hb2
      have hGb := hG.keep hb hg
      have d0 := hA2.c0
      have d1 := hA2.c1
      have d2 := hA2.c2
      have dn := hA2.cn
      simp only [failS] at d0 d1 d2 dn
      rw [HM.out] at d2
      rw [HN.out] at dn
      have hlf : (failS s4).log.length = 4 := by simp [failS, HL.out]
      have HLF := Lib.hid hlf
      clear hA hGa hb2 c0 hlf
      go_wp2_with fail
      refine (count_any _ w.heap.size v2 (failS s4) 6 (3000 + f) 0 1000 hA2 (by rw [HLF.out]; omega)).mono ?_
      rw [HC.out]
      rintro e wc ⟨rfl, rfl⟩
      clear d0 d1 d2 dn
      go_wp2_with fail
      refine (closed_t _ w.heap.size v2 _ d hA2 hJ (by rw [HLF.out]; omega)).mono ?_
      rintro e wd ⟨rfl, n, rfl⟩
      go_wp2_with fail
      have hb6 := below_drewN hb n
      refine (works_any _ (hG.keep hb6 hg)).mono ?_
      rintro e we ⟨rfl, hb7⟩
      go_wp2
      go_ret
      exact ⟨rfl, hb6.trans (hb7.mono (Nat.le_of_lt hA2.lt))⟩
    · rcases (show f = 32000 ∨ 32000 < f by omega) with rfl | ht2
      all_goals
        go_wp2_with fail
        refine (until_any _ w.heap.size v2 (sA c) 35000 hA2 hGb hg (by show (0 : Int) ≤ 3000 ∧ (3000 : Int) ≤ _; omega) (by omega) (by show 2 ≤ _; omega)).mono ?_
        rw [eA3 hc1 (by omega)]
        have hI := invA3 hc1 (by omega : c ≤ 199)
        rintro e wa ⟨rfl, v1, hA, hGa, hb2, _, _⟩
        replace hb := hb.trans hb2
        have c0 : wa.cell? ⟨w.heap.size, 0, none⟩ = some (.int .u8 3) := hA.c0
        have c1 : wa.cell? ⟨w.heap.size, 1, none⟩ = some (.int .i64 0) := hA.c1
        have c2 : wa.cell? ⟨w.heap.size, 2, none⟩ = some (.int .i64 c) := hA.c2
        clear hA2 hGb hb2
        go_wp2_with fail
        refine (closed_t _ w.heap.size v1 _ (-1) hA hI (by show 2 ≤ _; omega)).mono ?_
        rintro e wd ⟨rfl, n, rfl⟩
        clear c0 c1 c2
        go_wp2_with fail
        have hb6 := below_drewN hb n
        refine (works_any _ (hG.keep hb6 hg)).mono ?_
        rintro e we ⟨rfl, hb7⟩
        go_wp2
        go_ret
        exact ⟨rfl, hb6.trans (hb7.mono (Nat.le_of_lt hA.lt))⟩
  · have hc' : 200 ≤ c := by omega
    have hs := eB hc' hc2
    refine (give_any _ w.heap.size v1 s3000 ⟨4, c, 0⟩ hA hGa hg (by decide) (by decide)).mono ?_
    rw [hs]
    rintro e wb ⟨rfl, v2, hA2, hb2⟩
    replace hb := hb.trans hb2
    have hGb := hG.keep hb hg
    clear hA hGa hb2 hs
    by_cases ht : f < 32000
    · go_wp2_with fail
      refine (until_any _ w.heap.size v2 (sB c) (3000 + f) hA2 hGb hg (by show (0 : Int) ≤ 3000 ∧ (3000 : Int) ≤ _; omega) (by omega) (by show 3 ≤ _; omega)).mono ?_
      rw [eB2 hc' hc2 hf0 ht]
      have hI : Inv (atT (sB c) (3000 + f)) 35000 := by
        have := (invB hc' hc2).later (3000 + f) (by show (3000 : Int) ≤ _; omega) (.inr (by omega))
        rw [endS_at (by show (3000 : Int) ≤ _; omega)] at this
        exact this
      have hF := eF (s := atT (sB c) (3000 + f)) hI.may (.inr rfl)
      have hC : countS (failS (atT (sB c) (3000 + f))).log 6 (3000 + f) 0 1000 = 1 := by simp [countS, failS, atT, sB, hitB]
      obtain ⟨d, hJ⟩ := hI.give ⟨6, 0, 0⟩
      rw [hF] at hJ
      generalize hs4 : atT (sB c) (3000 + f) = s4 at *
      have hm4 : s4.m = ⟨5, 0, c⟩ := by rw [← hs4]; rfl
      have hn4 : s4.now = 3000 + f := by rw [← hs4]; rfl
      have hl4 : s4.log.length = 3 := by rw [← hs4]; rfl
      rintro e wa ⟨rfl, v1, hA, hGa, hb2, _, _⟩
      replace hb := hb.trans hb2
      have c0 := hA.c0
      rw [hm4] at c0
      have HM := Lib.hid hm4
      have HN := Lib.hid hn4
      have HL := Lib.hid hl4
      have HS := Lib.hid hs4
      clear hm4 hn4 hl4 hs4 hA2 hGb hb2
      go_wp2_with fail
      refine (give_any _ w.heap.size v1 s4 ⟨6, 0, 0⟩ hA hGa hg (by rw [HN.out]; omega) (by rw [HL.out]; omega)).mono ?_
      rw [hF]
      have HC := Lib.hid hC
      clear hF hC
      rintro e wb ⟨rfl, v2, hA2, hb2⟩
      replace hb := hb.trans hb2
      have hGb := hG.keep hb hg
      have d0 := hA2.c0
      have d1 := hA2.c1
      have d2 := hA2.c2
      have dn := hA2.cn
      simp only [failS] at d0 d1 d2 dn
      rw [HM.out] at d2
      rw [HN.out] at dn
      have hlf : (failS s4).log.length = 5 := by simp [failS, HL.out]
      have HLF := Lib.hid hlf
      clear hA hGa hb2 c0 hlf
      go_wp2_with fail
      refine (count_any _ w.heap.size v2 (failS s4) 6 (3000 + f) 0 1000 hA2 (by rw [HLF.out]; omega)).mono ?_
      rw [HC.out]
      rintro e wc ⟨rfl, rfl⟩
      clear d0 d1 d2 dn
      go_wp2_with fail
      refine (closed_t _ w.heap.size v2 _ d hA2 hJ (by rw [HLF.out]; omega)).mono ?_
      rintro e wd ⟨rfl, n, rfl⟩
      go_wp2_with fail
      have hb6 := below_drewN hb n
      refine (works_any _ (hG.keep hb6 hg)).mono ?_
      rintro e we ⟨rfl, hb7⟩
      go_wp2
      go_ret
      exact ⟨rfl, hb6.trans (hb7.mono (Nat.le_of_lt hA2.lt))⟩
    · rcases (show f = 32000 ∨ 32000 < f by omega) with rfl | ht2
      all_goals
        go_wp2_with fail
        refine (until_any _ w.heap.size v2 (sB c) 35000 hA2 hGb hg (by show (0 : Int) ≤ 3000 ∧ (3000 : Int) ≤ _; omega) (by omega) (by show 3 ≤ _; omega)).mono ?_
        rw [eB4 hc' hc2]
        obtain ⟨d, hI⟩ := invE hc' hc2
        rintro e wa ⟨rfl, v1, hA, hGa, hb2, _, _⟩
        replace hb := hb.trans hb2
        have c0 : wa.cell? ⟨w.heap.size, 0, none⟩ = some (.int .u8 7) := hA.c0
        have c1 : wa.cell? ⟨w.heap.size, 1, none⟩ = some (.int .i64 0) := hA.c1
        have c2 : wa.cell? ⟨w.heap.size, 2, none⟩ = some (.int .i64 c) := hA.c2
        have cn : wa.cell? ⟨w.heap.size, 17, none⟩ = some (.int .i64 35000) := hA.cn
        have hC1 : Hid (countS (sE c).log 7 34999 0 1000 = 0) := by show _ = _; simp [countS, sE, hitB]
        have hC2 : Hid (countS (sE c).log 6 35000 0 1000 = 0) := by show _ = _; simp [countS, sE, hitB]
        clear hA2 hGb hb2
        go_wp2_with fail
        refine (count_any _ w.heap.size v1 (sE c) 7 34999 0 1000 hA (by show 4 ≤ _; omega)).mono ?_
        rw [hC1.out]
        rintro e wc ⟨rfl, rfl⟩
        go_wp2_with fail
        refine (count_any _ w.heap.size v1 (sE c) 6 35000 0 1000 hA (by show 4 ≤ _; omega)).mono ?_
        rw [hC2.out]
        rintro e wc ⟨rfl, rfl⟩
        go_wp2_with fail
        refine (closed_t _ w.heap.size v1 _ d hA hI (by show 4 ≤ _; omega)).mono ?_
        rintro e wd ⟨rfl, n, rfl⟩
        clear c0 c1 c2 cn
        go_wp2_with fail
        have hb6 := below_drewN hb n
        refine (works_any _ (hG.keep hb6 hg)).mono ?_
        rintro e we ⟨rfl, hb7⟩
        go_wp2
        go_ret
        exact ⟨rfl, hb6.trans (hb7.mono (Nat.le_of_lt hA.lt))⟩

set_option maxRecDepth 100000 in
theorem lifted (os : Os) (started : os.Started) (H : Type) (enc : TypeId × Value → H) :
    ReturnsInHanded {} Tryd.checked os 6 .any (fun w args => (Rows.serverEndsSpec.pre enc Tryd.prog Tryd.f6 [] false w args ∧ laidMetH Tryd.prog laidL w) ∧ sizedMet enc Tryd.prog Tryd.f6 (OpenSpec.ofChange Rows.serverEndsSpec) false w args)
      (Rows.serverEndsSpec.post enc Tryd.prog Tryd.f6 false true false false) := by
  refine returnsInHanded_of_change_and (C := Tryd.checked) (X := fun w _ => laidMetH Tryd.prog laidL w) (fun _ _ _ hh h => h.of_heap hh) own started (by kernel_rfl) Tryd.func6
    (ChangeSpec.witness_shaped (enc := enc) (C := Tryd.checked) (os := os) (X := fun w _ => laidMetH Tryd.prog laidL w) false (World.doorLaid Tryd.prog 32 os) #[.int .u16 0, .int .u16 0] 8 rfl (World.shaped_of_RefB (by kernel_rfl) (by kernel_rfl)) (by kernel_rfl) (by kernel_rfl) (by kernel_rfl) (door_met os _)) ?_
  intro W base args ds gs before hval0 hW _ _ hL _
  have hG : Gl W := of_laid hL
  have hval : ∀ (j : Nat) t v, Tryd.f6.params[j]? = some t → args[j]? = some v → Value.okWide Tryd.prog W .any base t v := hval0
  have hW' := hW
  obtain ⟨p, q, hA0, hV, rfl, hfz, hnd⟩ := hW
  have hA : DataW.TrodAll enc Tryd.prog W 0 (fun _ => true) true Tryd.f6.params.toList args.toList ds p := hA0
  rw [Tryd.params6] at hA hval
  obtain ⟨v0, vs0, d0, ds0, p0, q0, hargs, rfl, rfl, h0, r0⟩ := trodAll_cons hA
  obtain ⟨v1, vs1, d1, ds1, p1, q1, rfl, rfl, rfl, h1, r1⟩ := trodAll_cons r0
  obtain ⟨rfl, rfl, rfl⟩ := trodAll_nil r1
  obtain rfl : args = #[v0, v1] := by cases args; simp_all
  obtain ⟨rfl, rfl⟩ := trodVars_none hV
  have k0 := h0
  have lt0 : ∀ x ∈ p0, x.block < W.heap.size := by obtain ⟨m, hm⟩ := k0; exact DataW.trod_lt m _ _ _ hm
  obtain ⟨x0, rfl, rfl, rfl, w0⟩ := open_int Tryd.underlying45 (hval 0 45 v0 rfl rfl) h0
  have k1 := h1
  have lt1 : ∀ x ∈ p1, x.block < W.heap.size := by obtain ⟨m, hm⟩ := k1; exact DataW.trod_lt m _ _ _ hm
  obtain ⟨x1, rfl, rfl, rfl, w1⟩ := open_int Tryd.underlying45 (hval 1 45 v1 rfl rfl) h1
  clear hA0 hval0
  refine (walk W hG x0 w0 x1 w1).mono fun e W' ⟨he, bel⟩ => ?_
  subst he
  exact ⟨_, rfl, _, _, _, [], _, [], hW', trodAll_mk1 (shut_bool Tryd.underlying4 _), (trodAll_cons_mk (Below.trod laidOut (by kernel_rfl) (of_decide_eq_true (by kernel_rfl)) k0 bel lt0) (trodAll_cons_mk (Below.trod laidOut (by kernel_rfl) (of_decide_eq_true (by kernel_rfl)) k1 bel lt1) trodAll_mk0)), rfl, bel.frame _, fun h => by cases h⟩

theorem over : Rows.serverEndsRow.holds Tryd.pinned (OpenSpec.ofChange Rows.serverEndsSpec) :=
  OpenClaim.holds_of_wide 6 Tryd.f6 rfl rfl rfl rfl rfl rfl rfl ⟨rfl, rfl, rfl, rfl, rfl⟩ rfl rfl rfl rfl rfl (by kernel_rfl) Tryd.func6 (by kernel_rfl)
    (of_decide_eq_true (by kernel_rfl)) (by unfold Func.isWrapper; first | (rw [if_pos (by decide +kernel)]; kernel_rfl) | (rw [if_neg (by decide +kernel)]; exact ⟨rfl, rfl⟩))
    (fun os started H enc _ => lifted os started H enc)

theorem proved : Rows.ServerEndsCardSaid :=
  Claim7.holds_tied_plain_at .later [] [.data] true (true, "a2d4ae7b1565fcea008c727d22566f56b555f77010d9d0d6f90ecc07139cc9c3") false
    over (fun _ h => by cases h) (by kernel_rfl) (fun _ h => by cases h) serverEnds_row_tie rfl ⟨rfl, rfl⟩ (by kernel_rfl) rfl
    (fun f fn hf hfn => by
      obtain rfl : f = 6 := Option.some.inj ((show Tryd.prog.funcNamed "dialtone/dialtonelaw15.ServerEnds" = some 6 by kernel_rfl).symm.trans hf) |>.symm
      obtain rfl : fn = Tryd.f6 := (Option.some.inj (Tryd.func6.symm.trans hfn)).symm
      exact ⟨by kernel_rfl, fun j t ht => by
        rw [Tryd.params6] at ht
        have hm : t ∈ [45, 45] := by simpa using Array.mem_of_getElem? ht
        have hall : ([45, 45].all fun u => !Tryd.prog.wantsStandIn u) = true := by kernel_rfl
        exact (show Tryd.prog.wantsStandIn t = false by simpa using List.all_eq_true.1 hall t hm)⟩)
    (by kernel_rfl)
#print axioms proved
end Go.Proofs.YtpbanfkjeiihbaaDoor.serverEnds
