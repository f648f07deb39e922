/-
  ServerSteps: Start, May and Step return what the chapter specifies.
-/
import Derived.Test.YtpbanfkjeiihbaaDoorW2
import Derived.Test.YtpbanfkjeiihbaaDoorTie
import Derived.Test.YtpbanfkjeiihbaaDoorCards
import Derived.WalkKit
import Derived.ProofKit
import Derived.OpenShut
import Derived.ShutString
import Derived.ChangeOld
import Derived.Below
import Derived.LaidMore
import Derived.Stop.Joined
import Derived.SevenTiedAt
namespace Go.Proofs.YtpbanfkjeiihbaaDoor.serverSteps
open Go.ChangeShapes Go.WideShapes Go.ChangeAt Go.RowKit
open Go.ChangeMaps (open_string shut_string)
set_option linter.unusedVariables false
set_option linter.unusedSimpArgs false

theorem own : ownKnob Tryd.prog.godebug = none := by kernel_rfl
theorem laidOut : laidOutB Tryd.prog = true := by kernel_rfl

set_option maxRecDepth 100000 in
set_option maxHeartbeats 4000000 in
theorem walk (w : World) (hG : Gl w) (vm : Value) (m : Mc) (hm : IsM w vm m) (vi : Value) (i : Tin) (hi : IsI w vi i) : Calls Tryd.prog 3 #[vm, vi] w fun e w' => e = .returned (.bool true) ∧ Below w.heap.size w w' := by
  obtain rfl := hm
  obtain ⟨rfl, ik0, ik1, it0, it1⟩ := hi
  have hb1 : Below w.heap.size w ((w.alloc (.cells #[.int .u8 m.st, .int .i64 m.wait, .int .i64 m.code] 24)).alloc (.cells #[.int .u8 i.kind, .int .i64 i.code, .int .u8 i.timer] 28)) := ((Below.refl _ _).alloc (Nat.le_refl _) _).alloc (by simp) _
  have b0 := (Blk.new w 24 #[.int .u8 m.st, .int .i64 m.wait, .int .i64 m.code]).alloc (.cells #[.int .u8 i.kind, .int .i64 i.code, .int .u8 i.timer] 28)
  have b1 : Blk ((w.alloc (.cells #[.int .u8 m.st, .int .i64 m.wait, .int .i64 m.code] 24)).alloc (.cells #[.int .u8 i.kind, .int .i64 i.code, .int .u8 i.timer] 28)) (w.heap.size + 1) 28 #[.int .u8 i.kind, .int .i64 i.code, .int .u8 i.timer] := blk_new (by simp) _ _ _ rfl
  go_enter Tryd.func3, Tryd.ntmps3
  go_wp2_with fail
  generalize (w.alloc (.cells #[.int .u8 m.st, .int .i64 m.wait, .int .i64 m.code] 24)).alloc (.cells #[.int .u8 i.kind, .int .i64 i.code, .int .u8 i.timer] 28) = w1 at *
  obtain ⟨N, hN⟩ : ∃ N, N = w.heap.size := ⟨_, rfl⟩
  rw [← hN] at b0 b1 hb1 ⊢
  have hN0 : 0 < N := by rw [hN]; exact hG.1
  have HN := Lib.hid hN; clear hN
  refine (start_any _).mono ?_
  rintro e w2 ⟨v1, rfl, hown1, hb2⟩
  have c0 := (b0.ext hb2).cell
  have c1 := (b1.ext hb2).cell
  have z0 := (b0.ext hb2).lt
  have z1 := (b1.ext hb2).lt
  have hNw : N ≤ w1.heap.size := Nat.le_of_lt b0.lt
  go_wp2_with fail
  have B0 := (b0.ext hb2).alloc (.cells #[.int .u8 2, .int .i64 0, .int .i64 0] 24)
  have B1 := (b1.ext hb2).alloc (.cells #[.int .u8 2, .int .i64 0, .int .i64 0] 24)
  have B5 := Blk.new w2 24 #[.int .u8 2, .int .i64 0, .int .i64 0]
  have hI1 := (hown1.is).alloc (.cells #[.int .u8 2, .int .i64 0, .int .i64 0] 24)
  have hbw := (hb1.trans (hb2.mono hNw)).alloc (Nat.le_trans hNw hb2.size) (.cells #[.int .u8 2, .int .i64 0, .int .i64 0] 24)
  clear c0 c1 z0 z1 hown1 b0 b1 hb1
  generalize w2.alloc (.cells #[.int .u8 2, .int .i64 0, .int .i64 0] 24) = w3 at *
  refine (refStart_any _).mono ?_
  rintro e w4 ⟨v2, rfl, hown2, hb4⟩
  have c0 := (B0.ext hb4).cell
  have c1 := (B1.ext hb4).cell
  have c5 := (B5.ext hb4).cell
  have z0 := (B0.ext hb4).lt
  have z1 := (B1.ext hb4).lt
  have z5 := (B5.ext hb4).lt
  go_wp2_with fail
  have C0 := (B0.ext hb4).alloc (.cells #[.int .u8 2, .int .i64 0, .int .i64 0] 24)
  have C1 := (B1.ext hb4).alloc (.cells #[.int .u8 2, .int .i64 0, .int .i64 0] 24)
  have hJ1 := (hI1.below hb4).alloc (.cells #[.int .u8 2, .int .i64 0, .int .i64 0] 24)
  have hJ2 := (hown2.is).alloc (.cells #[.int .u8 2, .int .i64 0, .int .i64 0] 24)
  have hbx := (hbw.trans (hb4.mono (Nat.le_of_lt B0.lt))).alloc (Nat.le_trans (Nat.le_of_lt B0.lt) hb4.size) (.cells #[.int .u8 2, .int .i64 0, .int .i64 0] 24)
  clear hown2 hI1 B0 B1 B5 hbw c0 c1 c5 z0 z1 z5
  generalize w4.alloc (.cells #[.int .u8 2, .int .i64 0, .int .i64 0] 24) = w5 at *
  refine (same_t _ v1 v2 _ hJ1 hJ2).mono ?_
  rintro e w6 ⟨rfl, hb6⟩
  have D0 := C0.ext hb6
  have D1 := C1.ext hb6
  have hby : Below N w w6 := hbx.trans (hb6.mono (Nat.le_of_lt C0.lt))
  clear C0 C1 hJ1 hJ2 hbx hb6
  have c0 := D0.cell
  have c1 := D1.cell
  go_wp2_with fail
  refine (stepLaw _ m i (hG.keep hby hN0)).mono ?_
  rintro e w7 ⟨rfl, hb7⟩
  have E0 := D0.ext hb7
  have E1 := D1.ext hb7
  have hbz : Below N w w7 := hby.trans (hb7.mono (Nat.le_of_lt D0.lt))
  clear c0 c1 hby hb7 D0 D1
  have c0 := E0.cell
  have c1 := E1.cell
  have f1 := E1.frozen
  have hgt : N + 1 ≠ N := by omega
  go_wp2_with fail
  have hbq := below_set (below_set hbz (show N ≤ N + 1 by omega) 0 (.int .u8 (i.kind % 8))) (show N ≤ N + 1 by omega) 2 (.int .u8 (i.timer % 15))
  have hGq := hG.keep hbq hN0
  have hsq := hbq.size
  refine (stepLaw _ m ⟨i.kind % 8, i.code, i.timer % 15⟩ hGq).mono ?_
  rintro e w8 ⟨rfl, hb8⟩
  have hNs : N ≤ ((w7.setCell ⟨N + 1, 0, none⟩ (.int .u8 (i.kind % 8))).setCell ⟨N + 1, 2, none⟩ (.int .u8 (i.timer % 15))).heap.size := by
    have := E0.lt
    simp [World.setCell]; omega
  have hb9 := hbq.trans (hb8.mono hNs)
  clear c0 c1 f1 E0 E1 hbz
  go_wp2_with fail
  refine (works_any _ (hG.keep hb9 hN0)).mono ?_
  rintro e w10 ⟨rfl, hb10⟩
  go_wp2
  go_ret
  exact ⟨rfl, by rw [← HN.out]; exact hb9.trans (hb10.mono (Nat.le_trans hNs hb8.size))⟩

set_option maxRecDepth 100000 in
theorem lifted (os : Os) (started : os.Started) (H : Type) (enc : TypeId × Value → H) :
    ReturnsInHanded {} Tryd.checked os 3 .any (fun w args => (Rows.serverStepsSpec.pre enc Tryd.prog Tryd.f3 [] false w args ∧ laidMetH Tryd.prog laidL w) ∧ sizedMet enc Tryd.prog Tryd.f3 (OpenSpec.ofChange Rows.serverStepsSpec) false w args)
      (Rows.serverStepsSpec.post enc Tryd.prog Tryd.f3 false true false false) := by
  refine returnsInHanded_of_change_and (C := Tryd.checked) (X := fun w _ => laidMetH Tryd.prog laidL w) (fun _ _ _ hh h => h.of_heap hh) own started (by kernel_rfl) Tryd.func3
    (ChangeSpec.witness_shaped (enc := enc) (C := Tryd.checked) (os := os) (X := fun w _ => laidMetH Tryd.prog laidL w) false (World.doorLaid Tryd.prog 32 os) #[.agg #[.int .u8 0, .int .i64 0, .int .i64 0], .agg #[.int .u8 0, .int .i64 0, .int .u8 0]] 8 rfl (World.shaped_of_RefB (by kernel_rfl) (by kernel_rfl)) (by kernel_rfl) (by kernel_rfl) (by kernel_rfl) (door_met os _)) ?_
  intro W base args ds gs before hval0 hW _ _ hL _
  have hG : Gl W := of_laid hL
  have hval : ∀ (j : Nat) t v, Tryd.f3.params[j]? = some t → args[j]? = some v → Value.okWide Tryd.prog W .any base t v := hval0
  have hW' := hW
  obtain ⟨p, q, hA0, hV, rfl, hfz, hnd⟩ := hW
  have hA : DataW.TrodAll enc Tryd.prog W 0 (fun _ => true) true Tryd.f3.params.toList args.toList ds p := hA0
  rw [Tryd.params3] at hA hval
  obtain ⟨v0, vs0, d0, ds0, p0, q0, hargs, rfl, rfl, h0, r0⟩ := trodAll_cons hA
  obtain ⟨v1, vs1, d1, ds1, p1, q1, rfl, rfl, rfl, h1, r1⟩ := trodAll_cons r0
  obtain ⟨rfl, rfl, rfl⟩ := trodAll_nil r1
  obtain rfl : args = #[v0, v1] := by cases args; simp_all
  obtain ⟨rfl, rfl⟩ := trodVars_none hV
  have k0 := h0
  have lt0 : ∀ x ∈ p0, x.block < W.heap.size := by obtain ⟨m, hm⟩ := k0; exact DataW.trod_lt m _ _ _ hm
  obtain ⟨l0, w0⟩ : ∃ l, IsM W v0 l := openM (hval 0 24 v0 rfl rfl) h0
  have k1 := h1
  have lt1 : ∀ x ∈ p1, x.block < W.heap.size := by obtain ⟨m, hm⟩ := k1; exact DataW.trod_lt m _ _ _ hm
  obtain ⟨l1, w1⟩ : ∃ l, IsI W v1 l := openI (hval 1 28 v1 rfl rfl) h1
  clear hA0 hval0
  refine (walk W hG _ l0 w0 _ l1 w1).mono fun e W' ⟨he, bel⟩ => ?_
  subst he
  exact ⟨_, rfl, _, _, _, [], _, [], hW', trodAll_mk1 (shut_bool Tryd.underlying4 _), (trodAll_cons_mk (Below.trod laidOut (by kernel_rfl) (of_decide_eq_true (by kernel_rfl)) k0 bel lt0) (trodAll_cons_mk (Below.trod laidOut (by kernel_rfl) (of_decide_eq_true (by kernel_rfl)) k1 bel lt1) trodAll_mk0)), rfl, bel.frame _, fun h => by cases h⟩

theorem over : Rows.serverStepsRow.holds Tryd.pinned (OpenSpec.ofChange Rows.serverStepsSpec) :=
  OpenClaim.holds_of_wide 3 Tryd.f3 rfl rfl rfl rfl rfl rfl rfl ⟨rfl, rfl, rfl, rfl, rfl⟩ rfl rfl rfl rfl rfl (by kernel_rfl) Tryd.func3 (by kernel_rfl)
    (of_decide_eq_true (by kernel_rfl)) (by unfold Func.isWrapper; first | (rw [if_pos (by decide +kernel)]; kernel_rfl) | (rw [if_neg (by decide +kernel)]; exact ⟨rfl, rfl⟩))
    (fun os started H enc _ => lifted os started H enc)

theorem proved : Rows.ServerStepsCardSaid :=
  Claim7.holds_tied_plain_at .later [] [.data] true (true, "a2d4ae7b1565fcea008c727d22566f56b555f77010d9d0d6f90ecc07139cc9c3") false
    over (fun _ h => by cases h) (by kernel_rfl) (fun _ h => by cases h) serverSteps_row_tie rfl ⟨rfl, rfl⟩ (by kernel_rfl) rfl
    (fun f fn hf hfn => by
      obtain rfl : f = 3 := Option.some.inj ((show Tryd.prog.funcNamed "dialtone/dialtonelaw15.ServerSteps" = some 3 by kernel_rfl).symm.trans hf) |>.symm
      obtain rfl : fn = Tryd.f3 := (Option.some.inj (Tryd.func3.symm.trans hfn)).symm
      exact ⟨by kernel_rfl, fun j t ht => by
        rw [Tryd.params3] at ht
        have hm : t ∈ [24, 28] := by simpa using Array.mem_of_getElem? ht
        have hall : ([24, 28].all fun u => !Tryd.prog.wantsStandIn u) = true := by kernel_rfl
        exact (show Tryd.prog.wantsStandIn t = false by simpa using List.all_eq_true.1 hall t hm)⟩)
    (by kernel_rfl)
#print axioms proved
end Go.Proofs.YtpbanfkjeiihbaaDoor.serverSteps
