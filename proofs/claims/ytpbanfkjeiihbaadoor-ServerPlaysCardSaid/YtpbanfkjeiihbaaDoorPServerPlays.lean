/-
  ServerPlays: whatever happens, the machine stays possible and puts out nothing after its end.
-/
import Derived.Test.YtpbanfkjeiihbaaDoorQW2
import Derived.Test.YtpbanfkjeiihbaaDoorTie
import Derived.Test.YtpbanfkjeiihbaaDoorCards
import Derived.WalkKit
import Derived.ProofKit
import Derived.OpenShut
import Derived.ShutString
import Derived.ChangeOld
import Derived.Below
import Derived.LaidMore
import Derived.Stop.Joined
import Derived.SevenTiedAt
namespace Go.Proofs.YtpbanfkjeiihbaaDoor.serverPlays
open Go.ChangeShapes Go.WideShapes Go.ChangeAt Go.RowKit
open Go.ChangeMaps (open_string shut_string)
set_option linter.unusedVariables false
set_option linter.unusedSimpArgs false

theorem own : ownKnob Tryd.prog.godebug = none := by kernel_rfl
theorem laidOut : laidOutB Tryd.prog = true := by kernel_rfl

set_option maxRecDepth 100000 in
set_option maxHeartbeats 4000000 in
theorem walk (w : World) (hG : Gl w) (vl : Value) (l : List Ev) (hv : IsV w vl l) : Calls Tryd.prog 7 #[vl] w fun e w' => e = .returned (.bool true) ∧ Below w.heap.size w w' := by
  obtain ⟨d, hI⟩ := inv_play l (fun e he => (hv.2 e he).1)
  have hg : 0 < w.heap.size := hG.1
  go_enter Tryd.func7, Tryd.ntmps7
  go_wp2_with fail
  refine (play_any _ vl l hv hG).mono ?_
  rintro e w1 ⟨v1, rfl, hA1, hG1, hb1, hnow, hlen⟩
  generalize playS stepS startS l = s at *
  have cn := hA1.cn
  go_wp2_with fail
  refine (until_any _ w.heap.size v1 s (s.now + 32000) hA1 hG1 hg (by omega) (by omega) (by omega)).mono ?_
  rintro e w2 ⟨rfl, v2, hA2, hG2, hb2, hnow2, hlen2⟩
  obtain ⟨d', hI2, hn, hd', hf1, hf2, hcd⟩ := hI.until (s.now + 32000) (by omega)
  have hst5 : (untilS stepS s (s.now + 32000)).m.st ≠ 5 := by
    intro h5
    have h0 := hI2.run h5
    have h6 := hI.d0
    by_cases hd : 0 ≤ d ∧ d ≤ s.now + 32000
    · have := (hf1 hd).2; omega
    · rcases h6 with h6 | h6
      · have := (hf2 (.inl h6)).1; omega
      · omega
  have HN := Lib.hid hn
  clear hn hd' hf1 hf2 hI cn hcd
  generalize untilS stepS s (s.now + 32000) = s2 at *
  have hb3 := hb1.trans hb2
  clear hb1 hb2 hA1 hG1
  have c0 := hA2.c0
  have c1 := hA2.c1
  have c2 := hA2.c2
  have cn := hA2.cn
  go_wp2_with fail
  refine (may_any _ s2.m).mono ?_
  rw [hI2.may]
  rintro e w3 ⟨rfl, hb4⟩
  have hA3 := hA2.below hb4
  have hb5 := hb3.trans (hb4.mono (Nat.le_of_lt hA2.lt))
  have e3 : countS s2.log 3 s2.now 0 1000 = 1 := hI2.users
  have E3 := Lib.hid e3
  have e5 : (s2.m.st != 5) = true := by simpa using hst5
  clear c0 c1 c2 cn hA2 hG2 hb4 hb3 e3 hst5
  have c0 := hA3.c0
  have cn := hA3.cn
  go_wp2_with fail
  refine (count_any _ w.heap.size v2 s2 3 s2.now 0 1000 hA3 (by omega)).mono ?_
  rw [E3.out]
  rintro e w4 ⟨rfl, rfl⟩
  go_wp2_with fail
  refine (closed_t _ w.heap.size v2 s2 d' hA3 hI2 (by omega)).mono ?_
  rintro e w5 ⟨rfl, n, rfl⟩
  have hb6 := below_drewN hb5 n
  go_wp2_with fail
  refine (works_any _ (hG.keep hb6 hg)).mono ?_
  rintro e w6 ⟨rfl, hb7⟩
  go_wp2
  go_ret
  exact ⟨rfl, hb6.trans (hb7.mono (Nat.le_of_lt hA3.lt))⟩

set_option maxRecDepth 100000 in
theorem lifted (os : Os) (started : os.Started) (H : Type) (enc : TypeId × Value → H) :
    ReturnsInHanded {} Tryd.checked os 7 .any (fun w args => (Rows.serverPlaysSpec.pre enc Tryd.prog Tryd.f7 [] false w args ∧ laidMetH Tryd.prog laidL w) ∧ sizedMet enc Tryd.prog Tryd.f7 (OpenSpec.ofChange Rows.serverPlaysSpec) false w args)
      (Rows.serverPlaysSpec.post enc Tryd.prog Tryd.f7 false true false false) := by
  refine returnsInHanded_of_change_and (C := Tryd.checked) (X := fun w _ => laidMetH Tryd.prog laidL w) (fun _ _ _ hh h => h.of_heap hh) own started (by kernel_rfl) Tryd.func7
    (ChangeSpec.witness_shaped (enc := enc) (C := Tryd.checked) (os := os) (X := fun w _ => laidMetH Tryd.prog laidL w) false (World.doorLaid Tryd.prog 32 os) #[.slice none 0 0] 8 rfl (World.shaped_of_RefB (by kernel_rfl) (by kernel_rfl)) (by kernel_rfl) (by kernel_rfl) (by kernel_rfl) (door_met os _)) ?_
  intro W base args ds gs before hval0 hW _ _ hL _
  have hG : Gl W := of_laid hL
  have hval : ∀ (j : Nat) t v, Tryd.f7.params[j]? = some t → args[j]? = some v → Value.okWide Tryd.prog W .any base t v := hval0
  have hW' := hW
  obtain ⟨p, q, hA0, hV, rfl, hfz, hnd⟩ := hW
  have hA : DataW.TrodAll enc Tryd.prog W 0 (fun _ => true) true Tryd.f7.params.toList args.toList ds p := hA0
  rw [Tryd.params7] at hA hval
  obtain ⟨v0, vs0, d0, ds0, p0, q0, hargs, rfl, rfl, h0, r0⟩ := trodAll_cons hA
  obtain ⟨rfl, rfl, rfl⟩ := trodAll_nil r0
  obtain rfl : args = #[v0] := by cases args; simp_all
  obtain ⟨rfl, rfl⟩ := trodVars_none hV
  have k0 := h0
  have lt0 : ∀ x ∈ p0, x.block < W.heap.size := by obtain ⟨m, hm⟩ := k0; exact DataW.trod_lt m _ _ _ hm
  obtain ⟨a0, len0, cap0, rfl⟩ := okWide_slice Tryd.underlying37 (hval 0 37 v0 rfl rfl)
  obtain ⟨l0, w0⟩ : ∃ l, IsV W (.slice a0 len0 cap0) l := by obtain ⟨fuel, hf⟩ := h0; exact openV (by simpa [Value.cells] using hf)
  clear hA0 hval0
  refine (walk W hG _ l0 w0).mono fun e W' ⟨he, bel⟩ => ?_
  subst he
  exact ⟨_, rfl, _, _, _, [], _, [], hW', trodAll_mk1 (shut_bool Tryd.underlying4 _), (trodAll_cons_mk (Below.trod laidOut (by kernel_rfl) (of_decide_eq_true (by kernel_rfl)) k0 bel lt0) trodAll_mk0), rfl, bel.frame _, fun h => by cases h⟩

theorem over : Rows.serverPlaysRow.holds Tryd.pinned (OpenSpec.ofChange Rows.serverPlaysSpec) :=
  OpenClaim.holds_of_wide 7 Tryd.f7 rfl rfl rfl rfl rfl rfl rfl ⟨rfl, rfl, rfl, rfl, rfl⟩ rfl rfl rfl rfl rfl (by kernel_rfl) Tryd.func7 (by kernel_rfl)
    (of_decide_eq_true (by kernel_rfl)) (by unfold Func.isWrapper; first | (rw [if_pos (by decide +kernel)]; kernel_rfl) | (rw [if_neg (by decide +kernel)]; exact ⟨rfl, rfl⟩))
    (fun os started H enc _ => lifted os started H enc)

theorem proved : Rows.ServerPlaysCardSaid :=
  Claim7.holds_tied_plain_at .later [] [.data] true (true, "a2d4ae7b1565fcea008c727d22566f56b555f77010d9d0d6f90ecc07139cc9c3") false
    over (fun _ h => by cases h) (by kernel_rfl) (fun _ h => by cases h) serverPlays_row_tie rfl ⟨rfl, rfl⟩ (by kernel_rfl) rfl
    (fun f fn hf hfn => by
      obtain rfl : f = 7 := Option.some.inj ((show Tryd.prog.funcNamed "dialtone/dialtonelaw15.ServerPlays" = some 7 by kernel_rfl).symm.trans hf) |>.symm
      obtain rfl : fn = Tryd.f7 := (Option.some.inj (Tryd.func7.symm.trans hfn)).symm
      exact ⟨by kernel_rfl, fun j t ht => by
        rw [Tryd.params7] at ht
        have hm : t ∈ [37] := by simpa using Array.mem_of_getElem? ht
        have hall : ([37].all fun u => !Tryd.prog.wantsStandIn u) = true := by kernel_rfl
        exact (show Tryd.prog.wantsStandIn t = false by simpa using List.all_eq_true.1 hall t hm)⟩)
    (by kernel_rfl)
#print axioms proved
end Go.Proofs.YtpbanfkjeiihbaaDoor.serverPlays
