/-
  ServerKnown: the examples and limits.
-/
import Derived.Test.YtpbanfkjeiihbaaDoorQ2
import Derived.Test.YtpbanfkjeiihbaaDoorTie
import Derived.Test.YtpbanfkjeiihbaaDoorCards
import Derived.WalkKit
import Derived.ProofKit
import Derived.OpenShut
import Derived.ShutString
import Derived.ChangeOld
import Derived.Below
import Derived.LaidMore
import Derived.Stop.Joined
import Derived.SevenTiedAt
namespace Go.Proofs.YtpbanfkjeiihbaaDoor.serverKnown
open Go.ChangeShapes Go.WideShapes Go.ChangeAt Go.RowKit
open Go.ChangeMaps (open_string shut_string)
set_option linter.unusedVariables false
set_option linter.unusedSimpArgs false

theorem own : ownKnob Tryd.prog.godebug = none := by kernel_rfl
theorem laidOut : laidOutB Tryd.prog = true := by kernel_rfl

def sK : Sim := ⟨⟨7, 0, 404⟩, dueJ 32000, 0, [⟨0, ⟨3, 0, 0, 0⟩⟩, ⟨0, ⟨1, 404, 0, 0⟩⟩, ⟨0, ⟨4, 0, 10, 32000⟩⟩, ⟨0, ⟨6, 0, 0, 0⟩⟩, ⟨0, ⟨7, 0, 0, 0⟩⟩]⟩
def sK1 : Sim := ⟨⟨5, 0, 404⟩, dueJ 32000, 0, [⟨0, ⟨3, 0, 0, 0⟩⟩, ⟨0, ⟨1, 404, 0, 0⟩⟩, ⟨0, ⟨4, 0, 10, 32000⟩⟩]⟩
theorem k1 : giveS stepS startS ⟨5, 0, 10⟩ = startS := by decide
theorem k2 : giveS stepS startS ⟨4, 99, 0⟩ = startS := by decide
theorem k3 : giveS stepS startS ⟨4, 700, 0⟩ = startS := by decide
theorem k4 : giveS stepS startS ⟨3, 0, 0⟩ = startS := by decide
theorem k5 : giveS stepS startS ⟨4, 404, 0⟩ = sK1 := by decide
theorem k6 : giveS stepS sK1 ⟨4, 500, 0⟩ = sK1 := by decide
theorem k7 : giveS stepS sK1 ⟨6, 0, 0⟩ = sK := by decide
theorem k8 : giveS stepS sK ⟨1, 0, 0⟩ = sK := by decide
set_option maxRecDepth 100000 in
set_option maxHeartbeats 8000000 in
theorem walk (w : World) (hG : Gl w) : Calls Tryd.prog 8 #[] w fun e w' => e = .returned (.bool true) ∧ Below w.heap.size w w' := by
  have hg : 0 < w.heap.size := hG.1
  go_enter Tryd.func8, Tryd.ntmps8
  go_wp2_with fail
  refine (start_sim _ hG).mono ?_
  rintro e w0 ⟨v0, rfl, hA, hGa, hb⟩
  go_wp2_with fail
  refine (give_any _ w.heap.size v0 startS ⟨5, 0, 10⟩ hA hGa hg (by decide) (by decide)).mono ?_
  rw [k1]
  rintro e w1 ⟨rfl, v1, hA', hb'⟩
  replace hb := hb.trans hb'
  replace hGa := hG.keep hb hg
  replace hA := hA'
  clear hA' hb'
  go_wp2_with fail
  refine (give_any _ w.heap.size v1 startS ⟨4, 99, 0⟩ hA hGa hg (by decide) (by decide)).mono ?_
  rw [k2]
  rintro e w2 ⟨rfl, v2, hA', hb'⟩
  replace hb := hb.trans hb'
  replace hGa := hG.keep hb hg
  replace hA := hA'
  clear hA' hb'
  go_wp2_with fail
  refine (give_any _ w.heap.size v2 startS ⟨4, 700, 0⟩ hA hGa hg (by decide) (by decide)).mono ?_
  rw [k3]
  rintro e w3 ⟨rfl, v3, hA', hb'⟩
  replace hb := hb.trans hb'
  replace hGa := hG.keep hb hg
  replace hA := hA'
  clear hA' hb'
  go_wp2_with fail
  refine (give_any _ w.heap.size v3 startS ⟨3, 0, 0⟩ hA hGa hg (by decide) (by decide)).mono ?_
  rw [k4]
  rintro e w4 ⟨rfl, v4, hA', hb'⟩
  replace hb := hb.trans hb'
  replace hGa := hG.keep hb hg
  replace hA := hA'
  clear hA' hb'
  obtain ⟨A4, c4, hv4, _, _, _⟩ := hA.log.is
  rw [show startS.log.length = 1 by decide] at hv4
  subst hv4
  have m0 : w4.cell? ⟨w.heap.size, 0, none⟩ = some (.int .u8 2) := hA.c0
  have m1 : w4.cell? ⟨w.heap.size, 1, none⟩ = some (.int .i64 0) := hA.c1
  have m2 : w4.cell? ⟨w.heap.size, 2, none⟩ = some (.int .i64 0) := hA.c2
  have ml := hA.cl
  go_wp2_with fail
  clear m0 m1 m2 ml
  refine (give_any _ w.heap.size _ startS ⟨4, 404, 0⟩ hA hGa hg (by decide) (by decide)).mono ?_
  rw [k5]
  rintro e w5 ⟨rfl, v5, hA', hb'⟩
  replace hb := hb.trans hb'
  replace hGa := hG.keep hb hg
  replace hA := hA'
  clear hA' hb'
  go_wp2_with fail
  refine (give_any _ w.heap.size v5 sK1 ⟨4, 500, 0⟩ hA hGa hg (by decide) (by decide)).mono ?_
  rw [k6]
  rintro e w6 ⟨rfl, v6, hA', hb'⟩
  replace hb := hb.trans hb'
  replace hGa := hG.keep hb hg
  replace hA := hA'
  clear hA' hb'
  go_wp2_with fail
  refine (give_any _ w.heap.size v6 sK1 ⟨6, 0, 0⟩ hA hGa hg (by decide) (by decide)).mono ?_
  rw [k7]
  rintro e w7 ⟨rfl, v7, hA', hb'⟩
  replace hb := hb.trans hb'
  replace hGa := hG.keep hb hg
  replace hA := hA'
  clear hA' hb'
  go_wp2_with fail
  refine (give_any _ w.heap.size v7 sK ⟨1, 0, 0⟩ hA hGa hg (by decide) (by decide)).mono ?_
  rw [k8]
  rintro e w8 ⟨rfl, v8, hA', hb'⟩
  replace hb := hb.trans hb'
  replace hGa := hG.keep hb hg
  replace hA := hA'
  clear hA' hb'
  have m0 : w8.cell? ⟨w.heap.size, 0, none⟩ = some (.int .u8 7) := hA.c0
  have m1 : w8.cell? ⟨w.heap.size, 1, none⟩ = some (.int .i64 0) := hA.c1
  have m2 : w8.cell? ⟨w.heap.size, 2, none⟩ = some (.int .i64 404) := hA.c2
  have mn : w8.cell? ⟨w.heap.size, 17, none⟩ = some (.int .i64 0) := hA.cn
  go_wp2_with fail
  refine (count_any _ w.heap.size v8 sK 1 0 0 1000 hA (by decide)).mono ?_
  rw [show countS sK.log 1 0 0 1000 = 1 by decide]
  rintro e w9 ⟨rfl, rfl⟩
  clear m0 m1 m2 mn
  go_wp2_with fail
  refine (closed_any _ w.heap.size v8 sK hA (by decide)).mono ?_
  rw [show closedS sK = true by decide]
  rintro e w9 ⟨rfl, n, rfl⟩
  have hbn := below_drewN hb n
  have hGn := hG.keep hbn hg
  have hsz : w.heap.size ≤ (w8.drewN n).heap.size := Nat.le_of_lt hA.lt
  go_wp2_with fail
  generalize w8.drewN n = wq at *
  clear hb hGa hA
  refine (step_at _ ⟨3, 0, 0⟩ ⟨1, 0, 0⟩ ⟨0, 0, 0⟩ [] (by decide) hGn).mono ?_
  rintro e wa ⟨va, rfl, hown, hb2⟩
  obtain ⟨A5, c5, hv5, _, _, _⟩ := hown.is
  rw [List.length_nil] at hv5
  subst hv5
  go_wp2_with fail
  have hb3 := (hbn.trans (hb2.mono hsz)).alloc (Nat.le_trans hsz hb2.size) (.cells #[.int .u8 0, .int .i64 0, .int .i64 0] 24)
  have B2 := Blk.new wa 24 #[.int .u8 0, .int .i64 0, .int .i64 0]
  have hG3 := hG.keep hb3 hg
  have hs3 : w.heap.size ≤ (wa.alloc (.cells #[.int .u8 0, .int .i64 0, .int .i64 0] 24)).heap.size := Nat.le_trans (Nat.le_trans hsz hb2.size) (by simp)
  generalize wa.alloc (.cells #[.int .u8 0, .int .i64 0, .int .i64 0] 24) = wb at *
  clear hbn hGn hsz hb2 hown
  refine (step_at _ ⟨2, 500, 0⟩ ⟨4, 200, 0⟩ ⟨0, 0, 0⟩ [] (by decide) hG3).mono ?_
  rintro e wc ⟨vc, rfl, hown, hb4⟩
  obtain ⟨A6, c6, hv6, _, _, _⟩ := hown.is
  rw [List.length_nil] at hv6
  subst hv6
  have B2' := B2.ext hb4
  have q2 := B2'.cell
  have z2 := B2'.lt
  have hs4 := Nat.le_trans hs3 hb4.size
  have hb5 := hb3.trans (hb4.mono hs3)
  go_wp2_with fail
  clear q2
  refine (may_any _ ⟨0, 0, 0⟩).mono ?_
  rw [show mayB ⟨0, 0, 0⟩ = false by decide]
  rintro e wd ⟨rfl, hb6⟩
  have hb7 := (hb5.alloc hs4 (.cells #[.int .u8 0, .int .i64 0, .int .i64 0] 24)).trans (hb6.mono (Nat.le_trans hs4 (by simp)))
  have hs7 : w.heap.size ≤ wd.heap.size := Nat.le_trans (Nat.le_trans hs4 (by simp)) hb6.size
  go_wp2_with fail
  refine (may_any _ ⟨7, 0, 100⟩).mono ?_
  rw [show mayB ⟨7, 0, 100⟩ = true by decide]
  rintro e we ⟨rfl, hb8⟩
  have hb9 := hb7.trans (hb8.mono hs7)
  go_wp2_with fail
  refine (works_any _ (hG.keep hb9 hg)).mono ?_
  rintro e wf ⟨rfl, hb10⟩
  go_wp2
  go_ret
  exact ⟨rfl, hb9.trans (hb10.mono (Nat.le_trans hs7 hb8.size))⟩

set_option maxRecDepth 100000 in
theorem lifted (os : Os) (started : os.Started) (H : Type) (enc : TypeId × Value → H) :
    ReturnsInHanded {} Tryd.checked os 8 .any (fun w args => (Rows.serverKnownSpec.pre enc Tryd.prog Tryd.f8 [] false w args ∧ laidMetH Tryd.prog laidL w) ∧ sizedMet enc Tryd.prog Tryd.f8 (OpenSpec.ofChange Rows.serverKnownSpec) false w args)
      (Rows.serverKnownSpec.post enc Tryd.prog Tryd.f8 false true false false) := by
  refine returnsInHanded_of_change_and (C := Tryd.checked) (X := fun w _ => laidMetH Tryd.prog laidL w) (fun _ _ _ hh h => h.of_heap hh) own started (by kernel_rfl) Tryd.func8
    (ChangeSpec.witness_shaped (enc := enc) (C := Tryd.checked) (os := os) (X := fun w _ => laidMetH Tryd.prog laidL w) false (World.doorLaid Tryd.prog 32 os) #[] 8 rfl (World.shaped_of_RefB (by kernel_rfl) (by kernel_rfl)) (by kernel_rfl) (by kernel_rfl) (by kernel_rfl) (door_met os _)) ?_
  intro W base args ds gs before hval0 hW _ _ hL _
  have hG : Gl W := of_laid hL
  have hval : ∀ (j : Nat) t v, Tryd.f8.params[j]? = some t → args[j]? = some v → Value.okWide Tryd.prog W .any base t v := hval0
  have hW' := hW
  obtain ⟨p, q, hA0, hV, rfl, hfz, hnd⟩ := hW
  have hA : DataW.TrodAll enc Tryd.prog W 0 (fun _ => true) true Tryd.f8.params.toList args.toList ds p := hA0
  rw [Tryd.params8] at hA hval
  obtain ⟨hargs, rfl, rfl⟩ := trodAll_none hA
  obtain rfl : args = #[] := by first | exact hargs | (cases args; simp_all)
  obtain ⟨rfl, rfl⟩ := trodVars_none hV
  clear hA0 hval0
  refine (walk W hG ).mono fun e W' ⟨he, bel⟩ => ?_
  subst he
  exact ⟨_, rfl, _, _, _, [], _, [], hW', trodAll_mk1 (shut_bool Tryd.underlying4 _), trodAll_mk0, rfl, bel.frame _, fun h => by cases h⟩

theorem over : Rows.serverKnownRow.holds Tryd.pinned (OpenSpec.ofChange Rows.serverKnownSpec) :=
  OpenClaim.holds_of_wide 8 Tryd.f8 rfl rfl rfl rfl rfl rfl rfl ⟨rfl, rfl, rfl, rfl, rfl⟩ rfl rfl rfl rfl rfl (by kernel_rfl) Tryd.func8 (by kernel_rfl)
    (of_decide_eq_true (by kernel_rfl)) (by unfold Func.isWrapper; first | (rw [if_pos (by decide +kernel)]; kernel_rfl) | (rw [if_neg (by decide +kernel)]; exact ⟨rfl, rfl⟩))
    (fun os started H enc _ => lifted os started H enc)

theorem proved : Rows.ServerKnownCardSaid :=
  Claim7.holds_tied_plain_at .later [] [.data] true (true, "a2d4ae7b1565fcea008c727d22566f56b555f77010d9d0d6f90ecc07139cc9c3") false
    over (fun _ h => by cases h) (by kernel_rfl) (fun _ h => by cases h) serverKnown_row_tie rfl ⟨rfl, rfl⟩ (by kernel_rfl) rfl
    (fun f fn hf hfn => by
      obtain rfl : f = 8 := Option.some.inj ((show Tryd.prog.funcNamed "dialtone/dialtonelaw15.ServerKnown" = some 8 by kernel_rfl).symm.trans hf) |>.symm
      obtain rfl : fn = Tryd.f8 := (Option.some.inj (Tryd.func8.symm.trans hfn)).symm
      exact ⟨by kernel_rfl, fun j t ht => by
        rw [Tryd.params8] at ht
        simp at ht⟩)
    (by kernel_rfl)
#print axioms proved
end Go.Proofs.YtpbanfkjeiihbaaDoor.serverKnown
