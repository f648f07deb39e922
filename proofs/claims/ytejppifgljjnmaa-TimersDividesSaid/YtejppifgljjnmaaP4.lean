/-
  Due
-/
import Derived.Test.YtejppifgljjnmaaQ
import Derived.WalkKit
import Derived.ProofKit
import Derived.OpenShut
import Derived.ShutString
import Derived.ChangeOld
import Derived.Below
namespace Go.Proofs.Ytejppifgljjnmaa.timersDivides
open Go.ChangeShapes Go.WideShapes Go.ChangeAt Go.RowKit
open Go.ChangeMaps (open_string shut_string)
set_option linter.unusedVariables false
set_option linter.unusedSimpArgs false

theorem own : ownKnob Try.prog.godebug = none := by kernel_rfl
theorem laidOut : laidOutB Try.prog = true := by kernel_rfl

set_option maxRecDepth 100000 in
set_option maxHeartbeats 2000000 in
theorem walk (w : World) (v : Value) (l : List Tm) (hv : IsT w v l) (now : Int) (_ : (Lit.int .i64 now).wf = true) :
    Calls Try.prog 4 #[v, .int .i64 now] w fun e w' => e = .returned (.bool true) ∧ Below w.heap.size w w' := by
  obtain ⟨A, c, rfl, hm, hc, hr⟩ := hv
  obtain ⟨X, hX, hX2, hmin⟩ := min_ex 1100 l.length (by decide)
  have hX2 : X ≤ 1100 := by omega
  have hI := isL_take hr hX hc hm
  have hlX : (l.take X).length = X := by simp; omega
  generalize l.take X = ts at *
  subst hlX
  clear hr
  unfold maxLen at hm
  go_enter Try.func4, Try.ntmps4
  go_wp2_with fail
  refine (copy_any w _ ts hI hX2).mono ?_
  rintro e w1 ⟨x, rfl, ownx, hb1⟩
  have hI1 := hI.below hb1
  go_wp2_with fail
  refine (due_any w1 x ts now ownx.is hX2).mono ?_
  rintro e w2 ⟨a, b, rfl, owna, ownb, hap, hb2⟩
  have hI2 := hI1.below hb2
  have hx2 := ownx.is.below hb2
  go_wp2_with fail
  refine (refDue_any w2 _ ts now hI2 hX2).mono ?_
  rintro e w3 ⟨c1, d1, rfl, ownc, ownd, hb3⟩
  go_wp2_with fail
  refine (refSame_t w3 a c1 _ _ (owna.is.below hb3) ownc.is rfl).mono ?_
  rintro e w4 ⟨rfl, hb4⟩
  have hs1 := hb1.size
  have hs2 := hb2.size
  have hs3 := hb3.size
  have hs4 := hb4.size
  have owna4 := (owna.below hb3).below hb4
  have ownb4 := (ownb.below hb3).below hb4
  have ownd4 := ownd.below hb4
  go_wp2_with fail
  refine (refSame_t w4 b d1 _ _ ownb4.is ownd4.is rfl).mono ?_
  rintro e w5 ⟨rfl, hb5⟩
  have hs5 := hb5.size
  have hI5 := (((hI2.below hb3).below hb4).below hb5)
  have hx5 := (((hx2.below hb3).below hb4).below hb5)
  have owna5 := owna4.below hb5
  have ownb5 := ownb4.below hb5
  have ownd5 := ownd4.below hb5
  go_wp2_with fail
  refine (spoil_any w5 _ a _ owna5).mono ?_
  rintro e w6 ⟨rfl, hg6⟩
  have hb6 : Below w1.heap.size w5 w6 := below_grown owna5 hg6 (by omega)
  have hs6 := hb6.size
  have ownb6 : OwnT w6 w1.heap.size b _ := ownb5.apart hap.symm hg6
  have ownd6 : OwnT w6 w2.heap.size d1 _ := ownd5.kept hg6 fun k hk => (World.ownsRow.lt owna k hk).2
  have hI1' := hI1
  have hB16 : Below w1.heap.size w1 w6 := ((hb2.trans (hb3.mono hs2)).trans ((hb4.mono (by omega)).trans ((hb5.mono (by omega)).trans hb6)))
  have HB : Below w.heap.size w w6 := hb1.trans (hB16.mono hs1)
  clear hb1 hb2 hb3 hb4 hb5 hI hI2 hI5 hx5 hx2 ownd5 ownb5 owna5 ownb4 owna4 ownd4 ownc ownd owna hap hg6
  go_wp2_with fail
  refine (refSame_t w6 b d1 _ _ ownb6.is ownd6.is rfl).mono ?_
  rintro e w7 ⟨rfl, hb7⟩
  have hs7 := hb7.size
  have ownb7 := ownb6.below hb7
  go_wp2_with fail
  refine (spoil_any w7 _ b _ ownb7).mono ?_
  rintro e w8 ⟨rfl, hg8⟩
  have hb8 : Below w1.heap.size w7 w8 := below_grown ownb7 hg8 (by omega)
  have hs8 := hb8.size
  have hB18 : Below w1.heap.size w1 w8 := hB16.trans ((hb7.mono (by omega)).trans hb8)
  have hI8 := hI1.below hB18
  have hx8 := ownx.is.below hB18
  have HB8 : Below w.heap.size w w8 := HB.trans ((hb7.mono (by omega)).trans (hb8.mono hs1))
  go_wp2_with fail
  refine (refSame_t w8 x _ _ _ hx8 hI8 rfl).mono ?_
  rintro e w9 ⟨rfl, hb9⟩
  have hs9 := hb9.size
  go_wp2_with fail
  refine (works_any w9).mono ?_
  rintro e w10 ⟨rfl, hb10⟩
  go_wp2
  go_ret
  exact ⟨rfl, HB8.trans ((hb9.mono (by omega)).trans (hb10.mono (by omega)))⟩

set_option maxRecDepth 100000 in
theorem lifted (os : Os) (started : os.Started) (H : Type) (enc : TypeId × Value → H) :
    ReturnsInHanded {} Try.checked os 4 .any (Rows.timersDividesSpec.pre6 enc Try.prog Try.f4 Rows.timersDividesRow.domain false) (Rows.timersDividesSpec.post enc Try.prog Try.f4 false true false false) := by
  refine returnsInHanded_of_change (C := Try.checked) own started (by kernel_rfl) Try.func4
    (ChangeSpec.witness6 (enc := enc) (C := Try.checked) false ⟨#[], #[.slice none 0 0, .int .i64 0], []⟩ 8 (by kernel_rfl) (by kernel_rfl) (by kernel_rfl) (by kernel_rfl)) ?_
  intro W base args ds gs before hval0 hW hcnd _
  have hval : ∀ (j : Nat) t v, Try.f4.params[j]? = some t → args[j]? = some v → Value.okWide Try.prog W .any base t v := hval0
  have hW' := hW
  obtain ⟨p, q, hA0, hV, rfl, hfz, hnd⟩ := hW
  have hA : DataW.TrodAll enc Try.prog W 0 (fun _ => true) true Try.f4.params.toList args.toList ds p := hA0
  rw [Try.params4] at hA hval
  obtain ⟨v0, vs0, d0, ds0, p0, q0, hargs, rfl, rfl, h0, r0⟩ := trodAll_cons hA
  obtain ⟨v1, vs1, d1, ds1, p1, q1, rfl, rfl, rfl, h1, r1⟩ := trodAll_cons r0
  obtain ⟨rfl, rfl, rfl⟩ := trodAll_nil r1
  obtain rfl : args = #[v0, v1] := by cases args; simp_all
  obtain ⟨rfl, rfl⟩ := trodVars_none hV
  have k0 := h0
  have lt0 : ∀ x ∈ p0, x.block < W.heap.size := by obtain ⟨m, hm⟩ := k0; exact DataW.trod_lt m _ _ _ hm
  obtain ⟨a0, len0, cap0, rfl⟩ := okWide_slice Try.underlying23 (hval 0 23 v0 rfl rfl)
  obtain ⟨l0, w0⟩ : ∃ l, IsT W (.slice a0 len0 cap0) l := by obtain ⟨fuel, hf⟩ := h0; exact openT (by simpa [Value.cells] using hf)
  have k1 := h1
  have lt1 : ∀ x ∈ p1, x.block < W.heap.size := by obtain ⟨m, hm⟩ := k1; exact DataW.trod_lt m _ _ _ hm
  obtain ⟨x1, rfl, rfl, rfl, w1⟩ := open_int Try.underlying3 (hval 1 3 v1 rfl rfl) h1
  clear hA0 hval0
  refine (walk W _ l0 w0 x1 w1).mono fun e W' ⟨he, bel⟩ => ?_
  subst he
  exact ⟨_, rfl, _, _, _, [], _, [], hW', trodAll_mk1 (shut_bool Try.underlying4 _), (trodAll_cons_mk (Below.trod laidOut (by kernel_rfl) (of_decide_eq_true (by kernel_rfl)) k0 bel lt0) (trodAll_cons_mk (Below.trod laidOut (by kernel_rfl) (of_decide_eq_true (by kernel_rfl)) k1 bel lt1) trodAll_mk0)), rfl, bel.frame _, fun h => by cases h⟩

theorem over : Rows.timersDividesRow.holds Try.pinned (OpenSpec.ofChange Rows.timersDividesSpec) :=
  OpenClaim.holds_of_wide 4 Try.f4 rfl rfl rfl rfl rfl rfl rfl ⟨rfl, rfl, rfl, rfl, rfl⟩ rfl rfl rfl rfl rfl (by kernel_rfl) Try.func4 (by kernel_rfl)
    (of_decide_eq_true (by kernel_rfl)) (by unfold Func.isWrapper; first | (rw [if_pos (by decide +kernel)]; kernel_rfl) | (rw [if_neg (by decide +kernel)]; exact ⟨rfl, rfl⟩))
    (fun os started H enc _ => lifted os started H enc)

theorem proved : Rows.TimersDividesSaid := over
#print axioms proved
end Go.Proofs.Ytejppifgljjnmaa.timersDivides
