/-
  Cancel, CancelAll and Count answer as the document does, for every list (cut to 1100), owner and kind, and share no memory. No condition.
-/
import Derived.Test.YtejppifgljjnmaaQ
import Derived.WalkKit
import Derived.ProofKit
import Derived.OpenShut
import Derived.ShutString
import Derived.ChangeOld
import Derived.Below
namespace Go.Proofs.Ytejppifgljjnmaa.timersCancels
open Go.ChangeShapes Go.WideShapes Go.ChangeAt Go.RowKit
open Go.ChangeMaps (open_string shut_string)
set_option linter.unusedVariables false
set_option linter.unusedSimpArgs false

theorem own : ownKnob Try.prog.godebug = none := by kernel_rfl
theorem laidOut : laidOutB Try.prog = true := by kernel_rfl

set_option maxRecDepth 100000 in
set_option maxHeartbeats 2000000 in
theorem walk (w : World) (v : Value) (l : List Tm) (hv : IsT w v l) (owner : Int) (_ : (Lit.int .i64 owner).wf = true) (kind : Int) (_ : (Lit.int .i64 kind).wf = true) :
    Calls Try.prog 7 #[v, .int .i64 owner, .int .i64 kind] w fun e w' => e = .returned (.bool true) ∧ Below w.heap.size w w' := by
  obtain ⟨A, c, rfl, hm, hc, hr⟩ := hv
  obtain ⟨X, hX, hX2, hmin⟩ := min_ex 1100 l.length (by decide)
  have hX2 : X ≤ 1100 := by omega
  have hI := isL_take hr hX hc hm
  have hlX : (l.take X).length = X := by simp; omega
  generalize l.take X = ts at *
  subst hlX
  clear hr
  unfold maxLen at hm
  go_enter Try.func7, Try.ntmps7
  go_wp2_with fail
  refine (copy_any w _ ts hI hX2).mono ?_
  rintro e w1 ⟨x, rfl, ownx, hb1⟩
  have hI1 := hI.below hb1
  have hs1 := hb1.size
  go_wp2_with fail
  refine (cancel_any w1 x ts owner kind ownx.is hX2).mono ?_
  rintro e w2 ⟨a, rfl, owna, hb2⟩
  have hs2 := hb2.size
  go_wp2_with fail
  refine (cancelAll_any w2 x ts owner (ownx.is.below hb2) hX2).mono ?_
  rintro e w3 ⟨b, rfl, ownb, hb3⟩
  have hs3 := hb3.size
  go_wp2_with fail
  refine (refCancel_any w3 _ ts owner kind ((hI1.below hb2).below hb3) hX2).mono ?_
  rintro e w4 ⟨a2, rfl, owna2, hb4⟩
  have hs4 := hb4.size
  go_wp2_with fail
  refine (refSame_t w4 a a2 _ _ ((owna.below hb3).below hb4).is owna2.is rfl).mono ?_
  rintro e w5 ⟨rfl, hb5⟩
  have hs5 := hb5.size
  have hB15 : Below w1.heap.size w1 w5 := hb2.trans ((hb3.mono hs2).trans ((hb4.mono (by omega)).trans (hb5.mono (by omega))))
  go_wp2_with fail
  refine (refCancelAll_any w5 _ ts owner (hI1.below hB15) hX2).mono ?_
  rintro e w6 ⟨b2, rfl, ownb2, hb6⟩
  have hs6 := hb6.size
  go_wp2_with fail
  refine (refSame_t w6 b b2 _ _ (((ownb.below hb4).below hb5).below hb6).is ownb2.is rfl).mono ?_
  rintro e w7 ⟨rfl, hb7⟩
  have hs7 := hb7.size
  have hB17 : Below w1.heap.size w1 w7 := hB15.trans ((hb6.mono (by omega)).trans (hb7.mono (by omega)))
  go_wp2_with fail
  refine (count_any w7 x ts owner (ownx.is.below hB17)).mono ?_
  rintro e w8 ⟨rfl, hb8⟩
  have hs8 := hb8.size
  have hB18 : Below w1.heap.size w1 w8 := hB17.trans (hb8.mono (by omega))
  go_wp2_with fail
  refine (refCount_any w8 _ ts owner (hI1.below hB18) hX2).mono ?_
  rintro e w9 ⟨rfl, hb9⟩
  have hs9 := hb9.size
  have hB19 : Below w1.heap.size w1 w9 := hB18.trans (hb9.mono (by omega))
  have owna9 := (((((((owna.below hb3).below hb4).below hb5).below hb6).below hb7).below hb8).below hb9)
  have ownb9 := ((((((ownb.below hb4).below hb5).below hb6).below hb7).below hb8).below hb9)
  have ea : (countR ts owner == countR ts owner) = true := beq_self_eq_true _
  clear hb2 hb3 hb4 hb5 hb6 hb7 hb8 hb9 hB15 hB17 hB18 owna2 ownb2 hI
  go_wp2_with fail
  refine (spoil_any w9 _ a _ owna9).mono ?_
  rintro e w10 ⟨rfl, hg10⟩
  have hb10 : Below w1.heap.size w9 w10 := below_grown owna9 hg10 (by omega)
  have hs10 := hb10.size
  have ownb10 : OwnT w10 w2.heap.size b _ := ownb9.kept hg10 fun k hk => (World.ownsRow.lt owna k hk).2
  go_wp2_with fail
  refine (spoil_any w10 _ b _ ownb10).mono ?_
  rintro e w11 ⟨rfl, hg11⟩
  have hb11 : Below w2.heap.size w10 w11 := below_grown ownb10 hg11 (by omega)
  have hs11 := hb11.size
  have hB : Below w1.heap.size w1 w11 := hB19.trans (hb10.trans (hb11.mono (by omega)))
  go_wp2_with fail
  refine (refSame_t w11 x _ _ _ (ownx.is.below hB) (hI1.below hB) rfl).mono ?_
  rintro e w12 ⟨rfl, hb12⟩
  have hs12 := hb12.size
  go_wp2_with fail
  refine (works_any w12).mono ?_
  rintro e w13 ⟨rfl, hb13⟩
  go_wp2
  go_ret
  exact ⟨rfl, hb1.trans ((hB.mono hs1).trans ((hb12.mono (by omega)).trans (hb13.mono (by omega))))⟩

set_option maxRecDepth 100000 in
theorem lifted (os : Os) (started : os.Started) (H : Type) (enc : TypeId × Value → H) :
    ReturnsInHanded {} Try.checked os 7 .any (Rows.timersCancelsSpec.pre6 enc Try.prog Try.f7 Rows.timersCancelsRow.domain false) (Rows.timersCancelsSpec.post enc Try.prog Try.f7 false true false false) := by
  refine returnsInHanded_of_change (C := Try.checked) own started (by kernel_rfl) Try.func7
    (ChangeSpec.witness6 (enc := enc) (C := Try.checked) false ⟨#[], #[.slice none 0 0, .int .i64 0, .int .i64 0], []⟩ 8 (by kernel_rfl) (by kernel_rfl) (by kernel_rfl) (by kernel_rfl)) ?_
  intro W base args ds gs before hval0 hW hcnd _
  have hval : ∀ (j : Nat) t v, Try.f7.params[j]? = some t → args[j]? = some v → Value.okWide Try.prog W .any base t v := hval0
  have hW' := hW
  obtain ⟨p, q, hA0, hV, rfl, hfz, hnd⟩ := hW
  have hA : DataW.TrodAll enc Try.prog W 0 (fun _ => true) true Try.f7.params.toList args.toList ds p := hA0
  rw [Try.params7] at hA hval
  obtain ⟨v0, vs0, d0, ds0, p0, q0, hargs, rfl, rfl, h0, r0⟩ := trodAll_cons hA
  obtain ⟨v1, vs1, d1, ds1, p1, q1, rfl, rfl, rfl, h1, r1⟩ := trodAll_cons r0
  obtain ⟨v2, vs2, d2, ds2, p2, q2, rfl, rfl, rfl, h2, r2⟩ := trodAll_cons r1
  obtain ⟨rfl, rfl, rfl⟩ := trodAll_nil r2
  obtain rfl : args = #[v0, v1, v2] := by cases args; simp_all
  obtain ⟨rfl, rfl⟩ := trodVars_none hV
  have k0 := h0
  have lt0 : ∀ x ∈ p0, x.block < W.heap.size := by obtain ⟨m, hm⟩ := k0; exact DataW.trod_lt m _ _ _ hm
  obtain ⟨a0, len0, cap0, rfl⟩ := okWide_slice Try.underlying23 (hval 0 23 v0 rfl rfl)
  obtain ⟨l0, w0⟩ : ∃ l, IsT W (.slice a0 len0 cap0) l := by obtain ⟨fuel, hf⟩ := h0; exact openT (by simpa [Value.cells] using hf)
  have k1 := h1
  have lt1 : ∀ x ∈ p1, x.block < W.heap.size := by obtain ⟨m, hm⟩ := k1; exact DataW.trod_lt m _ _ _ hm
  obtain ⟨x1, rfl, rfl, rfl, w1⟩ := open_int Try.underlying3 (hval 1 3 v1 rfl rfl) h1
  have k2 := h2
  have lt2 : ∀ x ∈ p2, x.block < W.heap.size := by obtain ⟨m, hm⟩ := k2; exact DataW.trod_lt m _ _ _ hm
  obtain ⟨x2, rfl, rfl, rfl, w2⟩ := open_int Try.underlying3 (hval 2 3 v2 rfl rfl) h2
  clear hA0 hval0
  refine (walk W _ l0 w0 x1 w1 x2 w2).mono fun e W' ⟨he, bel⟩ => ?_
  subst he
  exact ⟨_, rfl, _, _, _, [], _, [], hW', trodAll_mk1 (shut_bool Try.underlying4 _), (trodAll_cons_mk (Below.trod laidOut (by kernel_rfl) (of_decide_eq_true (by kernel_rfl)) k0 bel lt0) (trodAll_cons_mk (Below.trod laidOut (by kernel_rfl) (of_decide_eq_true (by kernel_rfl)) k1 bel lt1) (trodAll_cons_mk (Below.trod laidOut (by kernel_rfl) (of_decide_eq_true (by kernel_rfl)) k2 bel lt2) trodAll_mk0))), rfl, bel.frame _, fun h => by cases h⟩

theorem over : Rows.timersCancelsRow.holds Try.pinned (OpenSpec.ofChange Rows.timersCancelsSpec) :=
  OpenClaim.holds_of_wide 7 Try.f7 rfl rfl rfl rfl rfl rfl rfl ⟨rfl, rfl, rfl, rfl, rfl⟩ rfl rfl rfl rfl rfl (by kernel_rfl) Try.func7 (by kernel_rfl)
    (of_decide_eq_true (by kernel_rfl)) (by unfold Func.isWrapper; first | (rw [if_pos (by decide +kernel)]; kernel_rfl) | (rw [if_neg (by decide +kernel)]; exact ⟨rfl, rfl⟩))
    (fun os started H enc _ => lifted os started H enc)

theorem proved : Rows.TimersCancelsSaid := over
#print axioms proved
end Go.Proofs.Ytejppifgljjnmaa.timersCancels
