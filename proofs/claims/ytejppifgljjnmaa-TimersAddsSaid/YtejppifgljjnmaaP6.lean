/-
  Valid, Next, Add and Restart answer as the document does, for every list (cut to 1100) and timer, and share no memory. No condition.
-/
import Derived.Test.YtejppifgljjnmaaQ
import Derived.WalkKit
import Derived.ProofKit
import Derived.OpenShut
import Derived.ShutString
import Derived.ChangeOld
import Derived.Below
namespace Go.Proofs.Ytejppifgljjnmaa.timersAdds
open Go.ChangeShapes Go.WideShapes Go.ChangeAt Go.RowKit
open Go.ChangeMaps (open_string shut_string)
set_option linter.unusedVariables false
set_option linter.unusedSimpArgs false

theorem own : ownKnob Try.prog.godebug = none := by kernel_rfl
theorem laidOut : laidOutB Try.prog = true := by kernel_rfl

set_option maxRecDepth 100000 in
set_option maxHeartbeats 4000000 in
theorem walk (w : World) (v : Value) (l : List Tm) (hv : IsT w v l) (tv : Value) (t : Tm) (htv : IsTv w tv t) :
    Calls Try.prog 6 #[v, tv] w fun e w' => e = .returned (.bool true) ∧ Below w.heap.size w w' := by
  have htv' : tv = t.val := htv
  subst htv'
  clear htv
  obtain ⟨A, c, rfl, hm, hc, hr⟩ := hv
  obtain ⟨X, hX, hX2, hmin⟩ := min_ex 1100 l.length (by decide)
  have hX2 : X ≤ 1100 := by omega
  have hI := (isL_take hr hX hc hm).alloc (.cells #[.int .i64 t.at_, .int .i64 t.owner, .int .i64 t.kind] 28)
  have hB0 := Blk.new w 28 #[.int .i64 t.at_, .int .i64 t.owner, .int .i64 t.kind]
  have hbw : Below w.heap.size w (w.alloc (.cells #[.int .i64 t.at_, .int .i64 t.owner, .int .i64 t.kind] 28)) := (Below.refl _ _).alloc (Nat.le_refl _) _
  have hs0 := hbw.size
  have hlX : (l.take X).length = X := by simp; omega
  generalize l.take X = ts at *
  subst hlX
  clear hr
  unfold maxLen at hm
  go_enter Try.func6, Try.ntmps6
  go_wp2_with fail
  generalize w.alloc (.cells #[.int .i64 t.at_, .int .i64 t.owner, .int .i64 t.kind] 28) = w0 at *
  refine (copy_any w0 _ ts hI hX2).mono ?_
  rintro e w1 ⟨x, rfl, ownx, hb1⟩
  have hI1 := hI.below hb1
  have hs1 := hb1.size
  have hB1 := hB0.ext hb1
  go_wp2_with fail
  refine (next_any w1 x ts ownx.is).mono ?_
  rintro e w2 ⟨rfl, hb2⟩
  have hs2 := hb2.size
  go_wp2_with fail
  refine (refNext_any w2 _ ts (hI1.below hb2)).mono ?_
  rintro e w3 ⟨rfl, hb3⟩
  have hs3 := hb3.size
  have hB13 : Below w1.heap.size w1 w3 := hb2.trans (hb3.mono hs2)
  go_wp2_with fail
  refine (valid_any w3 x ts (ownx.is.below hB13)).mono ?_
  rintro e w4 ⟨rfl, hb4⟩
  have hs4 := hb4.size
  have hB14 : Below w1.heap.size w1 w4 := hB13.trans (hb4.mono (by omega))
  go_wp2_with fail
  refine (refValid_any w4 _ ts (hI1.below hB14)).mono ?_
  rintro e w5 ⟨rfl, hb5⟩
  have hs5 := hb5.size
  have hB15 : Below w1.heap.size w1 w5 := hB14.trans (hb5.mono (by omega))
  have hc5 := (hB1.below hB15 hB1.lt).cell
  have ne1 : (validB ts != validB ts) = false := by simp
  have ne2 : ((nextR ts).1 != (nextR ts).1) = false := by simp
  have ne3 : ((nextR ts).2 != (nextR ts).2) = false := by simp
  clear hb2 hb3 hb4 hb5 hB13 hB14
  go_wp2_with fail
  refine (add_any w5 x ts t (ownx.is.below hB15) hX2).mono ?_
  rintro e w6 ⟨a, rfl, owna, hb6⟩
  have hs6 := hb6.size
  have hB16 : Below w1.heap.size w1 w6 := hB15.trans (hb6.mono (by omega))
  have hc6 := (hB1.below hB16 hB1.lt).cell
  clear hc5
  go_wp2_with fail
  refine (refAdd_any w6 _ ts t (hI1.below hB16) hX2).mono ?_
  rintro e w7 ⟨a2, rfl, owna2, hb7⟩
  have hs7 := hb7.size
  have hB17 : Below w1.heap.size w1 w7 := hB16.trans (hb7.mono (by omega))
  have ne4 : ((addR ts t).2 != (addR ts t).2) = false := by simp
  clear hc6
  go_wp2_with fail
  refine (refSame_t w7 a a2 _ _ (owna.below hb7).is owna2.is rfl).mono ?_
  rintro e w8 ⟨rfl, hb8⟩
  have hs8 := hb8.size
  have owna8 := (owna.below hb7).below hb8
  have hB18 : Below w1.heap.size w1 w8 := hB17.trans (hb8.mono (by omega))
  clear hb6 hb7 hb8 hB15 hB16 hB17 owna2
  go_wp2_with fail
  refine (spoil_any w8 _ a _ owna8).mono ?_
  rintro e w9 ⟨rfl, hg9⟩
  have hb9 : Below w5.heap.size w8 w9 := below_grown owna8 hg9 (by omega)
  have hs9 := hb9.size
  have hB19 : Below w1.heap.size w1 w9 := hB18.trans (hb9.mono (by omega))
  have hc9 := (hB1.below hB19 hB1.lt).cell
  clear hb9 hB18 owna owna8 hg9
  go_wp2_with fail
  refine (restart_any w9 x ts t (ownx.is.below hB19) hX2).mono ?_
  rintro e w10 ⟨b, rfl, ownb, hb10⟩
  have hs10 := hb10.size
  have hB110 : Below w1.heap.size w1 w10 := hB19.trans (hb10.mono (by omega))
  have hc10 := (hB1.below hB110 hB1.lt).cell
  clear hc9
  go_wp2_with fail
  refine (refRestart_any w10 _ ts t (hI1.below hB110) hX2).mono ?_
  rintro e w11 ⟨b2, rfl, ownb2, hb11⟩
  have hs11 := hb11.size
  have ne5 : ((restartR ts t).2 != (restartR ts t).2) = false := by simp
  clear hc10
  go_wp2_with fail
  refine (refSame_t w11 b b2 _ _ (ownb.below hb11).is ownb2.is rfl).mono ?_
  rintro e w12 ⟨rfl, hb12⟩
  have hs12 := hb12.size
  have ownb12 := (ownb.below hb11).below hb12
  have hB112 : Below w1.heap.size w1 w12 := hB110.trans ((hb11.mono (by omega)).trans (hb12.mono (by omega)))
  go_wp2_with fail
  refine (spoil_any w12 _ b _ ownb12).mono ?_
  rintro e w13 ⟨rfl, hg13⟩
  have hb13 : Below w9.heap.size w12 w13 := below_grown ownb12 hg13 (by omega)
  have hs13 := hb13.size
  have hB : Below w1.heap.size w1 w13 := hB112.trans (hb13.mono (by omega))
  go_wp2_with fail
  refine (refSame_t w13 x _ _ _ (ownx.is.below hB) (hI1.below hB) rfl).mono ?_
  rintro e w14 ⟨rfl, hb14⟩
  have hs14 := hb14.size
  go_wp2_with fail
  refine (works_any w14).mono ?_
  rintro e w15 ⟨rfl, hb15⟩
  go_wp2
  go_ret
  exact ⟨rfl, hbw.trans ((hb1.mono hs0).trans ((hB.mono (by omega)).trans ((hb14.mono (by omega)).trans (hb15.mono (by omega)))))⟩

set_option maxRecDepth 100000 in
theorem lifted (os : Os) (started : os.Started) (H : Type) (enc : TypeId × Value → H) :
    ReturnsInHanded {} Try.checked os 6 .any (Rows.timersAddsSpec.pre6 enc Try.prog Try.f6 Rows.timersAddsRow.domain false) (Rows.timersAddsSpec.post enc Try.prog Try.f6 false true false false) := by
  refine returnsInHanded_of_change (C := Try.checked) own started (by kernel_rfl) Try.func6
    (ChangeSpec.witness6 (enc := enc) (C := Try.checked) false ⟨#[], #[.slice none 0 0, .agg #[.int .i64 0, .int .i64 0, .int .i64 0]], []⟩ 8 (by kernel_rfl) (by kernel_rfl) (by kernel_rfl) (by kernel_rfl)) ?_
  intro W base args ds gs before hval0 hW hcnd _
  have hval : ∀ (j : Nat) t v, Try.f6.params[j]? = some t → args[j]? = some v → Value.okWide Try.prog W .any base t v := hval0
  have hW' := hW
  obtain ⟨p, q, hA0, hV, rfl, hfz, hnd⟩ := hW
  have hA : DataW.TrodAll enc Try.prog W 0 (fun _ => true) true Try.f6.params.toList args.toList ds p := hA0
  rw [Try.params6] at hA hval
  obtain ⟨v0, vs0, d0, ds0, p0, q0, hargs, rfl, rfl, h0, r0⟩ := trodAll_cons hA
  obtain ⟨v1, vs1, d1, ds1, p1, q1, rfl, rfl, rfl, h1, r1⟩ := trodAll_cons r0
  obtain ⟨rfl, rfl, rfl⟩ := trodAll_nil r1
  obtain rfl : args = #[v0, v1] := by cases args; simp_all
  obtain ⟨rfl, rfl⟩ := trodVars_none hV
  have k0 := h0
  have lt0 : ∀ x ∈ p0, x.block < W.heap.size := by obtain ⟨m, hm⟩ := k0; exact DataW.trod_lt m _ _ _ hm
  obtain ⟨a0, len0, cap0, rfl⟩ := okWide_slice Try.underlying23 (hval 0 23 v0 rfl rfl)
  obtain ⟨l0, w0⟩ : ∃ l, IsT W (.slice a0 len0 cap0) l := by obtain ⟨fuel, hf⟩ := h0; exact openT (by simpa [Value.cells] using hf)
  have k1 := h1
  have lt1 : ∀ x ∈ p1, x.block < W.heap.size := by obtain ⟨m, hm⟩ := k1; exact DataW.trod_lt m _ _ _ hm
  obtain ⟨l1, w1⟩ : ∃ l, IsTv W v1 l := openTv (hval 1 28 v1 rfl rfl) h1
  clear hA0 hval0
  refine (walk W _ l0 w0 _ l1 w1).mono fun e W' ⟨he, bel⟩ => ?_
  subst he
  exact ⟨_, rfl, _, _, _, [], _, [], hW', trodAll_mk1 (shut_bool Try.underlying4 _), (trodAll_cons_mk (Below.trod laidOut (by kernel_rfl) (of_decide_eq_true (by kernel_rfl)) k0 bel lt0) (trodAll_cons_mk (Below.trod laidOut (by kernel_rfl) (of_decide_eq_true (by kernel_rfl)) k1 bel lt1) trodAll_mk0)), rfl, bel.frame _, fun h => by cases h⟩

theorem over : Rows.timersAddsRow.holds Try.pinned (OpenSpec.ofChange Rows.timersAddsSpec) :=
  OpenClaim.holds_of_wide 6 Try.f6 rfl rfl rfl rfl rfl rfl rfl ⟨rfl, rfl, rfl, rfl, rfl⟩ rfl rfl rfl rfl rfl (by kernel_rfl) Try.func6 (by kernel_rfl)
    (of_decide_eq_true (by kernel_rfl)) (by unfold Func.isWrapper; first | (rw [if_pos (by decide +kernel)]; kernel_rfl) | (rw [if_neg (by decide +kernel)]; exact ⟨rfl, rfl⟩))
    (fun os started H enc _ => lifted os started H enc)

theorem proved : Rows.TimersAddsSaid := over
#print axioms proved
end Go.Proofs.Ytejppifgljjnmaa.timersAdds
