/-
  Taking what is due at a time and then at a later one is taking it at the later one at once; for every list of times (cut to 200) and two times. No condition.
-/
import Derived.Test.YtejppifgljjnmaaN
import Derived.WalkKit
import Derived.ProofKit
import Derived.OpenShut
import Derived.ShutString
import Derived.ChangeOld
import Derived.Below
namespace Go.Proofs.Ytejppifgljjnmaa.timersTwice
open Go.ChangeShapes Go.WideShapes Go.ChangeAt Go.RowKit
open Go.ChangeMaps (open_string shut_string)
set_option linter.unusedVariables false
set_option linter.unusedSimpArgs false

theorem own : ownKnob Try.prog.godebug = none := by kernel_rfl
theorem laidOut : laidOutB Try.prog = true := by kernel_rfl

set_option maxRecDepth 100000 in
set_option maxHeartbeats 4000000 in
theorem walk (w : World) (v : Value) (l : List Int) (hv : IsB w v l) (now : Int) (_ : (Lit.int .i64 now).wf = true) (later : Int) (_ : (Lit.int .i64 later).wf = true) :
    Calls Try.prog 5 #[v, .int .i64 now, .int .i64 later] w fun e w' => e = .returned (.bool true) ∧ Below w.heap.size w w' := by
  obtain ⟨⟨A, c, rfl, hm, hc, hr⟩, hbd⟩ := hv
  obtain ⟨X, hX, hX2, hmin⟩ := min_ex 200 l.length (by decide)
  have hX2 : X ≤ 200 := by omega
  have hI := isL_take hr hX hc hm
  have hb' : ∀ x ∈ l.take X, 0 ≤ x ∧ x ≤ 255 := fun x hx => hbd x (List.mem_of_mem_take hx)
  have hlX : (l.take X).length = X := by simp; omega
  unfold maxLen at hm
  rcases Int.lt_or_le later now with hlt | hlt
  · go_enter Try.func5, Try.ntmps5
    go_wp2_with fail
    refine (made_any w _ (l.take X) hI (by omega) hb').mono ?_
    rintro e w1 ⟨x, rfl, ownx, hb1⟩
    rw [hlX] at ownx
    have hV := madeK_valid (l.take X) (k := X) (by omega)
    have hlm := madeK_length (l.take X) X
    generalize madeK (l.take X) X = ts at *
    have htw := due_twice hV (p := later) (q := now) (by omega)
    have hl1 := due_len later hV
    have hl2 := due_len now hV
    have hl3 := due_len (ts := restR ts later) now (by rw [(due_val hV _).2]; exact valid_filter _ hV)
    have HT := Lib.hid htw; clear htw
    have hs1 := hb1.size
    go_wp2_with fail
    refine (due_any w1 x ts later ownx.is (by omega)).mono ?_
    rintro e w2 ⟨a, rest, rfl, owna, ownr, _, hb2⟩
    have hs2 := hb2.size
    go_wp2_with fail
    refine (due_any w2 rest _ now ownr.is (by omega)).mono ?_
    rintro e w3 ⟨b, left, rfl, ownb, ownl, _, hb3⟩
    have hs3 := hb3.size
    go_wp2_with fail
    refine (due_any w3 x ts now ((ownx.is.below hb2).below hb3) (by omega)).mono ?_
    rintro e w4 ⟨d, en, rfl, ownd, owne, _, hb4⟩
    have hs4 := hb4.size
    have owna4 := (owna.below hb3).below hb4
    have ownb4 := ownb.below hb4
    have ownl4 := ownl.below hb4
    have hB4 : Below w1.heap.size w1 w4 := hb2.trans ((hb3.mono hs2).trans (hb4.mono (by omega)))
    clear ownr hV hb2 hb3 hb4
    have HL := Lib.hid (show (dueR ts later).length ≤ 200 ∧ (dueR (restR ts later) now).length ≤ 200 ∧ (restR (restR ts later) now).length ≤ 200 from ⟨by omega, by omega, by omega⟩)
    clear hl1 hl2 hl3 hlm hX2 hX hlX hb' hI hbd
    go_wp2_with
      (first
      | (at_builtin; refine wpList_appL ET28 Tm.enc Tm.enc_length Tm.enc_one w4 rfl (.tmp 50) (.tmp 51) rfl w4.heap.size (.slice none 0 0) [] rfl (OwnL.nil _ _) _ _ rfl owna4.is (by have := HL.out; simp only [List.length_nil]; omega) (by have := HL.out; simp only [List.length_nil, maxLen]; omega) (Nat.le_refl _) ?_; intro v5 w5 own5 hb5 hg5; have ownb5 := (ownb4.below hb5); have hs5 := hb5.size)
      | (at_builtin; refine wpList_appL ET28 Tm.enc Tm.enc_length Tm.enc_one w5 rfl (.tmp 53) (.tmp 54) rfl w4.heap.size v5 _ rfl own5 _ _ rfl ownb5.is (by have := HL.out; simp only [List.length_append, List.length_nil]; omega) (by have := HL.out; simp only [List.length_append, List.length_nil, maxLen]; omega) hs5 ?_; intro v6 w6 own6 hb6 hg6))
    replace hb6 := hb5.trans hb6
    have hs6 := hb6.size
    refine (same_t w6 v6 d _ _ own6.is (ownd.below hb6).is (by rw [List.nil_append]; exact HT.out.1)).mono ?_
    rintro e w7 ⟨rfl, hb7⟩
    have hs7 := hb7.size
    have hB7 : Below w4.heap.size w4 w7 := hb6.trans (hb7.mono hs6)
    go_wp2_with fail
    refine (same_t w7 left en _ _ (ownl4.below hB7).is (owne.below hB7).is HT.out.2.1).mono ?_
    rintro e w8 ⟨rfl, hb8⟩
    have hs8 := hb8.size
    have hB8 : Below w4.heap.size w4 w8 := hB7.trans (hb8.mono (by omega))
    have own8 := (own6.below hb7).below hb8
    have ownl8 := ownl4.below hB8
    clear own6 hb6 hb7 hb8 hB7 own5 hb5 hg5 ownb5 hg6
    go_wp2_with (at_builtin; refine wpList_appL ET28 Tm.enc Tm.enc_length Tm.enc_one w8 rfl (.tmp 66) (.tmp 67) rfl w4.heap.size v6 _ rfl own8 _ _ rfl ownl8.is (by have := HL.out; simp only [List.length_append, List.length_nil]; omega) (by have := HL.out; simp only [List.length_append, List.length_nil, maxLen]; omega) (by omega) ?_; intro v9 w9 own9 hb9 hg9)
    have hs9 := hb9.size
    have hB9 : Below w4.heap.size w4 w9 := hB8.trans hb9
    refine (same_t w9 v9 x _ _ own9.is (ownx.is.below (hB4.trans (hB9.mono (by omega)))) (by rw [List.nil_append, HT.out.1, HT.out.2.1]; exact HT.out.2.2)).mono ?_
    rintro e w10 ⟨rfl, hb10⟩
    have hs10 := hb10.size
    go_wp2_with fail
    refine (works_any w10).mono ?_
    rintro e w11 ⟨rfl, hb11⟩
    go_wp2
    go_ret
    exact ⟨rfl, hb1.trans ((hB4.mono (by omega)).trans ((hB9.mono (by omega)).trans ((hb10.mono (by omega)).trans (hb11.mono (by omega)))))⟩
  · go_enter Try.func5, Try.ntmps5
    go_wp2_with fail
    refine (made_any w _ (l.take X) hI (by omega) hb').mono ?_
    rintro e w1 ⟨x, rfl, ownx, hb1⟩
    rw [hlX] at ownx
    have hV := madeK_valid (l.take X) (k := X) (by omega)
    have hlm := madeK_length (l.take X) X
    generalize madeK (l.take X) X = ts at *
    have htw := due_twice hV (p := now) (q := later) (by omega)
    have hl1 := due_len now hV
    have hl2 := due_len later hV
    have hl3 := due_len (ts := restR ts now) later (by rw [(due_val hV _).2]; exact valid_filter _ hV)
    have HT := Lib.hid htw; clear htw
    have hs1 := hb1.size
    go_wp2_with fail
    refine (due_any w1 x ts now ownx.is (by omega)).mono ?_
    rintro e w2 ⟨a, rest, rfl, owna, ownr, _, hb2⟩
    have hs2 := hb2.size
    go_wp2_with fail
    refine (due_any w2 rest _ later ownr.is (by omega)).mono ?_
    rintro e w3 ⟨b, left, rfl, ownb, ownl, _, hb3⟩
    have hs3 := hb3.size
    go_wp2_with fail
    refine (due_any w3 x ts later ((ownx.is.below hb2).below hb3) (by omega)).mono ?_
    rintro e w4 ⟨d, en, rfl, ownd, owne, _, hb4⟩
    have hs4 := hb4.size
    have owna4 := (owna.below hb3).below hb4
    have ownb4 := ownb.below hb4
    have ownl4 := ownl.below hb4
    have hB4 : Below w1.heap.size w1 w4 := hb2.trans ((hb3.mono hs2).trans (hb4.mono (by omega)))
    clear ownr hV hb2 hb3 hb4
    have HL := Lib.hid (show (dueR ts now).length ≤ 200 ∧ (dueR (restR ts now) later).length ≤ 200 ∧ (restR (restR ts now) later).length ≤ 200 from ⟨by omega, by omega, by omega⟩)
    clear hl1 hl2 hl3 hlm hX2 hX hlX hb' hI hbd
    go_wp2_with
      (first
      | (at_builtin; refine wpList_appL ET28 Tm.enc Tm.enc_length Tm.enc_one w4 rfl (.tmp 50) (.tmp 51) rfl w4.heap.size (.slice none 0 0) [] rfl (OwnL.nil _ _) _ _ rfl owna4.is (by have := HL.out; simp only [List.length_nil]; omega) (by have := HL.out; simp only [List.length_nil, maxLen]; omega) (Nat.le_refl _) ?_; intro v5 w5 own5 hb5 hg5; have ownb5 := (ownb4.below hb5); have hs5 := hb5.size)
      | (at_builtin; refine wpList_appL ET28 Tm.enc Tm.enc_length Tm.enc_one w5 rfl (.tmp 53) (.tmp 54) rfl w4.heap.size v5 _ rfl own5 _ _ rfl ownb5.is (by have := HL.out; simp only [List.length_append, List.length_nil]; omega) (by have := HL.out; simp only [List.length_append, List.length_nil, maxLen]; omega) hs5 ?_; intro v6 w6 own6 hb6 hg6))
    replace hb6 := hb5.trans hb6
    have hs6 := hb6.size
    refine (same_t w6 v6 d _ _ own6.is (ownd.below hb6).is (by rw [List.nil_append]; exact HT.out.1)).mono ?_
    rintro e w7 ⟨rfl, hb7⟩
    have hs7 := hb7.size
    have hB7 : Below w4.heap.size w4 w7 := hb6.trans (hb7.mono hs6)
    go_wp2_with fail
    refine (same_t w7 left en _ _ (ownl4.below hB7).is (owne.below hB7).is HT.out.2.1).mono ?_
    rintro e w8 ⟨rfl, hb8⟩
    have hs8 := hb8.size
    have hB8 : Below w4.heap.size w4 w8 := hB7.trans (hb8.mono (by omega))
    have own8 := (own6.below hb7).below hb8
    have ownl8 := ownl4.below hB8
    clear own6 hb6 hb7 hb8 hB7 own5 hb5 hg5 ownb5 hg6
    go_wp2_with (at_builtin; refine wpList_appL ET28 Tm.enc Tm.enc_length Tm.enc_one w8 rfl (.tmp 66) (.tmp 67) rfl w4.heap.size v6 _ rfl own8 _ _ rfl ownl8.is (by have := HL.out; simp only [List.length_append, List.length_nil]; omega) (by have := HL.out; simp only [List.length_append, List.length_nil, maxLen]; omega) (by omega) ?_; intro v9 w9 own9 hb9 hg9)
    have hs9 := hb9.size
    have hB9 : Below w4.heap.size w4 w9 := hB8.trans hb9
    refine (same_t w9 v9 x _ _ own9.is (ownx.is.below (hB4.trans (hB9.mono (by omega)))) (by rw [List.nil_append, HT.out.1, HT.out.2.1]; exact HT.out.2.2)).mono ?_
    rintro e w10 ⟨rfl, hb10⟩
    have hs10 := hb10.size
    go_wp2_with fail
    refine (works_any w10).mono ?_
    rintro e w11 ⟨rfl, hb11⟩
    go_wp2
    go_ret
    exact ⟨rfl, hb1.trans ((hB4.mono (by omega)).trans ((hB9.mono (by omega)).trans ((hb10.mono (by omega)).trans (hb11.mono (by omega)))))⟩

set_option maxRecDepth 100000 in
theorem lifted (os : Os) (started : os.Started) (H : Type) (enc : TypeId × Value → H) :
    ReturnsInHanded {} Try.checked os 5 .any (Rows.timersTwiceSpec.pre6 enc Try.prog Try.f5 Rows.timersTwiceRow.domain false) (Rows.timersTwiceSpec.post enc Try.prog Try.f5 false true false false) := by
  refine returnsInHanded_of_change (C := Try.checked) own started (by kernel_rfl) Try.func5
    (ChangeSpec.witness6 (enc := enc) (C := Try.checked) false ⟨#[], #[.slice none 0 0, .int .i64 0, .int .i64 0], []⟩ 8 (by kernel_rfl) (by kernel_rfl) (by kernel_rfl) (by kernel_rfl)) ?_
  intro W base args ds gs before hval0 hW hcnd _
  have hval : ∀ (j : Nat) t v, Try.f5.params[j]? = some t → args[j]? = some v → Value.okWide Try.prog W .any base t v := hval0
  have hW' := hW
  obtain ⟨p, q, hA0, hV, rfl, hfz, hnd⟩ := hW
  have hA : DataW.TrodAll enc Try.prog W 0 (fun _ => true) true Try.f5.params.toList args.toList ds p := hA0
  rw [Try.params5] at hA hval
  obtain ⟨v0, vs0, d0, ds0, p0, q0, hargs, rfl, rfl, h0, r0⟩ := trodAll_cons hA
  obtain ⟨v1, vs1, d1, ds1, p1, q1, rfl, rfl, rfl, h1, r1⟩ := trodAll_cons r0
  obtain ⟨v2, vs2, d2, ds2, p2, q2, rfl, rfl, rfl, h2, r2⟩ := trodAll_cons r1
  obtain ⟨rfl, rfl, rfl⟩ := trodAll_nil r2
  obtain rfl : args = #[v0, v1, v2] := by cases args; simp_all
  obtain ⟨rfl, rfl⟩ := trodVars_none hV
  have k0 := h0
  have lt0 : ∀ x ∈ p0, x.block < W.heap.size := by obtain ⟨m, hm⟩ := k0; exact DataW.trod_lt m _ _ _ hm
  obtain ⟨a0, len0, cap0, rfl⟩ := okWide_slice Try.underlying22 (hval 0 22 v0 rfl rfl)
  obtain ⟨l0, w0⟩ : ∃ l, IsB W (.slice a0 len0 cap0) l := by obtain ⟨fuel, hf⟩ := h0; exact openB (by simpa [Value.cells] using hf)
  have k1 := h1
  have lt1 : ∀ x ∈ p1, x.block < W.heap.size := by obtain ⟨m, hm⟩ := k1; exact DataW.trod_lt m _ _ _ hm
  obtain ⟨x1, rfl, rfl, rfl, w1⟩ := open_int Try.underlying3 (hval 1 3 v1 rfl rfl) h1
  have k2 := h2
  have lt2 : ∀ x ∈ p2, x.block < W.heap.size := by obtain ⟨m, hm⟩ := k2; exact DataW.trod_lt m _ _ _ hm
  obtain ⟨x2, rfl, rfl, rfl, w2⟩ := open_int Try.underlying3 (hval 2 3 v2 rfl rfl) h2
  clear hA0 hval0
  refine (walk W _ l0 w0 x1 w1 x2 w2).mono fun e W' ⟨he, bel⟩ => ?_
  subst he
  exact ⟨_, rfl, _, _, _, [], _, [], hW', trodAll_mk1 (shut_bool Try.underlying4 _), (trodAll_cons_mk (Below.trod laidOut (by kernel_rfl) (of_decide_eq_true (by kernel_rfl)) k0 bel lt0) (trodAll_cons_mk (Below.trod laidOut (by kernel_rfl) (of_decide_eq_true (by kernel_rfl)) k1 bel lt1) (trodAll_cons_mk (Below.trod laidOut (by kernel_rfl) (of_decide_eq_true (by kernel_rfl)) k2 bel lt2) trodAll_mk0))), rfl, bel.frame _, fun h => by cases h⟩

theorem over : Rows.timersTwiceRow.holds Try.pinned (OpenSpec.ofChange Rows.timersTwiceSpec) :=
  OpenClaim.holds_of_wide 5 Try.f5 rfl rfl rfl rfl rfl rfl rfl ⟨rfl, rfl, rfl, rfl, rfl⟩ rfl rfl rfl rfl rfl (by kernel_rfl) Try.func5 (by kernel_rfl)
    (of_decide_eq_true (by kernel_rfl)) (by unfold Func.isWrapper; first | (rw [if_pos (by decide +kernel)]; kernel_rfl) | (rw [if_neg (by decide +kernel)]; exact ⟨rfl, rfl⟩))
    (fun os started H enc _ => lifted os started H enc)

theorem proved : Rows.TimersTwiceSaid := over
#print axioms proved
end Go.Proofs.Ytejppifgljjnmaa.timersTwice
