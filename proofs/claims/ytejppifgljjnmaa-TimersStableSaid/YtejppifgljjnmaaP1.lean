/-
  Timers that are added to an empty list stand by their times, those with the same time in the order in which they were added: for every list of times. No condition.
-/
import Derived.Test.YtejppifgljjnmaaA10
import Derived.WalkKit
import Derived.ProofKit
import Derived.OpenShut
import Derived.ShutString
import Derived.ChangeOld
import Derived.Below
namespace Go.Proofs.Ytejppifgljjnmaa.timersStable
open Go.ChangeShapes Go.WideShapes Go.ChangeAt Go.RowKit
open Go.ChangeMaps (open_string shut_string)
set_option linter.unusedVariables false

theorem own : ownKnob Try.prog.godebug = none := by kernel_rfl
theorem laidOut : laidOutB Try.prog = true := by kernel_rfl

set_option maxRecDepth 100000 in
set_option maxHeartbeats 1000000 in
theorem walk (a0 : Option Addr) (len0 cap0 : Nat) (z0 : List Int) (w : World) (w0 : IsRow .u8 w a0 len0 cap0 z0) :
    Calls Try.prog 3 #[.slice a0 len0 cap0] w fun e w' => e = .returned (.bool true) ∧ Below w.heap.size w w' := by
  obtain ⟨bs, hr, hl, hc, hm, hbd⟩ := w0.isB
  clear w0
  subst hl
  obtain ⟨X, hX, hX2, hmin⟩ : ∃ X : Nat, X ≤ bs.length ∧ X ≤ 200 ∧ (if (200 : Int) < bs.length then (200 : Int) else bs.length) = X := by
    by_cases h : (200 : Int) < bs.length
    · exact ⟨200, by omega, by omega, by rw [if_pos h]; rfl⟩
    · exact ⟨bs.length, by omega, by omega, by rw [if_neg h]⟩
  have hI := isL_take hr hX hc hm
  have hb' : ∀ x ∈ bs.take X, 0 ≤ x ∧ x ≤ 255 := fun x hx => hbd x (List.mem_of_mem_take hx)
  have hlX : (bs.take X).length = X := by simp; omega
  have HM := Lib.hid hm; clear hm
  go_enter Try.func3, Try.ntmps3
  go_wp2_with fail
  refine (made_any w _ (bs.take X) hI (by omega) hb').mono ?_
  rintro e w1 ⟨v1, rfl, hown, hb1⟩
  rw [hlX] at hown
  have hV := madeK_valid (bs.take X) (k := X) (by omega)
  have hlex := Lib.hid (madeK_lex (bs.take X) X)
  have hlm := madeK_length (bs.take X) X
  generalize madeK (bs.take X) X = ts at *
  subst hlm
  clear hI hb' hX hlX hmin hr hbd HM
  go_wp2_with fail
  refine (valid_any _ _ ts hown.is).mono ?_
  rw [hV]
  rintro e w2 ⟨rfl, hb2⟩
  obtain ⟨A, c, rfl, _, _, hr⟩ := hown.is.below hb2
  replace hb2 := hb1.trans (hb2.mono hb1.size)
  clear hown hV hb1
  go_wp2_with fail
  go_loopw [5] (fun i wr => ∃ k n : Nat, 1 ≤ k ∧ i = .int .i64 k ∧ wr = w2.drewN n) (fun i _ => ts.length - (intOf i).toNat)
  case atStart => exact ⟨1, 0, Nat.le_refl _, rfl, rfl⟩
  case round =>
    obtain ⟨k, n, hk, rfl, rfl⟩ := hrel
    by_cases hlt : k < ts.length
    · obtain ⟨y, hy⟩ := get_lt hlt
      obtain ⟨x, hx⟩ := get_lt (show k - 1 < ts.length by omega)
      have hxy := lex_at hlex.out hx (by rw [show k - 1 + 1 = k by omega]; exact hy)
      obtain ⟨b, o, rfl, h0, h1, h2⟩ := RdT hr hy
      obtain ⟨b', o', he, g0, g1, g2⟩ := RdT hr hx
      injection he with he; injection he with e1 e2; subst e1; subst e2
      clear hx hy
      have hle : x.at_ ≤ y.at_ := by unfold lexLt at hxy; omega
      have hne : x.at_ = y.at_ → x.kind < y.kind := by unfold lexLt at hxy; omega
      have HNE := Lib.hid hne; clear hne hxy
      by_cases heq : x.at_ = y.at_
      · have hk2 := HNE.out heq
        have he1 : (y.at_ == x.at_) = true := by simp; omega
        have HE := Lib.hid heq; clear heq
        go_wp2
        refine wp_undraw (by kernel_rfl) (by kernel_rfl) (by kernel_rfl) ?_
        go_wp2
        refine ⟨rfl, rfl, ?_⟩
        go_wp2
        go_roundw
        case rel => exact ⟨k + 1, n + 1, by omega, by go_num, rfl⟩
        case measure => simp [intOf]; omega
      · have he1 : (y.at_ == x.at_) = false := by simp; omega
        have HE := Lib.hid heq; clear heq
        go_wp2
        refine wp_undraw (by kernel_rfl) (by kernel_rfl) (by kernel_rfl) ?_
        go_wp2
        refine ⟨rfl, rfl, ?_⟩
        go_wp2
        go_roundw
        case rel => exact ⟨k + 1, n + 1, by omega, by go_num, rfl⟩
        case measure => simp [intOf]; omega
    · go_wp2_with fail
      refine (works_any _).mono ?_
      rintro e w3 ⟨rfl, hb3⟩
      go_wp2
      go_ret
      exact ⟨rfl, (below_drewN hb2 n).trans (hb3.mono hb2.size)⟩

set_option maxRecDepth 100000 in
theorem lifted (os : Os) (started : os.Started) (H : Type) (enc : TypeId × Value → H) :
    ReturnsInHanded {} Try.checked os 3 .any (Rows.timersStableSpec.pre6 enc Try.prog Try.f3 Rows.timersStableRow.domain false) (Rows.timersStableSpec.post enc Try.prog Try.f3 false true false false) := by
  refine returnsInHanded_of_change (C := Try.checked) own started (by kernel_rfl) Try.func3
    (ChangeSpec.witness6 (enc := enc) (C := Try.checked) false ⟨#[], #[.slice none 0 0], []⟩ 8 (by kernel_rfl) (by kernel_rfl) (by kernel_rfl) (by kernel_rfl)) ?_
  intro W base args ds gs before hval0 hW hcnd _
  have hval : ∀ (j : Nat) t v, Try.f3.params[j]? = some t → args[j]? = some v → Value.okWide Try.prog W .any base t v := hval0
  have hW' := hW
  obtain ⟨p, q, hA0, hV, rfl, hfz, hnd⟩ := hW
  have hA : DataW.TrodAll enc Try.prog W 0 (fun _ => true) true Try.f3.params.toList args.toList ds p := hA0
  rw [Try.params3] at hA hval
  obtain ⟨v0, vs0, d0, ds0, p0, q0, hargs, rfl, rfl, h0, r0⟩ := trodAll_cons hA
  obtain ⟨rfl, rfl, rfl⟩ := trodAll_nil r0
  obtain rfl : args = #[v0] := by cases args; simp_all
  obtain ⟨rfl, rfl⟩ := trodVars_none hV
  obtain ⟨a0, len0, cap0, rfl⟩ := okWide_slice Try.underlying22 (hval 0 22 v0 rfl rfl)
  have k0 := h0
  have lt0 : ∀ x ∈ p0, x.block < W.heap.size := by obtain ⟨m, hm⟩ := k0; exact DataW.trod_lt m _ _ _ hm
  obtain ⟨z0, w0⟩ : ∃ zs, IsRow .u8 W a0 len0 cap0 zs := by
    obtain ⟨fuel, hf⟩ := h0
    rcases open_ints Try.underlying22 Try.underlying5 (by kernel_rfl) hf with ⟨hcs, _⟩ | ⟨x, l, c, zs, hcs, _, hl, hm, hz, _, hcell, hwz⟩
    · simp [Value.cells] at hcs
      obtain ⟨rfl, rfl, rfl⟩ := hcs
      exact ⟨[], .inl ⟨rfl, rfl, rfl, rfl⟩⟩
    · simp [Value.cells] at hcs
      obtain ⟨rfl, rfl, rfl⟩ := hcs
      exact ⟨zs, .inr ⟨_, rfl, hl, hm, by simpa using hz, hcell, hwz⟩⟩
  clear hA0 hval0
  refine (walk a0 len0 cap0 z0 W w0).mono fun e W' ⟨he, bel⟩ => ?_
  subst he
  exact ⟨_, rfl, _, _, _, [], _, [], hW', trodAll_mk1 (shut_bool Try.underlying4 _), (trodAll_cons_mk (Below.trod laidOut (by kernel_rfl) (of_decide_eq_true (by kernel_rfl)) k0 bel lt0) trodAll_mk0), rfl, bel.frame _, fun h => by cases h⟩

theorem over : Rows.timersStableRow.holds Try.pinned (OpenSpec.ofChange Rows.timersStableSpec) :=
  OpenClaim.holds_of_wide 3 Try.f3 rfl rfl rfl rfl rfl rfl rfl ⟨rfl, rfl, rfl, rfl, rfl⟩ rfl rfl rfl rfl rfl (by kernel_rfl) Try.func3 (by kernel_rfl)
    (of_decide_eq_true (by kernel_rfl)) (by unfold Func.isWrapper; first | (rw [if_pos (by decide +kernel)]; kernel_rfl) | (rw [if_neg (by decide +kernel)]; exact ⟨rfl, rfl⟩))
    (fun os started H enc _ => lifted os started H enc)

theorem proved : Rows.TimersStableSaid := over
#print axioms proved
end Go.Proofs.Ytejppifgljjnmaa.timersStable
