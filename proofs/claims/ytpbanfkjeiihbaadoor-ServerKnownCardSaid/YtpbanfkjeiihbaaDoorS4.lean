/- count, closed. -/
import Derived.Test.YtpbanfkjeiihbaaDoorS3
set_option linter.unusedVariables false
set_option linter.unusedSimpArgs false
namespace Go.Proofs.YtpbanfkjeiihbaaDoor
open Go.RowKit

theorem take_hit {l : List Ent} {i : Nat} {e : Ent} (p : Ent → Bool) (h : l[i]? = some e) : ((l.take (i+1)).filter p).length = ((l.take i).filter p).length + if p e then 1 else 0 := by
  rw [List.take_add_one, h, List.filter_append, List.length_append]
  cases hp : p e <;> simp [hp]
set_option maxHeartbeats 1000000 in
theorem count_any (w : World) (g : Nat) (v : Value) (s : Sim) (k u lo hi : Int) (h : At_ w g v s) (hlen : s.log.length ≤ 1000000000) :
    Calls Tryd.prog 19 #[.pointer (some ⟨g, 0, none⟩), .int .u8 k, .int .i64 u, .int .i64 lo, .int .i64 hi] w fun e w' => e = .returned (.int .i64 (countS s.log k u lo hi)) ∧ w = w' := by
  have hcl := h.cl
  obtain ⟨A, c, rfl, hn, _, hr⟩ := h.log.is
  go_enter Tryd.func19, Tryd.ntmps19
  go_wp2
  go_loop [11, 12] (fun n i => ∃ I N : Nat, I ≤ s.log.length ∧ N ≤ I ∧ i = .int .i64 I ∧ n = .int .i64 N ∧ Hid (N = ((s.log.take I).filter (hitB k u lo hi)).length)) (fun _ i => s.log.length - (intOf i).toNat)
  case atStart => exact ⟨0, 0, Nat.zero_le _, Nat.le_refl _, rfl, rfl, rfl⟩
  case round =>
    obtain ⟨I, N, hI, hN, rfl, rfl, hC⟩ := hrel
    by_cases hlt : I < s.log.length
    · obtain ⟨e, he⟩ := get_lt hlt
      obtain ⟨b, o, rfl, h0, h1, h2, h3, h4⟩ := RdE hr he
      have HS := Lib.hid (take_hit (hitB k u lo hi) he)
      clear he
      have HB : Hid (hitB k u lo hi e = (e.out.kind == k && decide (e.at_ ≤ u) && decide (lo ≤ e.out.code) && decide (e.out.code ≤ hi))) := rfl
      go_wp2
      all_goals
        go_round
        case rel =>
          first
            | exact ⟨I + 1, N, by omega, by omega, by go_num, rfl, by show _ = _; rw [HS.out, ← hC.out, HB.out]; simp [*]⟩
            | exact ⟨I + 1, N + 1, by omega, by omega, by go_num, by go_num, by show _ = _; rw [HS.out, ← hC.out, HB.out]; simp [*]⟩
        case measure => simp [intOf]; omega
    · have hII : I = s.log.length := by omega
      subst hII
      go_wp2
      go_ret
      exact ⟨ret_int (by rw [hC.out, List.take_length]; rfl), rfl⟩

theorem lastB_get {l : List Ent} {e : Ent} (h : l[l.length - 1]? = some e) : lastB l = (e.out.kind == 7) := by
  unfold lastB
  rw [List.getLast?_eq_getElem?, h]
set_option maxHeartbeats 1000000 in
theorem closed_any (w : World) (g : Nat) (v : Value) (s : Sim) (h : At_ w g v s) (hlen : s.log.length ≤ 1000000000) :
    Calls Tryd.prog 20 #[.pointer (some ⟨g, 0, none⟩)] w fun e w' => e = .returned (.bool (closedS s)) ∧ ∃ n, w' = w.drewN n := by
  have hcl := h.cl
  have hcn := h.cn
  have hc0 := h.c0
  obtain ⟨N, hN⟩ : ∃ N, N = countS s.log 7 s.now 0 1000 := ⟨_, rfl⟩
  have hNl : N ≤ s.log.length := by rw [hN]; exact List.length_filter_le _ _
  have HE : Hid (closedS s = if 1 < N then false else if (N == 1) != (s.m.st == 7) then false else N == 0 || lastB s.log) := by show _ = _; rw [hN]; rfl
  have HN := Lib.hid hN
  clear hN
  go_enter Tryd.func20, Tryd.ntmps20
  go_wp2_with fail
  refine (count_any _ g v s 7 s.now 0 1000 h hlen).mono ?_
  rw [← HN.out]
  rintro e w1 ⟨rfl, rfl⟩
  obtain ⟨A, c, rfl, hn, _, hr⟩ := h.log.is
  have dummy : True := trivial
  by_cases h1 : 1 < N
  · have h1' : (1 : Int) < N := by omega
    go_wp2
    go_ret
    exact ⟨ret_bool (by rw [HE.out, if_pos h1]), 0, rfl⟩
  have hb7 : s.m.st = 7 ∨ ¬ s.m.st = 7 := Classical.em _
  have hN01 : N = 0 ∨ N = 1 := by omega
  clear h1
  rcases hN01 with rfl | rfl
  · rcases hb7 with h7 | h7
    · have h7' : (s.m.st == 7) = true := by simpa using h7
      have HE' : Hid (closedS s = false) := by show _ = _; rw [HE.out, h7']; rfl
      clear HE h7
      go_wp2
      go_ret
      exact ⟨ret_bool HE'.out.symm, 0, rfl⟩
    · have h7' : (s.m.st == 7) = false := by simpa using h7
      have HE' : Hid (closedS s = true) := by show _ = _; rw [HE.out, h7']; rfl
      clear HE h7
      go_wp2
      refine wp_undraw (by kernel_rfl) (by kernel_rfl) (by kernel_rfl) ?_
      go_wp2
      refine ⟨rfl, rfl, ?_⟩
      go_wp2
      go_ret
      exact ⟨ret_bool HE'.out.symm, 1, rfl⟩
  · rcases hb7 with h7 | h7
    · have h7' : (s.m.st == 7) = true := by simpa using h7
      have HE' : Hid (closedS s = lastB s.log) := by show _ = _; rw [HE.out, h7']; rfl
      obtain ⟨e, he⟩ := get_lt (show s.log.length - 1 < s.log.length by omega)
      have HB := Lib.hid (lastB_get he)
      obtain ⟨b, o, rfl, g0, g1, g2, g3, g4⟩ := RdE hr he
      clear HE h7 he
      go_wp2
      refine wp_undraw (by kernel_rfl) (by kernel_rfl) (by kernel_rfl) ?_
      go_wp2
      refine ⟨rfl, rfl, ?_⟩
      go_wp2
      go_ret
      exact ⟨ret_bool (by rw [HE'.out, HB.out]), 1, rfl⟩
    · have h7' : (s.m.st == 7) = false := by simpa using h7
      have HE' : Hid (closedS s = false) := by show _ = _; rw [HE.out, h7']; rfl
      clear HE h7
      go_wp2
      go_ret
      exact ⟨ret_bool HE'.out.symm, 0, rfl⟩
end Go.Proofs.YtpbanfkjeiihbaaDoor
