/- until. -/
import Derived.Test.YtpbanfkjeiihbaaDoorS6
set_option linter.unusedVariables false
set_option linter.unusedSimpArgs false
namespace Go.Proofs.YtpbanfkjeiihbaaDoor
open Go.RowKit

theorem giveS_log (f : StepF) (s : Sim) (i : Tin) (h : (f s.m i).2.length ≤ 3) : (giveS f s i).log.length ≤ s.log.length + 3 := by
  unfold giveS takeS
  rw [takeS_log]
  show s.log.length + _ ≤ _
  omega
theorem giveS_now (f : StepF) (s : Sim) (i : Tin) : (giveS f s i).now = s.now := by
  unfold giveS takeS
  rw [takeS_now]
theorem getD_of {l : List Int} {k : Nat} {d : Int} (h : l[k]? = some d) : l.getD k 0 = d := by simp [List.getD, h]
theorem firstS_yes {due : List Int} {t d : Int} {k : Nat} (h : due[k]? = some d) (h0 : 0 ≤ d) (h1 : d ≤ t) (h2 : firstS due t k < 0 ∨ d < due.getD (firstS due t k).toNat 0) : firstS due t (k + 1) = k := by
  rw [firstS, getD_of h, if_pos ⟨h0, h1, h2⟩]
theorem firstS_no {due : List Int} {t d : Int} {k : Nat} (h : due[k]? = some d) (hn : ¬ (0 ≤ d ∧ d ≤ t ∧ (firstS due t k < 0 ∨ d < due.getD (firstS due t k).toNat 0))) : firstS due t (k + 1) = firstS due t k := by
  rw [firstS, getD_of h, if_neg hn]

set_option maxRecDepth 100000 in
set_option maxHeartbeats 4000000 in
theorem until_any (w : World) (g : Nat) (v : Value) (s : Sim) (t : Int) (h : At_ w g v s) (hG : Gl w) (hg : 0 < g)
    (hnow : 0 ≤ s.now ∧ s.now ≤ 1099511627776) (ht : 0 ≤ t ∧ t ≤ 1099511627776) (hlen : s.log.length ≤ 10000000) :
    Calls Tryd.prog 16 #[.pointer (some ⟨g, 0, none⟩), .int .i64 t] w fun e w' => e = .returned (.tuple #[]) ∧ ∃ v', At_ w' g v' (untilS stepS s t) ∧ Gl w' ∧ Below g w w' ∧ (0 ≤ (untilS stepS s t).now ∧ (untilS stepS s t).now ≤ 1099511627776) ∧ (untilS stepS s t).log.length ≤ s.log.length + 600 := by
  have hz := h.lt
  go_enter Tryd.func16, Tryd.ntmps16
  go_upto_block 0 with fail
  go_cut [] (fun wx => ∃ (v' : Value) (sc : Sim), At_ wx g v' sc ∧ Gl wx ∧ Below g w wx ∧ (0 ≤ sc.now ∧ sc.now ≤ 1099511627776) ∧ Hid (sc = untilL stepS t 200 s) ∧ sc.log.length ≤ s.log.length + 600)
  case first =>
    go_wp2_with fail
    go_loopw [4] (fun n wr => ∃ (N : Nat) (v' : Value) (sc : Sim), N ≤ 200 ∧ n = .int .i64 N ∧ At_ wr g v' sc ∧ Gl wr ∧ Below g w wr ∧ (0 ≤ sc.now ∧ sc.now ≤ 1099511627776) ∧ Hid (untilL stepS t (200 - N) sc = untilL stepS t 200 s) ∧ sc.log.length ≤ s.log.length + 3 * N) (fun n _ => 200 - (intOf n).toNat)
    case atStart => exact ⟨0, v, s, by omega, rfl, h, hG, Below.refl _ _, hnow, rfl, by omega⟩
    case round =>
      clear h hG hnow
      obtain ⟨N, v', sc, hN, rfl, hA, hG, hb, hnow, hU, hL⟩ := hrel
      have HL := Lib.hid hL; clear hL
      by_cases hn : N < 200
      · have hnd : decide ((N : Int) < 200) = true := by simp; omega
        go_wp2_with fail
        go_loopw [5, 6] (fun f i wx => ∃ K m : Nat, K ≤ 14 ∧ i = .int .i64 K ∧ f = .int .i64 (firstS sc.due t K) ∧ wx = wr.drewN m) (fun _ i _ => 14 - (intOf i).toNat)
        case atStart => exact ⟨0, 0, by omega, rfl, rfl, rfl⟩
        case round =>
          obtain ⟨K, m, hK, rfl, rfl, rfl⟩ := hrel
          have hAm : At_ (wr.drewN m) g v' sc := ⟨hA.blk, hA.log, hA.due⟩
          have hf1 := firstS_ge sc.due t K
          have hf2 := firstS_lt sc.due t K
          by_cases hk : K < 14
          · obtain ⟨d, hd⟩ := get_lt (show K < sc.due.length by rw [hA.due]; exact hk)
            have cd := hA.cd hd
            have HD := Lib.hid hd; clear hd
            by_cases h0 : 0 ≤ d
            · by_cases h1 : d ≤ t
              · by_cases hf : firstS sc.due t K < 0
                · have HF := Lib.hid (firstS_yes HD.out h0 h1 (.inl hf))
                  have e1 : firstS sc.due t K = -1 := by omega
                  rw [e1]
                  clear e1 hf hf1 hf2
                  go_wp2
                  refine wp_undraw (by kernel_rfl) (by kernel_rfl) (by kernel_rfl) ?_
                  go_wp2
                  refine ⟨rfl, rfl, ?_⟩
                  go_wp2
                  go_roundw
                  case rel => exact ⟨K + 1, m + 1, by omega, by go_num, by rw [HF.out], rfl⟩
                  case measure => simp [intOf]; omega
                · obtain ⟨F, hF⟩ : ∃ F : Nat, firstS sc.due t K = F := ⟨(firstS sc.due t K).toNat, by omega⟩
                  have hFK : F < K := by omega
                  obtain ⟨d2, hd2⟩ := get_lt (show F < sc.due.length by rw [hA.due]; omega)
                  have cd2 := hA.cd hd2
                  have hg2 : sc.due.getD (firstS sc.due t K).toNat 0 = d2 := by rw [hF]; exact getD_of hd2
                  by_cases hlt : d < d2
                  · have HF := Lib.hid (firstS_yes HD.out h0 h1 (.inr (by rw [hg2]; exact hlt)))
                    rw [hF]
                    clear hF hf hf1 hf2 hd2 hg2
                    go_wp2
                    refine wp_undraw (by kernel_rfl) (by kernel_rfl) (by kernel_rfl) ?_
                    go_wp2
                    refine ⟨rfl, rfl, ?_⟩
                    go_wp2
                    go_roundw
                    case rel => exact ⟨K + 1, m + 1, by omega, by go_num, by rw [HF.out], rfl⟩
                    case measure => simp [intOf]; omega
                  · have HF := Lib.hid ((firstS_no HD.out (by rw [hg2]; omega)).trans hF)
                    rw [hF]
                    clear hF hf hf1 hf2 hd2 hg2
                    go_wp2
                    refine wp_undraw (by kernel_rfl) (by kernel_rfl) (by kernel_rfl) ?_
                    go_wp2
                    refine ⟨rfl, rfl, ?_⟩
                    go_wp2
                    go_roundw
                    case rel => exact ⟨K + 1, m + 1, by omega, by go_num, by rw [HF.out], rfl⟩
                    case measure => simp [intOf]; omega
              · have HF := Lib.hid (firstS_no (t := t) HD.out (by omega))
                generalize hfv : firstS sc.due t K = fv at *
                have HFV := Lib.hid hfv; clear hfv
                go_wp2
                refine wp_undraw (by kernel_rfl) (by kernel_rfl) (by kernel_rfl) ?_
                go_wp2
                refine ⟨rfl, rfl, ?_⟩
                go_wp2
                go_roundw
                case rel => exact ⟨K + 1, m + 1, by omega, by go_num, by rw [HF.out], rfl⟩
                case measure => simp [intOf]; omega
            · have HF := Lib.hid (firstS_no (t := t) HD.out (by omega))
              generalize hfv : firstS sc.due t K = fv at *
              have HFV := Lib.hid hfv; clear hfv
              go_wp2
              refine wp_undraw (by kernel_rfl) (by kernel_rfl) (by kernel_rfl) ?_
              go_wp2
              refine ⟨rfl, rfl, ?_⟩
              go_wp2
              go_roundw
              case rel => exact ⟨K + 1, m + 1, by omega, by go_num, by rw [HF.out], rfl⟩
              case measure => simp [intOf]; omega
          · have hk14 : K = 14 := by omega
            subst hk14
            clear hk hK
            by_cases hf : firstS sc.due t 14 < 0
            · have HU : Hid (sc = untilL stepS t 200 s) := by
                show _ = _
                rw [← hU.out, show 200 - N = (199 - N) + 1 by omega, untilL, if_pos hf]
              go_wp2
              go_meet
              exact ⟨v', sc, hAm, hG.keep (below_drewN (Below.refl g wr) m) hg, below_drewN hb m, hnow, HU, by have := HL.out; omega⟩
            · obtain ⟨F, hF⟩ : ∃ F : Nat, firstS sc.due t 14 = F := ⟨(firstS sc.due t 14).toNat, by omega⟩
              have hF14 : F < 14 := by omega
              obtain ⟨d, hd⟩ := get_lt (show F < sc.due.length by rw [hA.due]; exact hF14)
              have hdd := firstS_due sc.due t 14 (by omega)
              rw [hF, Int.toNat_natCast, getD_of hd] at hdd
              obtain ⟨sf, hsf⟩ : ∃ sf : Sim, sf = { sc with now := d, due := sc.due.set F (-1) } := ⟨_, rfl⟩
              have HU : Hid (untilL stepS t (200 - (N + 1)) (giveS stepS sf ⟨5, 0, F⟩) = untilL stepS t 200 s) := by
                show _ = _
                rw [← hU.out, show 200 - N = (200 - (N + 1)) + 1 by omega]
                conv => rhs; rw [untilL, if_neg hf]
                rw [hF, Int.toNat_natCast, fireS, getD_of hd, hsf]
              have cd := hAm.cd hd
              have cn := hAm.cn
              have fz := hAm.fz
              rw [hF]
              clear hf1 hf2 hf
              have HF := Lib.hid hF; clear hF
              have HD := Lib.hid hd; clear hd
              have hA1 : At_ (((wr.setCell ⟨g, 17, none⟩ (.int .i64 d)).setCell ⟨g, 3 + F, none⟩ (.int .i64 (-1))).drewN m) g v' sf := by
                rw [hsf]
                have := (hA.setNow d).setDue hF14 (-1)
                exact ⟨this.blk, this.log, this.due⟩
              have hb1 : Below g w (((wr.setCell ⟨g, 17, none⟩ (.int .i64 d)).setCell ⟨g, 3 + F, none⟩ (.int .i64 (-1))).drewN m) :=
                below_drewN (below_set (below_set hb (Nat.le_refl g) 17 _) (Nat.le_refl g) (3 + F) _) m
              have hb1' : Below g wr (((wr.setCell ⟨g, 17, none⟩ (.int .i64 d)).setCell ⟨g, 3 + F, none⟩ (.int .i64 (-1))).drewN m) :=
                below_drewN (below_set (below_set (Below.refl g wr) (Nat.le_refl g) 17 _) (Nat.le_refl g) (3 + F) _) m
              have hG1 := hG.keep hb1' hg
              have hsn : sf.now = d := by rw [hsf]
              have hsl : sf.log = sc.log := by rw [hsf]
              have hnow1 : 0 ≤ sf.now ∧ sf.now ≤ 1099511627776 := by rw [hsn]; omega
              have hlen1 : sf.log.length ≤ 100000000 := by rw [hsl]; have := HL.out; omega
              have hlen2 : (giveS stepS sf ⟨5, 0, F⟩).log.length ≤ s.log.length + 3 * (N + 1) := by
                have h1 := giveS_log stepS sf ⟨5, 0, F⟩ (stepS_ok _ _).1
                rw [hsl] at h1
                have := HL.out; omega
              have hnow3 : 0 ≤ (giveS stepS sf ⟨5, 0, F⟩).now ∧ (giveS stepS sf ⟨5, 0, F⟩).now ≤ 1099511627776 := by rw [giveS_now]; exact hnow1
              have HSF := Lib.hid hsf; clear hsf hsn hsl
              have hmod : ((F : Int) % 256) = F := by omega
              clear hA hG hb hnow hb1' hdd
              go_wp2_with fail
              refine (give_any _ g v' sf ⟨5, 0, F⟩ hA1 hG1 hg hnow1 hlen1).mono ?_
              rintro e w5 ⟨rfl, v5, hA5, hb5⟩
              have hG5 := hG1.keep hb5 hg
              have hb6 := hb1.trans hb5
              clear cd cn fz hA1 hG1 hb1
              go_wp2
              go_roundw
              case rel => exact ⟨N + 1, v5, _, by omega, by go_num, hA5, hG5, hb6, hnow3, HU, hlen2⟩
              case measure => simp [intOf]; omega
      · have hN2 : N = 200 := by omega
        subst hN2
        go_wp2
        go_meet
        exact ⟨v', sc, hA, hG, hb, hnow, by show _ = _; rw [← hU.out]; rfl, by have := HL.out; omega⟩
  case rest =>
    obtain ⟨v', sc, hA, hG2, hb, hnow2, hU, hL⟩ := hcut
    have cn := hA.cn
    have fz := hA.fz
    have hS : Hid (untilS stepS s t = endS sc t) := by show _ = _; rw [untilS, ← hU.out]
    by_cases hm : sc.now < t
    · have hb2 := below_set hb (Nat.le_refl g) 17 (.int .i64 t)
      have hA2 := hA.setNow t
      have hG3 := hG2.keep (below_set (Below.refl g wc) (Nat.le_refl g) 17 (.int .i64 t)) hg
      go_wp2
      go_end0
      have e : untilS stepS s t = { sc with now := t } := by rw [hS.out, endS]; congr 1; omega
      rw [e]
      exact ⟨rfl, v', hA2, hG3, hb2, ht, hL⟩
    · have hb2 := below_set hb (Nat.le_refl g) 17 (.int .i64 sc.now)
      have hA2 := hA.setNow sc.now
      have hG3 := hG2.keep (below_set (Below.refl g wc) (Nat.le_refl g) 17 (.int .i64 sc.now)) hg
      go_wp2
      go_end0
      have e : untilS stepS s t = { sc with now := sc.now } := by rw [hS.out, endS]; congr 1; omega
      rw [e]
      first | exact ⟨rfl, v', hA2, hG3, hb2, hnow2, hL⟩ | exact ⟨rfl, ⟨v', hA2⟩, hG3, hb2, hnow2, hL⟩
end Go.Proofs.YtpbanfkjeiihbaaDoor
