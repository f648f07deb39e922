/- play. -/
import Derived.Test.YtpbanfkjeiihbaaDoorS8
set_option linter.unusedVariables false
set_option linter.unusedSimpArgs false
namespace Go.Proofs.YtpbanfkjeiihbaaDoor
open Go.RowKit

structure Ev where
  wait : Int
  kind : Int
  code : Int
def Ev.enc (e : Ev) : List Value := [.int .u16 e.wait, .int .u8 e.kind, .int .i64 e.code]
theorem Ev.enc_length (o : Ev) : o.enc.length = 3 := rfl
theorem RdV {w : World} {A : Option Addr} {ts : List Ev} (h : Rd w A (ts.flatMap Ev.enc)) {k : Nat} {t : Ev} (ht : ts[k]? = some t) :
    ∃ b o, A = some ⟨b, o, none⟩ ∧ w.cell? ⟨b, o + k * 3, none⟩ = some (.int .u16 t.wait) ∧ w.cell? ⟨b, o + k * 3 + 1, none⟩ = some (.int .u8 t.kind) ∧ w.cell? ⟨b, o + k * 3 + 2, none⟩ = some (.int .i64 t.code) := by
  have hk := (List.getElem?_eq_some_iff.1 ht).1
  obtain ⟨b, o, hA, hc⟩ := h.at_ (j := k * 3) (by rw [flat_length _ _ Ev.enc_length]; omega)
  refine ⟨b, o, hA, hc _ _ ?_, ?_, ?_⟩
  · exact flat_get Ev.enc 3 Ev.enc_length ts k t ht 0 (by omega)
  · rw [Nat.add_assoc]; exact hc _ _ (flat_get Ev.enc 3 Ev.enc_length ts k t ht 1 (by omega))
  · rw [Nat.add_assoc]; exact hc _ _ (flat_get Ev.enc 3 Ev.enc_length ts k t ht 2 (by omega))
def IsV (w : World) (v : Value) (l : List Ev) : Prop := IsL Ev.enc w v l ∧ ∀ e ∈ l, 0 ≤ e.wait ∧ e.wait ≤ 65535
theorem IsV.below {w w' : World} {v : Value} {l : List Ev} (h : IsV w v l) (hb : Below w.heap.size w w') : IsV w' v l := ⟨h.1.below hb, h.2⟩
def evS (f : StepF) (s : Sim) (e : Ev) : Sim := giveS f (untilS f s (s.now + e.wait)) ⟨e.kind, e.code, 0⟩
def playS (f : StepF) (s : Sim) (l : List Ev) : Sim := (l.take 40).foldl (evS f) s
theorem Rd.keepB {w w' : World} {A : Option Addr} {cs : List Value} {B : Nat} (h : Rd w A cs) (hb : Below B w w') (hB : ∀ b o, A = some ⟨b, o, none⟩ → b < B) : Rd w' A cs := by
  rcases h with h | ⟨b, o, hA, hc⟩
  · exact .inl h
  · exact .inr ⟨b, o, hA, fun j u hu => (hb.cell (p := ⟨b, o + j, none⟩) (hB b o hA)).trans (hc j u hu)⟩

theorem startS_log : startS.log.length ≤ 3 := by
  unfold startS takeS
  rw [takeS_log]
  have := l0_ok.1
  show 0 + _ ≤ _; omega
theorem startS_now : startS.now = 0 := by
  unfold startS takeS
  rw [takeS_now]; rfl
set_option maxRecDepth 100000 in
set_option maxHeartbeats 4000000 in
theorem play_any (w : World) (vl : Value) (l : List Ev) (hv : IsV w vl l) (hG : Gl w) :
    Calls Tryd.prog 21 #[vl] w fun e w' => ∃ v, e = .returned (.pointer (some ⟨w.heap.size, 0, none⟩)) ∧ At_ w' w.heap.size v (playS stepS startS l) ∧ Gl w' ∧ Below w.heap.size w w' ∧ (0 ≤ (playS stepS startS l).now ∧ (playS stepS startS l).now ≤ 4000000) ∧ (playS stepS startS l).log.length ≤ 100000 := by
  obtain ⟨⟨A, c, rfl, hn, _, hr⟩, hwt⟩ := hv
  have hg : 0 < w.heap.size := hG.1
  have HWT := Lib.hid hwt; clear hwt
  go_enter Tryd.func21, Tryd.ntmps21
  go_wp2_with fail
  refine (start_sim _ hG).mono ?_
  rintro e w1 ⟨v1, rfl, hA1, hG1, hb1⟩
  clear hG
  go_wp2_with fail
  go_loopw [4] (fun i wr => ∃ (K : Nat) (v : Value) (s : Sim), K ≤ l.length ∧ K ≤ 40 ∧ i = .int .i64 K ∧ At_ wr w.heap.size v s ∧ Gl wr ∧ Below w.heap.size w wr ∧ (0 ≤ s.now ∧ s.now ≤ 70000 * K) ∧ s.log.length ≤ 10 + 603 * K ∧ Hid (s = (l.take K).foldl (evS stepS) startS)) (fun i _ => 40 - (intOf i).toNat)
  case atStart => exact ⟨0, v1, startS, by omega, by omega, rfl, hA1, hG1, hb1, by rw [startS_now]; omega, by have := startS_log; omega, rfl⟩
  case round =>
    clear hA1 hG1 hb1
    obtain ⟨K, v, s, hK, hK40, rfl, hA, hG, hb, hnow, hL, hS⟩ := hrel
    have HL := Lib.hid hL; clear hL
    by_cases hlt : K < l.length
    · by_cases h40 : K < 40
      · obtain ⟨ev, hev⟩ := get_lt hlt
        have hw := HWT.out ev (List.mem_of_getElem? hev)
        obtain ⟨b, o, rfl, h0, h1, h2⟩ := RdV (hr.below hb) hev
        have hS' : Hid ((l.take (K + 1)).foldl (evS stepS) startS = evS stepS s ev) := by
          show _ = _
          rw [List.take_add_one, hev, List.foldl_append, ← hS.out]; rfl
        have hbl : b < w.heap.size := by
          rcases hr with h | ⟨b', o', he, hc⟩
          · exfalso
            have hh := flat_length _ _ Ev.enc_length l
            rw [h] at hh
            simp at hh; omega
          · injection he with he
            injection he with e1 e2
            subst e1
            have h9 := flat_get Ev.enc 3 Ev.enc_length l K ev hev 0 (by omega)
            exact World.block_lt_of_cell? w _ (hc _ _ (h9.trans rfl))
        clear hev
        have cn := hA.cn
        go_wp2_with fail
        refine wp_tree (.q [0, 1, 2, 3, 4, 5, 6, 7, 8, 9, 10, 11] (.one false 12 .done)) (by kernel_rfl) (by kernel_rfl) ?_
        refine walkT_q ?_
        dsimp only [pickL, nthL]
        go_wp2
        refine ⟨rfl, rfl, ?_⟩
        refine walkT_one ?_
        dsimp only [pickL, nthL]
        go_wp2_with fail
        refine (until_any _ w.heap.size v s (s.now + ev.wait) hA.drew hG.drew hg (by omega) (by omega) (by have := HL.out; omega)).mono ?_
        rintro e w2 ⟨rfl, v2, hA2, hG2, hb2, hnow2, hL2⟩
        have hnow3 := untilS_now stepS s (s.now + ev.wait)
        have hbw2 := hb.drew.trans hb2
        have h1' := (hb2.cell (p := ⟨b, o + K * 3 + 1, none⟩) hbl).trans h1
        have h2' := (hb2.cell (p := ⟨b, o + K * 3 + 2, none⟩) hbl).trans h2
        clear hA hG hb hb2 h0 h1 h2 cn
        obtain ⟨s2, hs2⟩ : ∃ s2, s2 = untilS stepS s (s.now + ev.wait) := ⟨_, rfl⟩
        rw [← hs2] at hA2 hnow2 hL2 hnow3
        have HS2 := Lib.hid hs2; clear hs2
        go_wp2_with fail
        refine ⟨rfl, ?_⟩
        refine walkT_done ?_
        go_wp2_with fail
        refine wp_tree (.q [0, 1, 2, 3, 4, 5, 6, 7, 8, 9, 10, 11] (.one false 12 .done)) (by kernel_rfl) (by kernel_rfl) ?_
        refine walkT_q ?_
        dsimp only [pickL, nthL]
        go_wp2
        refine ⟨rfl, rfl, ?_⟩
        refine walkT_one ?_
        dsimp only [pickL, nthL]
        go_wp2_with fail
        refine (give_any _ w.heap.size v2 s2 ⟨ev.kind, ev.code, 0⟩ hA2.drew hG2.drew hg hnow2 (by have := HL.out; omega)).mono ?_
        rintro e w3 ⟨rfl, v3, hA3, hb3⟩
        have hG3 := hG2.drew.keep hb3 hg
        have hbw3 := hbw2.drew.trans hb3
        have hl3 := giveS_log stepS s2 ⟨ev.kind, ev.code, 0⟩ (stepS_ok _ _).1
        have hn3 : (giveS stepS s2 ⟨ev.kind, ev.code, 0⟩).now = s2.now := giveS_now _ _ _
        have hn4 : 0 ≤ (giveS stepS s2 ⟨ev.kind, ev.code, 0⟩).now ∧ (giveS stepS s2 ⟨ev.kind, ev.code, 0⟩).now ≤ 70000 * ((K + 1 : Nat) : Int) := by rw [hn3]; omega
        have hS3 : Hid (giveS stepS s2 ⟨ev.kind, ev.code, 0⟩ = (l.take (K + 1)).foldl (evS stepS) startS) := by
          show _ = _
          rw [hS'.out, evS, ← HS2.out]
        have hl4 : (giveS stepS s2 ⟨ev.kind, ev.code, 0⟩).log.length ≤ 10 + 603 * (K + 1) := by have := HL.out; omega
        clear hA2 hG2 hbw2 h1' h2' hn3 hl3 hb3
        go_wp2_with fail
        refine ⟨rfl, ?_⟩
        refine walkT_done ?_
        go_wp2
        go_roundw
        case rel => exact ⟨K + 1, v3, _, by omega, by omega, by go_num, hA3, hG3, hbw3, hn4, hl4, hS3⟩
        case measure => simp [intOf]; omega
      · have hK4 : K = 40 := by omega
        have hE : playS stepS startS l = s := by rw [playS, ← hK4, hS.out]
        subst hK4
        go_wp2
        go_ret
        rw [hE]
        exact ⟨v, rfl, hA, hG, hb, by omega, by have := HL.out; omega⟩
    · have hKl : K = l.length := by omega
      have hE : playS stepS startS l = s := by rw [playS, hS.out, hKl, List.take_length, List.take_of_length_le (by omega)]
      go_wp2
      go_ret
      rw [hE]
      exact ⟨v, rfl, hA, hG, hb, by omega, by have := HL.out; omega⟩
end Go.Proofs.YtpbanfkjeiihbaaDoor
