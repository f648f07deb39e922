/- take. -/
import Derived.Test.YtpbanfkjeiihbaaDoorS4
set_option linter.unusedVariables false
set_option linter.unusedSimpArgs false
namespace Go.Proofs.YtpbanfkjeiihbaaDoor
open Go.RowKit

theorem takeS_due (l : List Tout) : ∀ (s : Sim), (l.foldl take1 s).due.length = s.due.length := by
  induction l with
  | nil => intro s; rfl
  | cons o l ih => intro s; rw [List.foldl_cons, ih]; exact length_dueS _ _ _
theorem takeS_now (l : List Tout) : ∀ (s : Sim), (l.foldl take1 s).now = s.now := by
  induction l with
  | nil => intro s; rfl
  | cons o l ih => intro s; rw [List.foldl_cons, ih]; rfl
theorem takeS_log (l : List Tout) : ∀ (s : Sim), (l.foldl take1 s).log.length = s.log.length + l.length := by
  induction l with
  | nil => intro s; rfl
  | cons o l ih => intro s; rw [List.foldl_cons, ih]; simp [take1]; omega
theorem fold_take {l : List Tout} {k : Nat} {o : Tout} (h : l[k]? = some o) (s : Sim) : (l.take (k+1)).foldl take1 s = take1 ((l.take k).foldl take1 s) o := by
  rw [List.take_add_one, h, List.foldl_append]; rfl
def okO (o : Tout) : Prop := 0 ≤ o.kind ∧ o.kind ≤ 255 ∧ 0 ≤ o.timer ∧ o.timer ≤ 255 ∧ -1099511627776 ≤ o.after ∧ o.after ≤ 1099511627776

theorem OwnO_cells {w : World} {b p q n c : Nat} {l : List Tout} (h : OwnO w b (.slice (some ⟨p, q, none⟩) n c) l) {k : Nat} {o : Tout} (ho : l[k]? = some o) :
    w.cell? ⟨p, q + k * 4, none⟩ = some (.int .u8 o.kind) ∧ w.cell? ⟨p, q + k * 4 + 1, none⟩ = some (.int .i64 o.code) ∧ w.cell? ⟨p, q + k * 4 + 2, none⟩ = some (.int .u8 o.timer) ∧ w.cell? ⟨p, q + k * 4 + 3, none⟩ = some (.int .i64 o.after) := by
  obtain ⟨A, c', hv, _, _, hr⟩ := OwnL.is h
  injection hv with e1 e2 e3
  subst e1
  obtain ⟨p', q', he, h0, h1, h2, h3⟩ := RdO hr ho
  injection he with he
  injection he with e1 e2
  subst e1 e2
  exact ⟨h0, h1, h2, h3⟩
set_option maxRecDepth 100000 in
set_option maxHeartbeats 2000000 in
theorem take_any (w : World) (g b : Nat) (v vl : Value) (s : Sim) (m : Mc) (l : List Tout) (h : At_ w g v s) (hl : OwnO w b vl l) (hap : Apart v vl) (hgb : g < b)
    (hnow : 0 ≤ s.now ∧ s.now ≤ 1099511627776) (hok : ∀ o ∈ l, okO o) (hlen : s.log.length + l.length ≤ 1000000000) :
    Calls Tryd.prog 26 #[.pointer (some ⟨g, 0, none⟩), m.val, vl] w fun e w' => e = .returned (.tuple #[]) ∧ ∃ v', At_ w' g v' (takeS s m l) ∧ Below g w w' := by
  have hz := h.lt
  obtain ⟨w1, hw1⟩ : ∃ w1, w1 = ((((w.setCell ⟨g, 0, none⟩ (.int .u8 m.st)).setCell ⟨g, 1, none⟩ (.int .i64 m.wait)).setCell ⟨g, 2, none⟩ (.int .i64 m.code)).alloc (.cells #[.int .u8 m.st, .int .i64 m.wait, .int .i64 m.code] 24)) := ⟨_, rfl⟩
  have hA : At_ w1 g v { s with m := m } := by rw [hw1]; exact (h.setM m).alloc _
  have hl0 : OwnO w1 b vl l := by rw [hw1]; exact (((hl.setFar hgb 0 _).setFar hgb 1 _).setFar hgb 2 _).alloc _
  have hbl : Below g w w1 := by
    rw [hw1]
    exact ((((Below.refl g w).setCell (Nat.le_refl _) _).setCell (Nat.le_refl _) _).setCell (Nat.le_refl _) _).alloc (by simp [World.setCell]; omega) _
  have HW := Lib.hid hw1; clear hw1
  have hf0 := h.fz
  have e0 := h.c0
  have e1 := h.c1
  have e2 := h.c2
  have hll : l.length ≤ 1000000000 := by omega
  go_enter Tryd.func26, Tryd.ntmps26
  go_wp2_with fail
  rw [← HW.out]
  clear hf0 e0 e1 e2 hl h
  have HOK := Lib.hid hok; clear hok
  go_loopw [6] (fun i wr => ∃ (k : Nat) (v' : Value), k ≤ l.length ∧ i = .int .i64 k ∧ At_ wr g v' ((l.take k).foldl take1 { s with m := m }) ∧ OwnO wr b vl l ∧ Apart v' vl ∧ Below g w wr) (fun i _ => l.length - (intOf i).toNat)
  case atStart => exact ⟨0, v, Nat.zero_le _, rfl, hA, hl0, hap, hbl⟩
  case round =>
    clear hA hl0 hbl hap
    obtain ⟨k, v', hk, rfl, hA, hl, hap, hbl⟩ := hrel
    obtain ⟨A, c, rfl, hn, _, hr⟩ := hl.is
    by_cases hlt : k < l.length
    · obtain ⟨o, ho⟩ := get_lt hlt
      obtain ⟨⟨k0, k1, t0, t1, a0, a1⟩⟩ : Nonempty (okO o) := ⟨HOK.out o (List.mem_of_getElem? ho)⟩
      have HF := Lib.hid (fold_take ho { s with m := m })
      obtain ⟨sk, hsk⟩ : ∃ sk, sk = (l.take k).foldl take1 { s with m := m } := ⟨_, rfl⟩
      have hnk : sk.now = s.now := by rw [hsk]; exact takeS_now _ _
      have hlk : sk.log.length = s.log.length + k := by rw [hsk, takeS_log]; simp; omega
      rw [← hsk] at hA HF
      clear hsk
      have hnow' : 0 ≤ sk.now ∧ sk.now ≤ 1099511627776 := by rw [hnk]; exact hnow
      have HLK := Lib.hid hlk; clear hlk hnk
      obtain ⟨p, q, rfl, h0, h1, h2, h3⟩ := RdO hr ho
      have HO := Lib.hid ho
      clear ho hr
      have hcl := hA.cl
      have hcn := hA.cn
      go_wp2_with fail
      refine wp_tree (.q [0, 1, 2, 3, 4, 5, 6, 7, 8, 9, 10, 11, 12, 13] (.one true 14 (.one false 15 (.q [16, 17] (.one false 18 .done))))) (by kernel_rfl) (by kernel_rfl) ?_
      refine walkT_q ?_
      dsimp only [pickL, nthL]
      go_wp2
      refine ⟨rfl, rfl, ?_⟩
      refine walkT_oneX ?_
      dsimp only [pickL, nthL]
      go_wp2_with fail
      refine ⟨rfl, (Below.refl _ wr.drew).alloc (Nat.le_refl _) _, ?_⟩
      refine walkT_one ?_
      dsimp only [pickL, nthL]
      go_wp2_with (at_builtin; refine wpList_app1n ETe Ent.enc wr.drew rfl (.tmp 21) (.tmp 31) rfl (g + 1) v' sk.log rfl hA.log.drew ⟨sk.now, o⟩ _ _ rfl rfl rfl (Ent.enc_one _) (by have := HLK.out; omega) (by simp only [maxLen]; have := HLK.out; omega) hA.lt ?_; intro v2 w6 hown6 hb6 hg6 hat6)
      refine ⟨rfl, ?_⟩
      obtain ⟨A6, c6, hv2, _, _, _⟩ := hown6.is
      have hB6 : Blk w6 g 44 (simC sk v') := Blk.below hA.drew.blk hb6 (Nat.lt_succ_self g)
      have hl6 := (hl.drew.alloc (.cells (Ent.enc ⟨sk.now, o⟩).toArray 55)).apart hap hg6
      have hap6 := hap.next hat6 hl.drew
      have hA7 := At_.setLog hB6 hA.due hown6
      have hl7 := hl6.setFar hgb 18 v2
      have hb7 : Below g w (w6.setCell ⟨g, 18, none⟩ v2) := (hbl.drew.trans (hb6.mono (Nat.le_succ g))).setCell (Nat.le_refl _) _
      have e18 : w6.cell? ⟨g, 18, none⟩ = some v' := (hB6.cell 18).trans (simC_log hA.due v')
      have hfr : ∀ i, w6.frozen? ⟨g, i, none⟩ = false := hB6.frozen
      clear hcl hcn h0 h1 h2 h3 hg6 hb6 hown6 hA hl hap hl6
      obtain ⟨n6, hn6⟩ : ∃ n6, n6 = (sk.log ++ [(⟨sk.now, o⟩ : Ent)]).length := ⟨_, rfl⟩
      rw [← hn6] at hv2
      subst hv2
      clear hn6
      refine walkT_q ?_
      dsimp only [pickL, nthL]
      go_wp2
      refine ⟨rfl, rfl, ?_⟩
      refine walkT_one ?_
      dsimp only [pickL, nthL]
      go_wp2_with fail
      refine ⟨rfl, ?_⟩
      refine walkT_done ?_
      clear e18 hfr hB6 hat6
      generalize hw7 : w6.setCell ⟨g, 18, none⟩ (.slice A6 n6 c6) = w7 at *
      obtain ⟨h0, h1, h2, h3⟩ := OwnO_cells hl7 HO.out
      by_cases hk4 : o.kind = 4
      · have e4 : (o.kind == 4) = true := by simpa using hk4
        have HK4 := Lib.hid hk4; clear hk4
        by_cases ht : o.timer < 14
        · obtain ⟨τ, hτ⟩ : ∃ τ : Nat, o.timer = τ := ⟨o.timer.toNat, by omega⟩
          rw [hτ] at h2 ht t0 t1
          have HT := Lib.hid hτ; clear hτ
          have hτ14 : τ < 14 := by omega
          obtain ⟨d, hd⟩ := get_lt (show τ < sk.due.length by have := hA7.due; simp at this; omega)
          have ed := hA7.cd (i := τ) (d := d) hd
          have en := hA7.cn
          have hfz := hA7.fz
          have HD := Lib.hid hd; clear hd
          simp only at en
          by_cases hm : 1 < o.after
          · go_wp2_with fail
            refine wp_tree (.q [0, 1, 2, 3, 4, 5, 6, 7, 8, 9, 10, 11, 12, 13, 14, 15, 16, 17, 18, 19] (.one false 20 .done)) (by kernel_rfl) (by kernel_rfl) ?_
            refine walkT_q ?_
            dsimp only [pickL, nthL]
            go_wp2
            refine ⟨rfl, rfl, ?_⟩
            refine walkT_one ?_
            dsimp only [pickL, nthL]
            go_wp2_with fail
            refine ⟨rfl, ?_⟩
            refine walkT_done ?_
            have hA8 := hA7.drew.setDue hτ14 (sk.now + o.after)
            have hl8 := hl7.drew.setFar hgb (3 + τ) (.int .i64 (sk.now + o.after))
            have hb8 := below_set hb7.drew (Nat.le_refl g) (3 + τ) (.int .i64 (sk.now + o.after))
            have hmx : Hid (max 1 o.after = o.after) := by show _ = _; omega
            go_wp2
            go_roundw
            case rel =>
              refine ⟨k + 1, .slice A6 n6 c6, by omega, by go_num, ?_, hl8, hap6, hb8⟩
              rw [HF.out]
              have e : take1 sk o = ⟨sk.m, sk.due.set τ (sk.now + o.after), sk.now, sk.log ++ [⟨sk.now, o⟩]⟩ := by
                simp [take1, dueS, HK4.out, HT.out, hmx.out, ht]
              rw [e]
              exact hA8
            case measure => simp [intOf]; omega
          · go_wp2_with fail
            refine wp_tree (.q [0, 1, 2, 3, 4, 5, 6, 7, 8, 9, 10, 11, 12, 13, 14, 15, 16, 17, 18, 19] (.one false 20 .done)) (by kernel_rfl) (by kernel_rfl) ?_
            refine walkT_q ?_
            dsimp only [pickL, nthL]
            go_wp2
            refine ⟨rfl, rfl, ?_⟩
            refine walkT_one ?_
            dsimp only [pickL, nthL]
            go_wp2_with fail
            refine ⟨rfl, ?_⟩
            refine walkT_done ?_
            have hA8 := hA7.drew.setDue hτ14 (sk.now + 1)
            have hl8 := hl7.drew.setFar hgb (3 + τ) (.int .i64 (sk.now + 1))
            have hb8 := below_set hb7.drew (Nat.le_refl g) (3 + τ) (.int .i64 (sk.now + 1))
            have hmx : Hid (max 1 o.after = 1) := by show _ = _; omega
            go_wp2
            go_roundw
            case rel =>
              refine ⟨k + 1, .slice A6 n6 c6, by omega, by go_num, ?_, hl8, hap6, hb8⟩
              rw [HF.out]
              have e : take1 sk o = ⟨sk.m, sk.due.set τ (sk.now + 1), sk.now, sk.log ++ [⟨sk.now, o⟩]⟩ := by
                simp [take1, dueS, HK4.out, HT.out, hmx.out, ht]
              rw [e]
              exact hA8
            case measure => simp [intOf]; omega
        · go_wp2
          go_roundw
          case rel =>
            refine ⟨k + 1, .slice A6 n6 c6, by omega, by go_num, ?_, hl7, hap6, hb7⟩
            rw [HF.out]
            simpa [take1, dueS, HK4.out, ht] using hA7
          case measure => simp [intOf]; omega
      · go_wp2
        go_roundw
        case rel =>
          refine ⟨k + 1, .slice A6 n6 c6, by omega, by go_num, ?_, hl7, hap6, hb7⟩
          rw [HF.out]
          simpa [take1, dueS, hk4] using hA7
        case measure => simp [intOf]; omega
    · have hkk : k = l.length := by omega
      subst hkk
      rw [List.take_length] at hA
      go_wp2
      go_end0
      exact ⟨rfl, v', hA, hbl⟩
end Go.Proofs.YtpbanfkjeiihbaaDoor
