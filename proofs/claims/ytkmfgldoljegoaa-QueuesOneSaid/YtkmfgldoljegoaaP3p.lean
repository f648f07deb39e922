import Derived.Test.YtkmfgldoljegoaaP2p
set_option linter.unusedVariables false
set_option linter.unusedSimpArgs false
set_option maxRecDepth 100000
set_option maxHeartbeats 4000000
namespace Go.Proofs.Ytkmfgldoljegoaa
open Go.RowKit
def DC (cs : List Ca) (ss : List Se) (now : Int) (i : Nat) : Prop := (1 ≤ (cs.getD i dC).1 ∧ (cs.getD i dC).1 ≤ 2147483647) ∧ idxC cs (cs.getD i dC).1 = (i : Int) ∧ (0 ≤ (cs.getD i dC).2.1 ∧ (cs.getD i dC).2.1 ≤ 10) ∧ (0 ≤ (cs.getD i dC).2.2.1 ∧ (cs.getD i dC).2.2.1 ≤ now) ∧ lastC cs i ≤ (cs.getD i dC).2.2.1 ∧ ¬ Busy ss (cs.getD i dC).1 ∧ PA ss (cs.getD i dC)
def DS (cs : List Ca) (ss : List Se) (now : Int) (k : Nat) : Prop := (1 ≤ (ss.getD k dS).1 ∧ (ss.getD k dS).1 ≤ 2147483647) ∧ lastS ss k < (ss.getD k dS).1 ∧ (0 ≤ (ss.getD k dS).2.2.1 ∧ (ss.getD k dS).2.2.1 ≤ now) ∧ (0 ≤ (ss.getD k dS).2.2.2.2 ∧ (ss.getD k dS).2.2.2.2 ≤ 2147483647) ∧ (1 ≤ (ss.getD k dS).2.1 ∧ (ss.getD k dS).2.1 ≤ 4) ∧
  ((ss.getD k dS).2.1 = 2 → (1 ≤ (ss.getD k dS).2.2.2.1 ∧ (ss.getD k dS).2.2.2.1 ≤ 2147483647) ∧ PR cs (ss.getD k dS)) ∧
  ((ss.getD k dS).2.1 = 3 → (1 ≤ (ss.getD k dS).2.2.2.1 ∧ (ss.getD k dS).2.2.2.1 ≤ 2147483647) ∧ ∀ j, j < k → ¬ ((ss.getD j dS).2.1 = 3 ∧ (ss.getD j dS).2.2.2.1 = (ss.getD k dS).2.2.2.1)) ∧
  ((ss.getD k dS).2.1 ≠ 2 → (ss.getD k dS).2.1 ≠ 3 → (ss.getD k dS).2.2.2.1 = 0)
theorem dcl_j (a1 : List Ca) (a2 : List Se) (a3 a4 a5 a6 a7 : Int) (h1 : a1.length ≤ 1000) (h2 : a2.length ≤ 1000) : Is (dialtoneref36_callers (a1, (a2, (a3, (a4, (a5, (a6, a7))))))) (∀ i, i < a1.length → DC a1 a2 a7 i) := by
  rw [dcl_eq]
  rcases loop_all (body := dclB a1 a2 a3 a4 a5 a6 a7) a1.length (DC a1 a2 a7) (.inl ()) (.inr false) (fun i hi hb => by
    obtain ⟨x, hx, hxb⟩ := get_at dC hi
    obtain ⟨b1, b2, b3, b4, b5, b6, b7⟩ := hb
    unfold PA at b7
    rw [hx] at b1 b2 b3 b4 b5 b6 b7
    have bz := (dbz_j a1 a2 a3 a4 a5 a6 a7 x.1 (by omega)).b.resolve_left (fun q => b6 q.1)
    have bz := fun {β : Type} (f : Bool → Option β) => bz.2 f
    unfold dclB
    have fin : ∀ (r : Option (Int ⊕ (Unit ⊕ Bool))), r = some (.inl (Go.IntKind.wrap .i64 ((i : Int) + 1))) → r = some (.inl ((i + 1 : Nat) : Int)) := fun r e => by rw [e, wrap_i64' (by omega)]; rfl
    apply fin
    by_cases ha : x.2.2.2 = 0
    · cases i with
      | zero => simp (disch := (first | omega | (simp only [LNl]; omega))) only [↓SDl, SDr, if_pos, if_neg, ↓hxb, ↓frm_b, ↓did_b, ↓wts_b, ↓rst_b, b2, ↓bz]
      | succ p =>
        obtain ⟨z, hz, hzb⟩ := get_at dC (show p < a1.length from by omega)
        have hlz : lastC a1 (p + 1) = z.2.2.1 := by show (a1.getD p dC).2.2.1 = _; rw [hz]
        rw [hlz] at b5
        have hw : Go.IntKind.wrap .i64 (((p + 1 : Nat) : Int) - 1) = (p : Int) := by rw [wrap_i64' (by omega)]; omega
        simp (disch := (first | omega | (simp only [LNl]; omega))) only [↓SDl, SDr, if_pos, if_neg, ↓hxb, ↓frm_b, ↓did_b, ↓wts_b, ↓rst_b, b2, ↓bz, ↓hw, ↓hzb]
    · obtain ⟨k, k1, k2, k3, k4⟩ := b7 ha
      obtain ⟨y, hy, hyb⟩ := get_at dS k2
      rw [hy] at k3 k4
      cases i with
      | zero => simp (disch := (first | omega | (simp only [LNl]; omega))) only [↓SDl, SDr, if_pos, if_neg, ↓hxb, ↓hyb, ↓frm_b, ↓did_b, ↓wts_b, ↓rst_b, b2, k1, ↓bz]
      | succ p =>
        obtain ⟨z, hz, hzb⟩ := get_at dC (show p < a1.length from by omega)
        have hlz : lastC a1 (p + 1) = z.2.2.1 := by show (a1.getD p dC).2.2.1 = _; rw [hz]
        rw [hlz] at b5
        have hw : Go.IntKind.wrap .i64 (((p + 1 : Nat) : Int) - 1) = (p : Int) := by rw [wrap_i64' (by omega)]; omega
        simp (disch := (first | omega | (simp only [LNl]; omega))) only [↓SDl, SDr, if_pos, if_neg, ↓hxb, ↓hyb, ↓frm_b, ↓did_b, ↓wts_b, ↓rst_b, b2, k1, ↓bz, ↓hw, ↓hzb]) (fun i hi hb => by
    obtain ⟨x, hx, hxb⟩ := get_at dC hi
    unfold DC PA at hb
    rw [hx] at hb
    unfold dclB
    by_cases b1 : 1 ≤ x.1 ∧ x.1 ≤ 2147483647
    · by_cases b2 : idxC a1 x.1 = (i : Int)
      · by_cases b3 : 0 ≤ x.2.1 ∧ x.2.1 ≤ 10
        · by_cases b4 : 0 ≤ x.2.2.1 ∧ x.2.2.1 ≤ a7
          · by_cases b5 : lastC a1 i ≤ x.2.2.1
            · rcases (dbz_j a1 a2 a3 a4 a5 a6 a7 x.1 (by omega)).b with ⟨b6, bz⟩ | ⟨b6, bz⟩
              · cases i with
                | zero => simp (disch := (first | omega | (simp only [LNl]; omega))) only [↓SDl, SDr, if_pos, if_neg, ↓hxb, ↓frm_b, ↓did_b, ↓wts_b, ↓rst_b, b2, ↓bz]
                | succ p =>
                  obtain ⟨z, hz, hzb⟩ := get_at dC (show p < a1.length from by omega)
                  have hlz : lastC a1 (p + 1) = z.2.2.1 := by show (a1.getD p dC).2.2.1 = _; rw [hz]
                  rw [hlz] at b5
                  have hw : Go.IntKind.wrap .i64 (((p + 1 : Nat) : Int) - 1) = (p : Int) := by rw [wrap_i64' (by omega)]; omega
                  simp (disch := (first | omega | (simp only [LNl]; omega))) only [↓SDl, SDr, if_pos, if_neg, ↓hxb, ↓frm_b, ↓did_b, ↓wts_b, ↓rst_b, b2, ↓bz, ↓hw, ↓hzb]
              · by_cases ha : x.2.2.2 = 0
                · exact absurd ⟨b1, b2, b3, b4, b5, b6, fun q => absurd ha q⟩ hb
                · have key : (∀ {β : Type} (f : Int → Option β), bindO (dialtoneref36_seat ((a1, (a2, (a3, (a4, (a5, (a6, a7)))))), x.2.2.2)) f = f (idxT a2 x.2.2.2)) := fun f => rst_b _ _ _ _ _ _ _ _ f (by omega)
                  rcases idxT_cases a2 x.2.2.2 with ⟨k1, _⟩ | ⟨k, k1, k2, _⟩
                  · cases i with
                    | zero => simp (disch := (first | omega | (simp only [LNl]; omega))) only [↓SDl, SDr, if_pos, if_neg, ↓hxb, ↓frm_b, ↓did_b, ↓wts_b, ↓rst_b, b2, k1, ↓bz]
                    | succ p =>
                      obtain ⟨z, hz, hzb⟩ := get_at dC (show p < a1.length from by omega)
                      have hlz : lastC a1 (p + 1) = z.2.2.1 := by show (a1.getD p dC).2.2.1 = _; rw [hz]
                      rw [hlz] at b5
                      have hw : Go.IntKind.wrap .i64 (((p + 1 : Nat) : Int) - 1) = (p : Int) := by rw [wrap_i64' (by omega)]; omega
                      simp (disch := (first | omega | (simp only [LNl]; omega))) only [↓SDl, SDr, if_pos, if_neg, ↓hxb, ↓frm_b, ↓did_b, ↓wts_b, ↓rst_b, b2, k1, ↓bz, ↓hw, ↓hzb]
                  · obtain ⟨y, hy, hyb⟩ := get_at dS k2
                    have hne : ¬ (y.2.1 = 2 ∧ y.2.2.2.1 = x.1) := fun q => hb ⟨b1, b2, b3, b4, b5, b6, fun _ => ⟨k, k1, k2, by rw [hy]; exact q⟩⟩
                    by_cases c1 : y.2.1 = 2
                    · have c2 : ¬ y.2.2.2.1 = x.1 := fun q => hne ⟨c1, q⟩
                      cases i with
                      | zero => simp (disch := (first | omega | (simp only [LNl]; omega))) only [↓SDl, SDr, if_pos, if_neg, ↓hxb, ↓hyb, ↓frm_b, ↓did_b, ↓wts_b, ↓rst_b, b2, k1, ↓bz]
                      | succ p =>
                        obtain ⟨z, hz, hzb⟩ := get_at dC (show p < a1.length from by omega)
                        have hlz : lastC a1 (p + 1) = z.2.2.1 := by show (a1.getD p dC).2.2.1 = _; rw [hz]
                        rw [hlz] at b5
                        have hw : Go.IntKind.wrap .i64 (((p + 1 : Nat) : Int) - 1) = (p : Int) := by rw [wrap_i64' (by omega)]; omega
                        simp (disch := (first | omega | (simp only [LNl]; omega))) only [↓SDl, SDr, if_pos, if_neg, ↓hxb, ↓hyb, ↓frm_b, ↓did_b, ↓wts_b, ↓rst_b, b2, k1, ↓bz, ↓hw, ↓hzb]
                    · cases i with
                      | zero => simp (disch := (first | omega | (simp only [LNl]; omega))) only [↓SDl, SDr, if_pos, if_neg, ↓hxb, ↓hyb, ↓frm_b, ↓did_b, ↓wts_b, ↓rst_b, b2, k1, ↓bz]
                      | succ p =>
                        obtain ⟨z, hz, hzb⟩ := get_at dC (show p < a1.length from by omega)
                        have hlz : lastC a1 (p + 1) = z.2.2.1 := by show (a1.getD p dC).2.2.1 = _; rw [hz]
                        rw [hlz] at b5
                        have hw : Go.IntKind.wrap .i64 (((p + 1 : Nat) : Int) - 1) = (p : Int) := by rw [wrap_i64' (by omega)]; omega
                        simp (disch := (first | omega | (simp only [LNl]; omega))) only [↓SDl, SDr, if_pos, if_neg, ↓hxb, ↓hyb, ↓frm_b, ↓did_b, ↓wts_b, ↓rst_b, b2, k1, ↓bz, ↓hw, ↓hzb]
            · cases i with
              | zero => exact absurd b4.1 b5
              | succ p =>
                obtain ⟨z, hz, hzb⟩ := get_at dC (show p < a1.length from by omega)
                have hlz : lastC a1 (p + 1) = z.2.2.1 := by show (a1.getD p dC).2.2.1 = _; rw [hz]
                rw [hlz] at b5
                have hw : Go.IntKind.wrap .i64 (((p + 1 : Nat) : Int) - 1) = (p : Int) := by rw [wrap_i64' (by omega)]; omega
                simp (disch := (first | omega | (simp only [LNl]; omega))) only [↓SDl, SDr, if_pos, if_neg, ↓hxb, ↓frm_b, ↓did_b, ↓wts_b, ↓rst_b, b2, ↓hw, ↓hzb]
          · simp (disch := (first | omega | (simp only [LNl]; omega))) only [↓SDl, SDr, if_pos, if_neg, ↓hxb, ↓frm_b, ↓did_b, ↓wts_b, ↓rst_b, b2]
        · simp (disch := (first | omega | (simp only [LNl]; omega))) only [↓SDl, SDr, if_pos, if_neg, ↓hxb, ↓frm_b, ↓did_b, ↓wts_b, ↓rst_b, b2]
      · simp (disch := (first | omega | (simp only [LNl]; omega))) only [↓SDl, SDr, if_pos, if_neg, ↓hxb, ↓frm_b, ↓did_b, ↓wts_b, ↓rst_b]
    · simp (disch := (first | omega | (simp only [LNl]; omega))) only [↓SDl, SDr, if_pos, if_neg, ↓hxb, ↓frm_b, ↓did_b, ↓wts_b, ↓rst_b]) (by
    unfold dclB
    simp (disch := (first | omega | (simp only [LNl]; omega))) only [↓SDl, SDr, if_neg]) with ⟨hp, e⟩ | ⟨hp, e⟩
  · exact .inl ⟨hp, joinO_eq e rfl⟩
  · exact .inr ⟨hp, joinO_eqr e⟩
theorem dsi_j (a2 : List Se) (i : Nat) (x : Se) (w : Int) (h : i ≤ 1000) (hx : x.2.1 = 2) : loopO (dsiB a2 (i : Int) x w) 0 = some (.inl ((i : Int), (w, true))) := by
  refine loopO_from (fun q => (q : Int)) i rfl (fun q hq => ?_) ?_
  · unfold dsiB
    simp (disch := (first | omega | (simp only [LNl]; omega))) only [↓SDl, SDr, if_pos, if_neg, wrap_i64']
    rfl
  · unfold dsiB
    simp (disch := (first | omega | (simp only [LNl]; omega))) only [↓SDl, SDr, if_neg]
theorem dsj_j (a2 : List Se) (i : Nat) (x : Se) (w : Int) (h : i ≤ 1000) (hx : ¬ x.2.1 = 3) : loopO (dsjB a2 (i : Int) x w) 0 = some (.inl ((i : Int), (w, false))) := by
  refine loopO_from (fun q => (q : Int)) i rfl (fun q hq => ?_) ?_
  · unfold dsjB
    simp (disch := (first | omega | (simp only [LNl]; omega))) only [↓SDl, SDr, if_pos, if_neg, wrap_i64']
    rfl
  · unfold dsjB
    simp (disch := (first | omega | (simp only [LNl]; omega))) only [↓SDl, SDr, if_neg, hx, decide_false]
theorem dsk_j (a2 : List Se) (i : Nat) (x : Se) (w : Int) (h : i ≤ 1000) (hi : i ≤ a2.length) (hx : x.2.1 = 3) :
    ((∀ j, j < i → ¬ ((a2.getD j dS).2.1 = 3 ∧ (a2.getD j dS).2.2.2.1 = x.2.2.2.1)) ∧ loopO (dsjB a2 (i : Int) x w) 0 = some (.inl ((i : Int), (w, true)))) ∨ (¬ (∀ j, j < i → ¬ ((a2.getD j dS).2.1 = 3 ∧ (a2.getD j dS).2.2.2.1 = x.2.2.2.1)) ∧ loopO (dsjB a2 (i : Int) x w) 0 = some (.inr (.inr (.inr false)))) := by
  refine loop_all (body := dsjB a2 (i : Int) x w) i (fun j => ¬ ((a2.getD j dS).2.1 = 3 ∧ (a2.getD j dS).2.2.2.1 = x.2.2.2.1)) _ _ (fun j hj hb => ?_) (fun j hj hb => ?_) ?_
  · obtain ⟨y, hy, hyb⟩ := get_at dS (show j < a2.length from by omega)
    rw [hy] at hb
    unfold dsjB
    by_cases e : y.2.1 = 3
    · have e2 : ¬ y.2.2.2.1 = x.2.2.2.1 := fun q => hb ⟨e, q⟩
      simp (disch := (first | omega | (simp only [LNl]; omega))) only [↓SDl, SDr, if_pos, if_neg, ↓hyb, wrap_i64', e2, decide_false]
      rfl
    · simp (disch := (first | omega | (simp only [LNl]; omega))) only [↓SDl, SDr, if_pos, if_neg, ↓hyb, wrap_i64']
      rfl
  · obtain ⟨y, hy, hyb⟩ := get_at dS (show j < a2.length from by omega)
    rw [hy] at hb
    obtain ⟨e1, e2⟩ := Classical.not_not.1 hb
    unfold dsjB
    simp (disch := (first | omega | (simp only [LNl]; omega))) only [↓SDl, SDr, if_pos, if_neg, ↓hyb, e2, decide_true]
  · unfold dsjB
    simp (disch := (first | omega | (simp only [LNl]; omega))) only [↓SDl, SDr, if_neg, hx, decide_true]
theorem dse_j (a1 : List Ca) (a2 : List Se) (a3 a4 a5 a6 a7 : Int) (h1 : a1.length ≤ 1000) (h2 : a2.length ≤ 1000) : Is (dialtoneref36_seats (a1, (a2, (a3, (a4, (a5, (a6, a7))))))) (∀ i, i < a2.length → DS a1 a2 a7 i) := by
  rw [dse_eq]
  rcases loop_all (body := dseB a1 a2 a3 a4 a5 a6 a7) a2.length (DS a1 a2 a7) (.inl ()) (.inr false) (fun i hi hb => by
    obtain ⟨x, hx, hxb⟩ := get_at dS hi
    obtain ⟨b1, b2, b3, b4, b5, b6, b7, b8⟩ := hb
    unfold PR at b6
    rw [hx] at b1 b2 b3 b4 b5 b6 b7 b8
    have fin : ∀ (r : Option (Int ⊕ (Unit ⊕ Bool))), r = some (.inl (Go.IntKind.wrap .i64 ((i : Int) + 1))) → r = some (.inl ((i + 1 : Nat) : Int)) := fun r e => by rw [e, wrap_i64' (by omega)]; rfl
    apply fin
    unfold dseB
    by_cases n2 : x.2.1 = 2
    · obtain ⟨c1, k, k1, k2, k3⟩ := b6 n2
      obtain ⟨y, hy, hyb⟩ := get_at dC k2
      rw [hy] at k3
      have e := dsi_j a2 i x (idxC a1 x.2.2.2.1) (by omega) n2
      rw [k1] at e
      cases i with
      | zero => simp (disch := (first | omega | (simp only [LNl]; omega))) only [↓SDl, SDr, if_pos, if_neg, ↓hxb, ↓hyb, ↓frm_b, ↓did_b, ↓wts_b, k1, e]
      | succ p =>
        obtain ⟨z, hz, hzb⟩ := get_at dS (show p < a2.length from by omega)
        have hlz : lastS a2 (p + 1) = z.1 := by show (a2.getD p dS).1 = _; rw [hz]
        rw [hlz] at b2
        have hw : Go.IntKind.wrap .i64 (((p + 1 : Nat) : Int) - 1) = (p : Int) := by rw [wrap_i64' (by omega)]; omega
        simp (disch := (first | omega | (simp only [LNl]; omega))) only [↓SDl, SDr, if_pos, if_neg, ↓hxb, ↓hyb, ↓frm_b, ↓did_b, ↓wts_b, k1, e, ↓hw, ↓hzb]
    · by_cases n3 : x.2.1 = 3
      · obtain ⟨c1, c2⟩ := b7 n3
        have e := ((dsk_j a2 i x (idxC a1 x.2.2.2.1) (by omega) (by omega) n3).resolve_right fun q => q.1 c2).2
        cases i with
        | zero => simp (disch := (first | omega | (simp only [LNl]; omega))) only [↓SDl, SDr, if_pos, if_neg, ↓hxb, ↓frm_b, ↓did_b, ↓wts_b, e, n2, n3, decide_true, decide_false]
        | succ p =>
          obtain ⟨z, hz, hzb⟩ := get_at dS (show p < a2.length from by omega)
          have hlz : lastS a2 (p + 1) = z.1 := by show (a2.getD p dS).1 = _; rw [hz]
          rw [hlz] at b2
          have hw : Go.IntKind.wrap .i64 (((p + 1 : Nat) : Int) - 1) = (p : Int) := by rw [wrap_i64' (by omega)]; omega
          simp (disch := (first | omega | (simp only [LNl]; omega))) only [↓SDl, SDr, if_pos, if_neg, ↓hxb, ↓frm_b, ↓did_b, ↓wts_b, e, n2, n3, decide_true, decide_false, ↓hw, ↓hzb]
      · have c0 := b8 n2 n3
        have e := dsj_j a2 i x (idxC a1 x.2.2.2.1) (by omega) n3
        cases i with
        | zero => simp (disch := (first | omega | (simp only [LNl]; omega))) only [↓SDl, SDr, if_pos, if_neg, ↓hxb, ↓frm_b, ↓did_b, ↓wts_b, e, n2, n3, decide_true, decide_false]
        | succ p =>
          obtain ⟨z, hz, hzb⟩ := get_at dS (show p < a2.length from by omega)
          have hlz : lastS a2 (p + 1) = z.1 := by show (a2.getD p dS).1 = _; rw [hz]
          rw [hlz] at b2
          have hw : Go.IntKind.wrap .i64 (((p + 1 : Nat) : Int) - 1) = (p : Int) := by rw [wrap_i64' (by omega)]; omega
          simp (disch := (first | omega | (simp only [LNl]; omega))) only [↓SDl, SDr, if_pos, if_neg, ↓hxb, ↓frm_b, ↓did_b, ↓wts_b, e, n2, n3, decide_true, decide_false, ↓hw, ↓hzb]) (fun i hi hb => by
    obtain ⟨x, hx, hxb⟩ := get_at dS hi
    unfold DS PR at hb
    rw [hx] at hb
    unfold dseB
    have front : ∀ (k : Option ((Int × (Int × Bool)) ⊕ (Int ⊕ (Unit ⊕ Bool)))), True := fun _ => trivial
    by_cases b1 : 1 ≤ x.1 ∧ x.1 ≤ 2147483647
    · by_cases b2 : lastS a2 i < x.1
      · obtain ⟨z, hzz⟩ : ∃ z : Se, z = a2.getD (i - 1) dS := ⟨_, rfl⟩
        by_cases bb : (0 ≤ x.2.2.1 ∧ x.2.2.1 ≤ a7) ∧ (0 ≤ x.2.2.2.2 ∧ x.2.2.2.2 ≤ 2147483647) ∧ (1 ≤ x.2.1 ∧ x.2.1 ≤ 4)
        · obtain ⟨b3, b4, b5⟩ := bb
          by_cases n2 : x.2.1 = 2
          · have hne : ¬ ((1 ≤ x.2.2.2.1 ∧ x.2.2.2.1 ≤ 2147483647) ∧ ∃ i : Nat, idxC a1 x.2.2.2.1 = (i : Int) ∧ i < a1.length ∧ (a1.getD i dC).2.2.2 = x.1) := fun q => hb ⟨b1, b2, b3, b4, b5, fun _ => q, fun q => by omega, fun q => absurd n2 q⟩
            by_cases c1 : 1 ≤ x.2.2.2.1 ∧ x.2.2.2.1 ≤ 2147483647
            · rcases idxC_cases a1 x.2.2.2.1 with ⟨k1, _⟩ | ⟨k, k1, k2, _⟩
              · cases i with
                | zero => simp (disch := (first | omega | (simp only [LNl]; omega))) only [↓SDl, SDr, if_pos, if_neg, ↓hxb, ↓frm_b, ↓did_b, ↓wts_b, k1]
                | succ p =>
                  obtain ⟨z, hz, hzb⟩ := get_at dS (show p < a2.length from by omega)
                  have hlz : lastS a2 (p + 1) = z.1 := by show (a2.getD p dS).1 = _; rw [hz]
                  rw [hlz] at b2
                  have hw : Go.IntKind.wrap .i64 (((p + 1 : Nat) : Int) - 1) = (p : Int) := by rw [wrap_i64' (by omega)]; omega
                  simp (disch := (first | omega | (simp only [LNl]; omega))) only [↓SDl, SDr, if_pos, if_neg, ↓hxb, ↓frm_b, ↓did_b, ↓wts_b, k1, ↓hw, ↓hzb]
              · obtain ⟨y, hy, hyb⟩ := get_at dC k2
                have c3 : ¬ y.2.2.2 = x.1 := fun q => hne ⟨c1, k, k1, k2, by rw [hy]; exact q⟩
                cases i with
                | zero => simp (disch := (first | omega | (simp only [LNl]; omega))) only [↓SDl, SDr, if_pos, if_neg, ↓hxb, ↓hyb, ↓frm_b, ↓did_b, ↓wts_b, k1]
                | succ p =>
                  obtain ⟨z, hz, hzb⟩ := get_at dS (show p < a2.length from by omega)
                  have hlz : lastS a2 (p + 1) = z.1 := by show (a2.getD p dS).1 = _; rw [hz]
                  rw [hlz] at b2
                  have hw : Go.IntKind.wrap .i64 (((p + 1 : Nat) : Int) - 1) = (p : Int) := by rw [wrap_i64' (by omega)]; omega
                  simp (disch := (first | omega | (simp only [LNl]; omega))) only [↓SDl, SDr, if_pos, if_neg, ↓hxb, ↓hyb, ↓frm_b, ↓did_b, ↓wts_b, k1, ↓hw, ↓hzb]
            · cases i with
              | zero => simp (disch := (first | omega | (simp only [LNl]; omega))) only [↓SDl, SDr, if_pos, if_neg, ↓hxb, ↓frm_b, ↓did_b, ↓wts_b]
              | succ p =>
                obtain ⟨z, hz, hzb⟩ := get_at dS (show p < a2.length from by omega)
                have hlz : lastS a2 (p + 1) = z.1 := by show (a2.getD p dS).1 = _; rw [hz]
                rw [hlz] at b2
                have hw : Go.IntKind.wrap .i64 (((p + 1 : Nat) : Int) - 1) = (p : Int) := by rw [wrap_i64' (by omega)]; omega
                simp (disch := (first | omega | (simp only [LNl]; omega))) only [↓SDl, SDr, if_pos, if_neg, ↓hxb, ↓frm_b, ↓did_b, ↓wts_b, ↓hw, ↓hzb]
          · by_cases n3 : x.2.1 = 3
            · have hne : ¬ ((1 ≤ x.2.2.2.1 ∧ x.2.2.2.1 ≤ 2147483647) ∧ ∀ j, j < i → ¬ ((a2.getD j dS).2.1 = 3 ∧ (a2.getD j dS).2.2.2.1 = x.2.2.2.1)) := fun q => hb ⟨b1, b2, b3, b4, b5, fun q => absurd q n2, fun _ => q, fun _ q => absurd n3 q⟩
              by_cases c1 : 1 ≤ x.2.2.2.1 ∧ x.2.2.2.1 ≤ 2147483647
              · have e := ((dsk_j a2 i x (idxC a1 x.2.2.2.1) (by omega) (by omega) n3).resolve_left fun q => hne ⟨c1, q.1⟩).2
                cases i with
                | zero => simp (disch := (first | omega | (simp only [LNl]; omega))) only [↓SDl, SDr, if_pos, if_neg, ↓hxb, ↓frm_b, ↓did_b, ↓wts_b, e, n2, n3, decide_true, decide_false]
                | succ p =>
                  obtain ⟨z, hz, hzb⟩ := get_at dS (show p < a2.length from by omega)
                  have hlz : lastS a2 (p + 1) = z.1 := by show (a2.getD p dS).1 = _; rw [hz]
                  rw [hlz] at b2
                  have hw : Go.IntKind.wrap .i64 (((p + 1 : Nat) : Int) - 1) = (p : Int) := by rw [wrap_i64' (by omega)]; omega
                  simp (disch := (first | omega | (simp only [LNl]; omega))) only [↓SDl, SDr, if_pos, if_neg, ↓hxb, ↓frm_b, ↓did_b, ↓wts_b, e, n2, n3, decide_true, decide_false, ↓hw, ↓hzb]
              · cases i with
                | zero => simp (disch := (first | omega | (simp only [LNl]; omega))) only [↓SDl, SDr, if_pos, if_neg, ↓hxb, ↓frm_b, ↓did_b, ↓wts_b, n2, n3, decide_true, decide_false]
                | succ p =>
                  obtain ⟨z, hz, hzb⟩ := get_at dS (show p < a2.length from by omega)
                  have hlz : lastS a2 (p + 1) = z.1 := by show (a2.getD p dS).1 = _; rw [hz]
                  rw [hlz] at b2
                  have hw : Go.IntKind.wrap .i64 (((p + 1 : Nat) : Int) - 1) = (p : Int) := by rw [wrap_i64' (by omega)]; omega
                  simp (disch := (first | omega | (simp only [LNl]; omega))) only [↓SDl, SDr, if_pos, if_neg, ↓hxb, ↓frm_b, ↓did_b, ↓wts_b, n2, n3, decide_true, decide_false, ↓hw, ↓hzb]
            · have c0 : ¬ x.2.2.2.1 = 0 := fun q => hb ⟨b1, b2, b3, b4, b5, fun q => absurd q n2, fun q => absurd q n3, fun _ _ => q⟩
              cases i with
              | zero => simp (disch := (first | omega | (simp only [LNl]; omega))) only [↓SDl, SDr, if_pos, if_neg, ↓hxb, ↓frm_b, ↓did_b, ↓wts_b, n2, n3, decide_true, decide_false]
              | succ p =>
                obtain ⟨z, hz, hzb⟩ := get_at dS (show p < a2.length from by omega)
                have hlz : lastS a2 (p + 1) = z.1 := by show (a2.getD p dS).1 = _; rw [hz]
                rw [hlz] at b2
                have hw : Go.IntKind.wrap .i64 (((p + 1 : Nat) : Int) - 1) = (p : Int) := by rw [wrap_i64' (by omega)]; omega
                simp (disch := (first | omega | (simp only [LNl]; omega))) only [↓SDl, SDr, if_pos, if_neg, ↓hxb, ↓frm_b, ↓did_b, ↓wts_b, n2, n3, decide_true, decide_false, ↓hw, ↓hzb]
        · have hw0 : ∀ p : Nat, p < 1000 → Go.IntKind.wrap .i64 (((p + 1 : Nat) : Int) - 1) = (p : Int) := fun p hp => by rw [wrap_i64' (by omega)]; omega
          by_cases b3 : 0 ≤ x.2.2.1 ∧ x.2.2.1 ≤ a7
          · by_cases b4 : 0 ≤ x.2.2.2.2 ∧ x.2.2.2.2 ≤ 2147483647
            · by_cases b5 : 1 ≤ x.2.1
              · cases i with
                | zero => simp (disch := (first | omega | (simp only [LNl]; omega))) only [↓SDl, SDr, if_pos, if_neg, ↓hxb, ↓frm_b, ↓did_b, ↓wts_b]
                | succ p =>
                  obtain ⟨z, hz, hzb⟩ := get_at dS (show p < a2.length from by omega)
                  have hlz : lastS a2 (p + 1) = z.1 := by show (a2.getD p dS).1 = _; rw [hz]
                  rw [hlz] at b2
                  have hw := hw0 p (by omega)
                  simp (disch := (first | omega | (simp only [LNl]; omega))) only [↓SDl, SDr, if_pos, if_neg, ↓hxb, ↓frm_b, ↓did_b, ↓wts_b, ↓hw, ↓hzb]
              · cases i with
                | zero => simp (disch := (first | omega | (simp only [LNl]; omega))) only [↓SDl, SDr, if_pos, if_neg, ↓hxb, ↓frm_b, ↓did_b, ↓wts_b]
                | succ p =>
                  obtain ⟨z, hz, hzb⟩ := get_at dS (show p < a2.length from by omega)
                  have hlz : lastS a2 (p + 1) = z.1 := by show (a2.getD p dS).1 = _; rw [hz]
                  rw [hlz] at b2
                  have hw := hw0 p (by omega)
                  simp (disch := (first | omega | (simp only [LNl]; omega))) only [↓SDl, SDr, if_pos, if_neg, ↓hxb, ↓frm_b, ↓did_b, ↓wts_b, ↓hw, ↓hzb]
            · cases i with
              | zero => simp (disch := (first | omega | (simp only [LNl]; omega))) only [↓SDl, SDr, if_pos, if_neg, ↓hxb, ↓frm_b, ↓did_b, ↓wts_b]
              | succ p =>
                obtain ⟨z, hz, hzb⟩ := get_at dS (show p < a2.length from by omega)
                have hlz : lastS a2 (p + 1) = z.1 := by show (a2.getD p dS).1 = _; rw [hz]
                rw [hlz] at b2
                have hw := hw0 p (by omega)
                simp (disch := (first | omega | (simp only [LNl]; omega))) only [↓SDl, SDr, if_pos, if_neg, ↓hxb, ↓frm_b, ↓did_b, ↓wts_b, ↓hw, ↓hzb]
          · cases i with
            | zero => simp (disch := (first | omega | (simp only [LNl]; omega))) only [↓SDl, SDr, if_pos, if_neg, ↓hxb, ↓frm_b, ↓did_b, ↓wts_b]
            | succ p =>
              obtain ⟨z, hz, hzb⟩ := get_at dS (show p < a2.length from by omega)
              have hlz : lastS a2 (p + 1) = z.1 := by show (a2.getD p dS).1 = _; rw [hz]
              rw [hlz] at b2
              have hw := hw0 p (by omega)
              simp (disch := (first | omega | (simp only [LNl]; omega))) only [↓SDl, SDr, if_pos, if_neg, ↓hxb, ↓frm_b, ↓did_b, ↓wts_b, ↓hw, ↓hzb]
      · cases i with
        | zero => exact absurd (show lastS a2 0 < x.1 from by show (0 : Int) < x.1; omega) b2
        | succ p =>
          obtain ⟨z, hz, hzb⟩ := get_at dS (show p < a2.length from by omega)
          have hlz : lastS a2 (p + 1) = z.1 := by show (a2.getD p dS).1 = _; rw [hz]
          rw [hlz] at b2
          have hw : Go.IntKind.wrap .i64 (((p + 1 : Nat) : Int) - 1) = (p : Int) := by rw [wrap_i64' (by omega)]; omega
          simp (disch := (first | omega | (simp only [LNl]; omega))) only [↓SDl, SDr, if_pos, if_neg, ↓hxb, ↓frm_b, ↓did_b, ↓wts_b, ↓hw, ↓hzb]
    · simp (disch := (first | omega | (simp only [LNl]; omega))) only [↓SDl, SDr, if_pos, if_neg, ↓hxb, ↓frm_b, ↓did_b, ↓wts_b]) (by
    unfold dseB
    simp (disch := (first | omega | (simp only [LNl]; omega))) only [↓SDl, SDr, if_neg]) with ⟨hp, e⟩ | ⟨hp, e⟩
  · exact .inl ⟨hp, joinO_eq e rfl⟩
  · exact .inr ⟨hp, joinO_eqr e⟩
end Go.Proofs.Ytkmfgldoljegoaa
