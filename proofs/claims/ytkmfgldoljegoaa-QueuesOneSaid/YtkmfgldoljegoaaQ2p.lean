import Derived.Test.YtkmfgldoljegoaaQ1p
import Derived.Test.YtkmfgldoljegoaaZ4p
import Derived.Test.YtkmfgldoljegoaaZ5p
set_option linter.unusedVariables false
set_option linter.unusedSimpArgs false
set_option maxRecDepth 100000
set_option maxHeartbeats 4000000
namespace Go.Proofs.Ytkmfgldoljegoaa
open Go.RowKit
def Good (mo mw ri re T : Int) (c0 : Nat) (r : Rt) : Prop := (∃ e : Int, 0 < e ∧ r = failR e) ∨ ∃ w, GW T 2000000000003 w ∧ PW mo mw ri re mo.toNat c0 w ∧ mstep w = none ∧ w.2.2.2.2.2.2.1 = T ∧ r = resM w
theorem Good.fail {mo mw ri re T : Int} {c0 : Nat} {e : Int} (h : 0 < e) : Good mo mw ri re T c0 (failR e) := .inl ⟨e, h, rfl⟩
section
variable {cs : List Ca} {ss : List Se} {mo mw ri re now T num : Int}
theorem Good.fin {acts : List Ac} {c0 : Nat} (h : GQ T 2000000000003 cs ss mw ri re T acts.length) (hl : (cs.length : Int) ≤ mo) (hc : cs.length + ng acts = c0) : Good mo mw ri re T c0 (resM (matchM T (cs, (ss, (mo, (mw, (ri, (re, (T, acts))))))))) := by
  have h1 := matchM_ok (T := T) (K := 2000000000003) (w := (cs, (ss, (mo, (mw, (ri, (re, (T, acts)))))))) h
  have h2 := matchM_par (mo := mo) (mw := mw) (ri := ri) (re := re) (n0 := mo.toNat) (c0 := c0) (T := T) (w := (cs, (ss, (mo, (mw, (ri, (re, (T, acts)))))))) ⟨rfl, rfl, rfl, rfl, by show cs.length ≤ _; omega, hc⟩
  exact .inr ⟨_, h1.1, h2.1, h1.2.2, h2.2, rfl⟩
theorem advance_c (hc : cs.length ≤ 120) (hl : ss.length ≤ 120) (hb : May cs ss mo mw ri re now → now ≤ T → T ≤ 1099511627776 → T - now ≤ 4000000000)  :
    ∃ r, queues_Advance ((cs, (ss, (mo, (mw, (ri, (re, now)))))), T) = some r ∧ dialtoneref36_Advance ((cs, (ss, (mo, (mw, (ri, (re, now)))))), T) = some r ∧ Good mo mw ri re T cs.length r := by
  rw [advance_eq, dAdvance_eq]
  by_cases hh : May cs ss mo mw ri re now ∧ (now ≤ T ∧ T ≤ 1099511627776) ∧ (1 ≤ (1 : Int) ∧ (1 : Int) ≤ (2147483647 : Int))
  · obtain ⟨m, t, hn⟩ := hh
    have hmo := m.2.2.1
    have hsz := m.1.1
    obtain ⟨c1, s1, n1, a1, g, hle, hcnt, _, hK⟩ := beg_yes (num := (1 : Int)) m t hn (hb m t.1 t.2)
    have g' := g.up (K' := 2000000000003) (by omega) (by omega)
    have hk := g.k
    rw [(hK _).1, (hK _).2]
    have hd : dAdvanceR T (c1, (s1, (mo, (mw, (ri, (re, (n1, a1))))))) = dAdvanceR T (c1, (s1, (mo, (mw, (ri, (re, (T, a1))))))) := rfl
    rw [hd]
    refine ⟨_, advanceR_j g' T, dAdvanceR_j g', .fin g' (by omega) hcnt⟩
  · obtain ⟨e1, e2⟩ := beg_no (cs := cs) (ss := ss) (mo := mo) (mw := mw) (ri := ri) (re := re) (now := now) (num := (1 : Int)) (T := T) (by omega) (by omega) hh (advanceR T)
    obtain ⟨_, e3⟩ := beg_no (cs := cs) (ss := ss) (mo := mo) (mw := mw) (ri := ri) (re := re) (now := now) (num := (1 : Int)) (T := T) (by omega) (by omega) hh (dAdvanceR T)
    exact ⟨_, e1, e3, .fail (by decide)⟩
theorem join_c (hc : cs.length ≤ 120) (hl : ss.length ≤ 120) (hb : May cs ss mo mw ri re now → now ≤ T → T ≤ 1099511627776 → T - now ≤ 4000000000) (call pr : Int) :
    ∃ r, queues_Join ((cs, (ss, (mo, (mw, (ri, (re, now)))))), (call, (pr, T))) = some r ∧ dialtoneref36_Join ((cs, (ss, (mo, (mw, (ri, (re, now)))))), (call, (pr, T))) = some r ∧ Good mo mw ri re T (cs.length + 1) r := by
  rw [join_eq, dJoin_eq]
  by_cases hh : May cs ss mo mw ri re now ∧ (now ≤ T ∧ T ≤ 1099511627776) ∧ (1 ≤ call ∧ call ≤ (2147483647 : Int))
  · obtain ⟨m, t, hn⟩ := hh
    have hmo := m.2.2.1
    have hsz := m.1.1
    obtain ⟨c1, s1, n1, a1, g, hle, hcnt, _, hK⟩ := beg_yes (num := call) m t hn (hb m t.1 t.2)
    have g' := g.up (K' := 2000000000003) (by omega) (by omega)
    have hk := g.k
    rw [(hK _).1, (hK _).2]
    have hd : dJoinR call pr T (c1, (s1, (mo, (mw, (ri, (re, (n1, a1))))))) = dJoinR call pr T (c1, (s1, (mo, (mw, (ri, (re, (T, a1))))))) := rfl
    rw [hd]
    have hl : (c1 ++ [(call, (pr, (T, 0)))]).length = c1.length + 1 := by rw [List.length_append, List.length_singleton]
    rcases joinR_j (mo := mo) g' call pr rfl hn (by omega) with ⟨p1, e⟩ | ⟨p1, p2, e⟩ | ⟨p1, p2, p3, p4, e⟩ | ⟨p1, p2, p3, p4, e⟩ <;> rcases dJoinR_j (mo := mo) g' call pr rfl hn (by omega) with ⟨q1, f⟩ | ⟨q1, q2, f⟩ | ⟨q1, q2, q3, q4, f⟩ | ⟨q1, q2, q3, q4, f⟩
    all_goals first
      | exact ⟨_, e, f, .fail (by decide)⟩
      | (exfalso; clear e f; omega)
      | (exfalso; clear e f; rcases p2 with p2 | p2 <;> contradiction)
      | (exfalso; clear e f; rcases q2 with q2 | q2 <;> contradiction)
      | (obtain ⟨g2, e⟩ := e (by omega); obtain ⟨_, f⟩ := f (by omega); exact ⟨_, e, f, .fin g2 (by rw [hl]; omega) (by rw [hl]; omega)⟩)
  · obtain ⟨e1, e2⟩ := beg_no (cs := cs) (ss := ss) (mo := mo) (mw := mw) (ri := ri) (re := re) (now := now) (num := call) (T := T) (by omega) (by omega) hh (joinR call pr T)
    obtain ⟨_, e3⟩ := beg_no (cs := cs) (ss := ss) (mo := mo) (mw := mw) (ri := ri) (re := re) (now := now) (num := call) (T := T) (by omega) (by omega) hh (dJoinR call pr T)
    exact ⟨_, e1, e3, .fail (by decide)⟩
theorem leave_c (hc : cs.length ≤ 120) (hl : ss.length ≤ 120) (hb : May cs ss mo mw ri re now → now ≤ T → T ≤ 1099511627776 → T - now ≤ 4000000000) (call : Int) :
    ∃ r, queues_Leave ((cs, (ss, (mo, (mw, (ri, (re, now)))))), (call, T)) = some r ∧ dialtoneref36_Leave ((cs, (ss, (mo, (mw, (ri, (re, now)))))), (call, T)) = some r ∧ Good mo mw ri re T (cs.length - 1) r := by
  rw [leave_eq, dLeave_eq]
  by_cases hh : May cs ss mo mw ri re now ∧ (now ≤ T ∧ T ≤ 1099511627776) ∧ (1 ≤ call ∧ call ≤ (2147483647 : Int))
  · obtain ⟨m, t, hn⟩ := hh
    have hmo := m.2.2.1
    have hsz := m.1.1
    obtain ⟨c1, s1, n1, a1, g, hle, hcnt, _, hK⟩ := beg_yes (num := call) m t hn (hb m t.1 t.2)
    have g' := g.up (K' := 2000000000003) (by omega) (by omega)
    have hk := g.k
    rw [(hK _).1, (hK _).2]
    have hd : dLeaveR call T (c1, (s1, (mo, (mw, (ri, (re, (n1, a1))))))) = dLeaveR call T (c1, (s1, (mo, (mw, (ri, (re, (T, a1))))))) := rfl
    rw [hd]
    rcases leaveR_j (mo := mo) g' call with ⟨p1, e⟩ | ⟨i, p1, p2, g2, e⟩ <;> rcases dLeaveR_j (mo := mo) g' call with ⟨q1, f⟩ | ⟨j, q1, q2, _, f⟩
    · exact ⟨_, e, f, .fail (by decide)⟩
    · exfalso; omega
    · exfalso; omega
    · have : j = i := by omega
      subst this
      obtain ⟨r1, r2⟩ := remove_par c1 s1 T a1 p2
      exact ⟨_, e, f, .fin g2 (by omega) (by omega)⟩
  · obtain ⟨e1, e2⟩ := beg_no (cs := cs) (ss := ss) (mo := mo) (mw := mw) (ri := ri) (re := re) (now := now) (num := call) (T := T) (by omega) (by omega) hh (leaveR call T)
    obtain ⟨_, e3⟩ := beg_no (cs := cs) (ss := ss) (mo := mo) (mw := mw) (ri := ri) (re := re) (now := now) (num := call) (T := T) (by omega) (by omega) hh (dLeaveR call T)
    exact ⟨_, e1, e3, .fail (by decide)⟩
theorem login_c (hc : cs.length ≤ 120) (hl : ss.length ≤ 120) (hb : May cs ss mo mw ri re now → now ≤ T → T ≤ 1099511627776 → T - now ≤ 4000000000) (agent : Int) :
    ∃ r, queues_Login ((cs, (ss, (mo, (mw, (ri, (re, now)))))), (agent, T)) = some r ∧ dialtoneref36_Login ((cs, (ss, (mo, (mw, (ri, (re, now)))))), (agent, T)) = some r ∧ Good mo mw ri re T cs.length r := by
  rw [login_eq, dLogin_eq]
  by_cases hh : May cs ss mo mw ri re now ∧ (now ≤ T ∧ T ≤ 1099511627776) ∧ (1 ≤ agent ∧ agent ≤ (2147483647 : Int))
  · obtain ⟨m, t, hn⟩ := hh
    have hmo := m.2.2.1
    have hsz := m.1.1
    obtain ⟨c1, s1, n1, a1, g, hle, hcnt, _, hK⟩ := beg_yes (num := agent) m t hn (hb m t.1 t.2)
    have g' := g.up (K' := 2000000000003) (by omega) (by omega)
    have hk := g.k
    rw [(hK _).1, (hK _).2]
    have hd : dLoginR agent T (c1, (s1, (mo, (mw, (ri, (re, (n1, a1))))))) = dLoginR agent T (c1, (s1, (mo, (mw, (ri, (re, (T, a1))))))) := rfl
    rw [hd]
    have e := loginR_j (mo := mo) g rfl (by omega) hn
    have f := dLoginR_j (mo := mo) g rfl (by omega) hn
    by_cases h1 : idxT s1 agent ≥ 0
    · rw [if_pos h1] at e f
      exact ⟨_, e, f, .fail (by decide)⟩
    · rw [if_neg h1] at e f
      by_cases h2 : s1.length ≥ 100
      · rw [if_pos h2] at e f
        exact ⟨_, e, f, .fail (by decide)⟩
      · rw [if_neg h2] at e f
        have hne : ∀ k, k < s1.length → (s1.getD k dS).1 ≠ agent := by
          rcases idxT_cases s1 agent with ⟨_, q⟩ | ⟨k, q, _⟩
          · exact q
          · omega
        exact ⟨_, e, f, .fin (login_ok g rfl (by omega) (by omega) hn hne) (by omega) hcnt⟩
  · obtain ⟨e1, e2⟩ := beg_no (cs := cs) (ss := ss) (mo := mo) (mw := mw) (ri := ri) (re := re) (now := now) (num := agent) (T := T) (by omega) (by omega) hh (loginR agent T)
    obtain ⟨_, e3⟩ := beg_no (cs := cs) (ss := ss) (mo := mo) (mw := mw) (ri := ri) (re := re) (now := now) (num := agent) (T := T) (by omega) (by omega) hh (dLoginR agent T)
    exact ⟨_, e1, e3, .fail (by decide)⟩
theorem logout_c (hc : cs.length ≤ 120) (hl : ss.length ≤ 120) (hb : May cs ss mo mw ri re now → now ≤ T → T ≤ 1099511627776 → T - now ≤ 4000000000) (agent : Int) :
    ∃ r, queues_Logout ((cs, (ss, (mo, (mw, (ri, (re, now)))))), (agent, T)) = some r ∧ dialtoneref36_Logout ((cs, (ss, (mo, (mw, (ri, (re, now)))))), (agent, T)) = some r ∧ Good mo mw ri re T cs.length r := by
  rw [logout_eq, dLogout_eq]
  by_cases hh : May cs ss mo mw ri re now ∧ (now ≤ T ∧ T ≤ 1099511627776) ∧ (1 ≤ agent ∧ agent ≤ (2147483647 : Int))
  · obtain ⟨m, t, hn⟩ := hh
    have hmo := m.2.2.1
    have hsz := m.1.1
    obtain ⟨c1, s1, n1, a1, g, hle, hcnt, _, hK⟩ := beg_yes (num := agent) m t hn (hb m t.1 t.2)
    have g' := g.up (K' := 2000000000003) (by omega) (by omega)
    have hk := g.k
    rw [(hK _).1, (hK _).2]
    have hd : dLogoutR agent T (c1, (s1, (mo, (mw, (ri, (re, (n1, a1))))))) = dLogoutR agent T (c1, (s1, (mo, (mw, (ri, (re, (T, a1))))))) := rfl
    rw [hd]
    rcases logoutR_j (mo := mo) g rfl (by omega) agent with ⟨p1, e⟩ | ⟨k, p1, p2, e1, e2, e3⟩ <;> rcases dLogoutR_j (mo := mo) g rfl (by omega) agent with ⟨q1, f⟩ | ⟨j, q1, q2, f1, f2, f3⟩
    · exact ⟨_, e, f, .fail (by decide)⟩
    · exfalso; omega
    · exfalso; omega
    · have : j = k := by omega
      subst this
      by_cases s3 : (s1.getD j dS).2.1 = 3
      · exact ⟨_, e1 s3, f1 s3, .fail (by decide)⟩
      · by_cases s2 : (s1.getD j dS).2.1 = 2
        · obtain ⟨r1, r2⟩ := silence_par c1 s1 T a1 j 1
          exact ⟨_, (e2 s2).2, (f2 s2).2, .fin (e2 s2).1 (by omega) (by omega)⟩
        · exact ⟨_, (e3 s3 s2).2, (f3 s3 s2).2, .fin (e3 s3 s2).1 (by omega) hcnt⟩
  · obtain ⟨e1, e2⟩ := beg_no (cs := cs) (ss := ss) (mo := mo) (mw := mw) (ri := ri) (re := re) (now := now) (num := agent) (T := T) (by omega) (by omega) hh (logoutR agent T)
    obtain ⟨_, e3⟩ := beg_no (cs := cs) (ss := ss) (mo := mo) (mw := mw) (ri := ri) (re := re) (now := now) (num := agent) (T := T) (by omega) (by omega) hh (dLogoutR agent T)
    exact ⟨_, e1, e3, .fail (by decide)⟩
theorem accept_c (hc : cs.length ≤ 120) (hl : ss.length ≤ 120) (hb : May cs ss mo mw ri re now → now ≤ T → T ≤ 1099511627776 → T - now ≤ 4000000000) (agent : Int) :
    ∃ r, queues_Accept ((cs, (ss, (mo, (mw, (ri, (re, now)))))), (agent, T)) = some r ∧ dialtoneref36_Accept ((cs, (ss, (mo, (mw, (ri, (re, now)))))), (agent, T)) = some r ∧ Good mo mw ri re T cs.length r := by
  rw [accept_eq, dAccept_eq]
  by_cases hh : May cs ss mo mw ri re now ∧ (now ≤ T ∧ T ≤ 1099511627776) ∧ (1 ≤ agent ∧ agent ≤ (2147483647 : Int))
  · obtain ⟨m, t, hn⟩ := hh
    have hmo := m.2.2.1
    have hsz := m.1.1
    obtain ⟨c1, s1, n1, a1, g, hle, hcnt, _, hK⟩ := beg_yes (num := agent) m t hn (hb m t.1 t.2)
    have g' := g.up (K' := 2000000000003) (by omega) (by omega)
    have hk := g.k
    rw [(hK _).1, (hK _).2]
    have hd : dAcceptR agent T (c1, (s1, (mo, (mw, (ri, (re, (n1, a1))))))) = dAcceptR agent T (c1, (s1, (mo, (mw, (ri, (re, (T, a1))))))) := rfl
    rw [hd]
    rcases acceptR_j (mo := mo) g' agent with ⟨p1, e⟩ | ⟨k, p1, p2, e1, e2⟩ <;> rcases dAcceptR_j (mo := mo) g' agent with ⟨q1, f⟩ | ⟨j, q1, q2, f1, f2⟩
    · exact ⟨_, e, f, .fail (by decide)⟩
    · exfalso; omega
    · exfalso; omega
    · have : j = k := by omega
      subst this
      by_cases s2 : (s1.getD j dS).2.1 = 2
      · obtain ⟨i, i1, i2, g2, e⟩ := e2 s2
        obtain ⟨i', i1', i2', _, f⟩ := f2 s2
        have : i' = i := by omega
        subst this
        have hl := erase_len c1 i1
        exact ⟨_, e, f, .fin g2 (by rw [hl]; omega) (by rw [hl, ng_snoc, if_pos (.inl rfl)]; omega)⟩
      · exact ⟨_, e1 s2, f1 s2, .fail (by decide)⟩
  · obtain ⟨e1, e2⟩ := beg_no (cs := cs) (ss := ss) (mo := mo) (mw := mw) (ri := ri) (re := re) (now := now) (num := agent) (T := T) (by omega) (by omega) hh (acceptR agent T)
    obtain ⟨_, e3⟩ := beg_no (cs := cs) (ss := ss) (mo := mo) (mw := mw) (ri := ri) (re := re) (now := now) (num := agent) (T := T) (by omega) (by omega) hh (dAcceptR agent T)
    exact ⟨_, e1, e3, .fail (by decide)⟩
theorem refuse_c (hc : cs.length ≤ 120) (hl : ss.length ≤ 120) (hb : May cs ss mo mw ri re now → now ≤ T → T ≤ 1099511627776 → T - now ≤ 4000000000) (agent : Int) :
    ∃ r, queues_Refuse ((cs, (ss, (mo, (mw, (ri, (re, now)))))), (agent, T)) = some r ∧ dialtoneref36_Refuse ((cs, (ss, (mo, (mw, (ri, (re, now)))))), (agent, T)) = some r ∧ Good mo mw ri re T cs.length r := by
  rw [refuse_eq, dRefuse_eq]
  by_cases hh : May cs ss mo mw ri re now ∧ (now ≤ T ∧ T ≤ 1099511627776) ∧ (1 ≤ agent ∧ agent ≤ (2147483647 : Int))
  · obtain ⟨m, t, hn⟩ := hh
    have hmo := m.2.2.1
    have hsz := m.1.1
    obtain ⟨c1, s1, n1, a1, g, hle, hcnt, _, hK⟩ := beg_yes (num := agent) m t hn (hb m t.1 t.2)
    have g' := g.up (K' := 2000000000003) (by omega) (by omega)
    have hk := g.k
    rw [(hK _).1, (hK _).2]
    have hd : dRefuseR agent T (c1, (s1, (mo, (mw, (ri, (re, (n1, a1))))))) = dRefuseR agent T (c1, (s1, (mo, (mw, (ri, (re, (T, a1))))))) := rfl
    rw [hd]
    rcases refuseR_j (mo := mo) g rfl (by omega) agent with ⟨p1, e⟩ | ⟨k, p1, p2, e1, e2⟩ <;> rcases dRefuseR_j (mo := mo) g rfl (by omega) agent with ⟨q1, f⟩ | ⟨j, q1, q2, f1, f2⟩
    · exact ⟨_, e, f, .fail (by decide)⟩
    · exfalso; omega
    · exfalso; omega
    · have : j = k := by omega
      subst this
      by_cases s2 : (s1.getD j dS).2.1 = 2
      · obtain ⟨r1, r2⟩ := silence_par c1 s1 T a1 j 4
        exact ⟨_, (e2 s2).2, (f2 s2).2, .fin (e2 s2).1 (by omega) (by omega)⟩
      · exact ⟨_, e1 s2, f1 s2, .fail (by decide)⟩
  · obtain ⟨e1, e2⟩ := beg_no (cs := cs) (ss := ss) (mo := mo) (mw := mw) (ri := ri) (re := re) (now := now) (num := agent) (T := T) (by omega) (by omega) hh (refuseR agent T)
    obtain ⟨_, e3⟩ := beg_no (cs := cs) (ss := ss) (mo := mo) (mw := mw) (ri := ri) (re := re) (now := now) (num := agent) (T := T) (by omega) (by omega) hh (dRefuseR agent T)
    exact ⟨_, e1, e3, .fail (by decide)⟩
theorem done_c (hc : cs.length ≤ 120) (hl : ss.length ≤ 120) (hb : May cs ss mo mw ri re now → now ≤ T → T ≤ 1099511627776 → T - now ≤ 4000000000) (agent : Int) :
    ∃ r, queues_Done ((cs, (ss, (mo, (mw, (ri, (re, now)))))), (agent, T)) = some r ∧ dialtoneref36_Done ((cs, (ss, (mo, (mw, (ri, (re, now)))))), (agent, T)) = some r ∧ Good mo mw ri re T cs.length r := by
  rw [done_eq, dDone_eq]
  by_cases hh : May cs ss mo mw ri re now ∧ (now ≤ T ∧ T ≤ 1099511627776) ∧ (1 ≤ agent ∧ agent ≤ (2147483647 : Int))
  · obtain ⟨m, t, hn⟩ := hh
    have hmo := m.2.2.1
    have hsz := m.1.1
    obtain ⟨c1, s1, n1, a1, g, hle, hcnt, _, hK⟩ := beg_yes (num := agent) m t hn (hb m t.1 t.2)
    have g' := g.up (K' := 2000000000003) (by omega) (by omega)
    have hk := g.k
    rw [(hK _).1, (hK _).2]
    have hd : dDoneR agent T (c1, (s1, (mo, (mw, (ri, (re, (n1, a1))))))) = dDoneR agent T (c1, (s1, (mo, (mw, (ri, (re, (T, a1))))))) := rfl
    rw [hd]
    rcases doneR_j (mo := mo) g rfl (by omega) agent with ⟨p1, e⟩ | ⟨k, p1, p2, e1, e2⟩ <;> rcases dDoneR_j (mo := mo) g rfl (by omega) agent with ⟨q1, f⟩ | ⟨j, q1, q2, f1, f2⟩
    · exact ⟨_, e, f, .fail (by decide)⟩
    · exfalso; omega
    · exfalso; omega
    · have : j = k := by omega
      subst this
      by_cases s2 : (s1.getD j dS).2.1 = 3
      · exact ⟨_, (e2 s2).2, (f2 s2).2, .fin (e2 s2).1 (by omega) hcnt⟩
      · exact ⟨_, e1 s2, f1 s2, .fail (by decide)⟩
  · obtain ⟨e1, e2⟩ := beg_no (cs := cs) (ss := ss) (mo := mo) (mw := mw) (ri := ri) (re := re) (now := now) (num := agent) (T := T) (by omega) (by omega) hh (doneR agent T)
    obtain ⟨_, e3⟩ := beg_no (cs := cs) (ss := ss) (mo := mo) (mw := mw) (ri := ri) (re := re) (now := now) (num := agent) (T := T) (by omega) (by omega) hh (dDoneR agent T)
    exact ⟨_, e1, e3, .fail (by decide)⟩
theorem Good.may {c0 : Nat} {r : Rt} (hs : Sizes mo mw ri re) (h : Good mo mw ri re T c0 r) : (r.2.2 = 0 ∧ r.1.2.2.1 = mo ∧ r.1.2.2.2.1 = mw ∧ r.1.2.2.2.2.1 = ri ∧ r.1.2.2.2.2.2.1 = re ∧ r.1.2.2.2.2.2.2 = T ∧ May r.1.1 r.1.2.1 mo mw ri re T ∧ r.1.1.length + ng r.2.1 = c0 ∧ (nextC r.1.1 = none ∨ nextS r.1.2.1 = none)) ∨ (0 < r.2.2 ∧ r = failR r.2.2) := by
  rcases h with ⟨e, he, rfl⟩ | ⟨w, g, p, hm, hT, rfl⟩
  · exact .inr ⟨he, rfl⟩
  · left
    obtain ⟨y1, y2, y3, y4, y5, y6, y7, y8⟩ := w
    obtain ⟨p1, p2, p3, p4, p5, p6⟩ := p
    simp only at p1 p2 p3 p4 p5 p6 hT
    subst p1 p2 p3 p4 hT
    have g : GQ y7 2000000000003 y1 y2 y4 y5 y6 y7 y8.length := g
    refine ⟨rfl, rfl, rfl, rfl, rfl, rfl, ?_, p6, mstep_none_iff.1 hm⟩
    have := hs.1
    refine ⟨hs, ⟨g.h0, g.hM⟩, ?_, ?_, g.v, ?_⟩
    · show (y1.length : Int) ≤ y3; omega
    · have := g.hs; show (y2.length : Int) ≤ 100; omega
    · intro y hy
      rcases mem_things.1 hy with ⟨hm, i, hi, ex⟩ | ⟨k, hk, hst, ex⟩ | ⟨k, hk, hst, ex⟩
      · rw [ex]; exact g.d1 hm i hi
      · rw [ex]; exact g.d2 k hk hst
      · rw [ex]; exact g.d3 k hk hst
theorem Good.len {c0 : Nat} {r : Rt} (h : Good mo mw ri re T c0 r) : r.1.1.length ≤ 1000 ∧ r.1.2.1.length ≤ 1000 ∧ r.2.1.length ≤ 9223372036854775806 := by
  rcases h with ⟨e, he, rfl⟩ | ⟨w, g, p, hm, hT, rfl⟩
  · exact ⟨Nat.zero_le _, Nat.zero_le _, Nat.zero_le _⟩
  · have h1 := GQ.hc g
    have h2 := GQ.hs g
    have h3 := GQ.k g
    exact ⟨by show w.1.length ≤ 1000; omega, by show w.2.1.length ≤ 1000; omega, by show w.2.2.2.2.2.2.2.length ≤ _; omega⟩
end
theorem may_new {mo mw ri re : Int} (hs : Sizes mo mw ri re) : May [] [] mo mw ri re 0 := by
  refine ⟨hs, ⟨by omega, by omega⟩, by have := hs.1; show ((0 : Nat) : Int) ≤ mo; omega, by show ((0 : Nat) : Int) ≤ 100; omega, ?_, ?_⟩
  · exact ⟨fun i hi => absurd hi (Nat.not_lt_zero _), fun i j _ hj => absurd hj (Nat.not_lt_zero _), fun i hi => absurd hi (Nat.not_lt_zero _), fun i j _ hj => absurd hj (Nat.not_lt_zero _), fun i hi => absurd hi (Nat.not_lt_zero _), fun i hi => absurd hi (Nat.not_lt_zero _), fun i hi => absurd hi (Nat.not_lt_zero _), fun i hi => absurd hi (Nat.not_lt_zero _), fun i hi => absurd hi (Nat.not_lt_zero _), fun i j _ hj => absurd hj (Nat.not_lt_zero _)⟩
  · intro y hy
    rcases mem_things.1 hy with ⟨_, j, hj, _⟩ | ⟨j, hj, _⟩ | ⟨j, hj, _⟩ <;> exact absurd hj (Nat.not_lt_zero _)
theorem newq_j (a1 a2 a3 a4 : Int) : (Sizes a1 a2 a3 a4 ∧ queues_NewQueue (a1, (a2, (a3, a4))) = some (([], ([], (a1, (a2, (a3, (a4, 0)))))), 0) ∧ dialtoneref36_NewQueue (a1, (a2, (a3, a4))) = some (([], ([], (a1, (a2, (a3, (a4, 0)))))), 0)) ∨ (¬ Sizes a1 a2 a3 a4 ∧ queues_NewQueue (a1, (a2, (a3, a4))) = some (([], ([], (0, (0, (0, (0, 0)))))), 2) ∧ dialtoneref36_NewQueue (a1, (a2, (a3, a4))) = some (([], ([], (0, (0, (0, (0, 0)))))), 2)) := by
  unfold queues_NewQueue dialtoneref36_NewQueue
  rcases (bnd_j [] [] a1 a2 a3 a4 0).b with ⟨m, e1⟩ | ⟨m, e1⟩
  · have e2 := ((siz_j [] [] a1 a2 a3 a4 0).b.resolve_right fun q => q.1 m)
    have e2 := fun {β : Type} (f : Bool → Option β) => e2.2 f
    left
    refine ⟨m, ?_, ?_⟩
    · simp (disch := (first | omega | (simp only [LNl]; omega))) only [↓SDl, SDr, ↓e1]
    · simp (disch := (first | omega | (simp only [LNl]; omega))) only [↓SDl, SDr, ↓e2]
  · have e2 := ((siz_j [] [] a1 a2 a3 a4 0).b.resolve_left fun q => m q.1)
    have e2 := fun {β : Type} (f : Bool → Option β) => e2.2 f
    right
    refine ⟨m, ?_, ?_⟩
    · simp (disch := (first | omega | (simp only [LNl]; omega))) only [↓SDl, SDr, ↓e1]
    · simp (disch := (first | omega | (simp only [LNl]; omega))) only [↓SDl, SDr, ↓e2]
end Go.Proofs.Ytkmfgldoljegoaa
