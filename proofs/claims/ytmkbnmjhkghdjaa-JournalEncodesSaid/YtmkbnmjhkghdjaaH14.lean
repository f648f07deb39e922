/- The abstract machine: append whole; copy; all operations that look into objects. -/
import Derived.Test.YtmkbnmjhkghdjaaH13
set_option linter.unusedVariables false
set_option linter.unusedSimpArgs false
namespace Go.Proofs.Ytmkbnmjhkghdjaa
open Go.RowKit

section
variable {P : Program} {GL : Nat → Option (List DV)} {E : En} {rd : Nat → Option AO} {slot : Nat} {ρ : Operand → AV} {ev : Operand → Value} {w : World}
theorem newA_spec {e s bytes n m : Nat} {old cells : List DV} {v : AV} {us : List (Nat × AO)}
    (h : newA rd slot e s bytes m cells n old = some (v, us)) :
    rd slot = none ∧ (n + m) * bytes ≤ 140737488355328 ∧ n + m ≤ maxLen ∧ v = .sl slot 0 (n + m) none ∧ us = [(slot, .data e s (old ++ cells) true)] := by
  unfold newA at h
  split at h
  · cases h
  · rename_i h1
    split at h
    · rename_i h2
      simp only [Option.some.injEq, Prod.mk.injEq] at h
      exact ⟨by simpa using h1, h2.1, h2.2, h.1.symm, h.2.symm⟩
    · cases h
set_option maxHeartbeats 2000000 in
theorem append_ends (hw : w.heap = E.h) (hs : SimH GL E) (hrd : ∀ r o, rd r = some o → E.hp r = some o) (hsl : rd slot = none → E.hp slot = none) {ats : Array TypeId} {ty : Nat} {args : Array Value} {t u e : TypeId} {ei : TI} {xv dv : Value} {x : AV}
    (H : ∀ A n c, dv = .slice A n c → AppArgs P ats args t u e ei A n c xv) (hx : Rel E x dv) {m : Nat} {cells : List DV} {news : List Value} (hp : 0 < ei.size)
    (hc1 : RelDs E.h E.X cells news) (hc2 : news.length = m * ei.size) (hlen : (Builtin.lenOf xv).run P w = .ok m w) (hc3 : ∀ w' : World, w'.heap = w.heap → (Builtin.firstCells ei.size m xv).run P w' = .ok news.toArray w')
    {v : AV} {us : List (Nat × AO)} (h : effAppend rd slot e ei.size ei.bytes x cells m = some (v, us)) : AppEnds P GL E w (Builtin.append_ ats ty args) v us := by
  have hm0 : m = 0 → cells = [] ∧ (Builtin.lenOf xv).run P w = .ok 0 w ∧ (Builtin.firstCells ei.size 0 xv).run P w = .ok #[] w := fun e0 => by
    subst e0
    have : news = [] := List.eq_nil_of_length_eq_zero (by omega)
    subst this
    have hcl := relDs_length _ _ hc1
    exact ⟨List.eq_nil_of_length_eq_zero hcl.symm, hlen, hc3 w rfl⟩
  have zero : ∀ (A : Option Addr) (w' : World), (Builtin.firstCells ei.size 0 (.slice A 0 0)).run P w' = .ok #[] w' := fun A w' => by
    cases A <;> simp [Builtin.firstCells, loadCells, loadCellsFrom, go_sem]
  -- out of nothing
  have fromNil : ∀ A, dv = .slice A 0 0 → rd slot = none → (0 + m) * ei.bytes ≤ 140737488355328 → 0 + m ≤ maxLen → AppEnds P GL E w (Builtin.append_ ats ty args) (.sl slot 0 (0 + m) none) [(slot, .data e ei.size ([] ++ cells) true)] := fun A hA hrs b1 b2 => by
    have HA := H A 0 0 hA
    by_cases hmz : m = 0
    · obtain ⟨c0, l0, f0⟩ := hm0 hmz
      subst hmz
      subst c0
      exact ⟨_, _, _, room0 HA l0 f0 (Nat.le_refl _), virt_goes hw hs (hsl hrs) e ei.size true, virt_sl A e ei.size true⟩
    · exact append_new hw hs (hsl hrs) HA (old := []) (olds := []) rfl (by simp) (fun w' _ => zero A w') hc1 hc2 hlen hc3 (by omega) hp b1 b2
  -- nothing is appended: the same slice
  have same : ∀ A n c, dv = .slice A n c → n ≤ c → m = 0 → AppEnds P GL E w (Builtin.append_ ats ty args) x [] := fun A n c hA hnc hmz => by
    obtain ⟨c0, l0, f0⟩ := hm0 hmz
    exact ⟨_, _, _, room0 (H A n c hA) l0 f0 hnc, Goes.refl hw hs, by rw [← hA]; exact hx⟩
  unfold effAppend at h
  split at h
  · obtain ⟨g1, g2, g3, rfl, rfl⟩ := newA_spec h
    exact fromNil none (rel_val hx) g1 g2 g3
  · rename_i cs n c
    rw [Rel, RelD] at hx
    split at h
    · rename_i hcn
      subst hcn
      have hx' := hx
      obtain ⟨A, c', e1, g1, g2, g3, g4⟩ := hx
      have hcc := g3 c rfl
      subst hcc
      split at h
      · rename_i hn0
        subst hn0
        obtain ⟨k1, k2, k3, rfl, rfl⟩ := newA_spec h
        exact fromNil A e1 k1 k2 k3
      · rename_i hn0
        split at h
        · rename_i hmz
          simp only [Option.some.injEq, Prod.mk.injEq] at h
          obtain ⟨rfl, rfl⟩ := h
          exact same A _ _ e1 (Nat.le_refl _) hmz
        · rename_i hmz
          split at h
          · rename_i hlen2
            obtain ⟨k1, k2, k3, rfl, rfl⟩ := newA_spec h
            have hcne : cs ≠ [] := fun e0 => by
              subst e0
              have := Nat.mul_pos (Nat.pos_of_ne_zero hn0) hp
              simp at hlen2
              omega
            rcases g4 with g4 | ⟨b, o, rfl, g5, g6⟩
            · exact (hcne g4).elim
            · obtain ⟨vs, q1, q2⟩ := relDs_of_relC cs b o g6
              have hvl : vs.length = c' * ei.size := by rw [relDs_length _ _ q1]; exact hlen2
              exact append_new hw hs (hsl k1) (H _ _ _ e1) q1 hvl (fun w' hw' => run_firstCells_some w' ei.size c' _ c' c' vs hvl (fun j v hv => by rw [addr_add, cell_eq, hw', hw]; exact q2 j v hv)) hc1 hc2 hlen hc3 (by omega) hp k2 k3
          · cases h
    · cases h
  · rename_i r off n c
    split at h
    · rename_i e' s' cs wr ho
      split at h
      · rename_i hes
        obtain ⟨rfl, rfl⟩ := hes
        have ho' := hrd _ _ ho
        have hxR := hx
        rw [Rel, ho'] at hx
        split at h
        · rename_i hcn
          subst hcn
          split at h
          · rename_i hn0
            subst hn0
            obtain ⟨k1, k2, k3, rfl, rfl⟩ := newA_spec h
            rcases hx with ⟨_, _, _, A, e1⟩ | ⟨b, z, c', g1, e1, g3, g4, g5, g6⟩
            · exact fromNil A e1 k1 k2 k3
            · have g6' : c' = 0 := g6
              subst g6'
              exact fromNil _ e1 k1 k2 k3
          · rename_i hn0
            rcases hx with ⟨h0, _⟩ | ⟨b, z, c', g1, e1, g3, g4, g5, g6⟩
            · exact (hn0 h0).elim
            have g6' : c' = c := g6
            subst g6'
            split at h
            · rename_i hmz
              simp only [Option.some.injEq, Prod.mk.injEq] at h
              obtain ⟨rfl, rfl⟩ := h
              exact same _ _ _ e1 (Nat.le_refl _) hmz
            · rename_i hmz
              split at h
              · rename_i hfit
                obtain ⟨k1, k2, k3, rfl, rfl⟩ := newA_spec h
                rcases dataObj hs ho' with ⟨q1, _⟩ | ⟨b', cur, q1, q2, q3, q4, q5⟩
                · rw [q1] at g1; cases g1
                · have hbb : b = b' := by rw [q1] at g1; cases g1; rfl
                  subst hbb
                  have hd := relC_take (c' * ei.size) _ _ _ (relC_drop off _ _ _ q3)
                  rw [Nat.zero_add] at hd
                  obtain ⟨vs, p1, p2⟩ := relDs_of_relC _ b off hd
                  have hvl : vs.length = c' * ei.size := by rw [relDs_length _ _ p1, List.length_take, List.length_drop]; omega
                  exact append_new hw hs (hsl k1) (H _ _ _ e1) p1 hvl (fun w' hw' => run_firstCells_some w' ei.size c' _ c' c' vs hvl (fun j v hv => by rw [addr_add, cell_eq, hw', hw]; exact p2 j v hv)) hc1 hc2 hlen hc3 (by omega) hp k2 k3
              · cases h
        · rename_i hcn
          split at h
          · rename_i hall
            obtain ⟨hwr, rfl, h1, h2⟩ := hall
            simp only [Option.some.injEq, Prod.mk.injEq] at h
            obtain ⟨rfl, rfl⟩ := h
            have hwr' : wr = true := by simpa using hwr
            subst hwr'
            rcases hx with ⟨h0, hcap, _, _⟩ | ⟨b, z, c', g1, e1, g3, g4, g5, g6⟩
            · rcases hcap with hcap | hcap
              · cases hcap
              · cases hcap; omega
            have g6' : c' = c := g6
            subst g6'
            rcases dataObj hs ho' with ⟨q1, _⟩ | ⟨b', cur, q1, q2, q3, q4, q5⟩
            · rw [q1] at g1; cases g1
            · have hbb : b = b' := by rw [q1] at g1; cases g1; rfl
              subst hbb
              have hzc : z = cur.size := by rw [q1] at g1; cases g1; rfl
              have hncl : cells.length = m * ei.size := by rw [← relDs_length _ _ hc1]; exact hc2
              have hnm2 : (n + m) * ei.size = n * ei.size + m * ei.size := Nat.add_mul _ _ _
              obtain ⟨w', r1, r2⟩ := append_room (ty := ty) hw hs (H _ _ _ e1) ho' q1 q2 q3 (by omega) hc1 hc2 hlen (hc3 w rfl) h1 (splice cs (n * ei.size) cells) (fun j d hd => by
                rcases spliceD_get cs _ cells j d (by omega) hd with ⟨a1, a2⟩ | ⟨a1, a2, a3⟩
                · exact .inl ⟨by omega, a2⟩
                · exact .inr ⟨a1, by omega, a3⟩)
              refine ⟨_, _, _, r1, r2, ?_⟩
              rw [Rel]
              simp only [setE, updF, look_one, if_true]
              exact .inr ⟨b, z, c', g1, rfl, h1, g4, g5, rfl⟩
          · cases h
      · cases h
    · cases h
  · rename_i r off n
    split at h
    · rename_i e' s' cs wr ho
      split at h
      · rename_i hes
        obtain ⟨rfl, rfl, rfl, hwr⟩ := hes
        have hwr' : wr = true := by simpa using hwr
        subst hwr'
        have ho' := hrd _ _ ho
        rw [Rel, ho'] at hx
        have hncl : cells.length = m * ei.size := by rw [← relDs_length _ _ hc1]; exact hc2
        have hnm2 : (n + m) * ei.size = n * ei.size + m * ei.size := Nat.add_mul _ _ _
        split at h
        · rename_i htop
          split at h
          · rename_i v' u' hnew
            simp only [Option.some.injEq, Prod.mk.injEq] at h
            obtain ⟨rfl, rfl⟩ := h
            obtain ⟨k1, k2, k3, rfl, rfl⟩ := newA_spec hnew
            have hslot := hsl k1
            have hne : r ≠ slot := fun e0 => by rw [e0, hslot] at ho'; cases ho'
            -- a new block, the old row used up
            have viaNew : ∀ {uv w' E'}, (Builtin.append_ ats ty args).run P w = .ok uv w' → Goes GL E w [(slot, .data e' ei.size (cs ++ cells) true)] E' w' → Rel E' (.sl slot 0 (n + m) none) uv → AppEnds P GL E w (Builtin.append_ ats ty args) (.sl slot 0 (n + m) none) ([(slot, .data e' ei.size (cs ++ cells) true)] ++ [(r, .dead)]) := fun {uv w' E'} r1 r2 r3 => by
              have hr' : E'.hp r = some (.data e' ei.size cs true) := by rw [r2.hp]; simp [updF, look_one, Ne.symm hne, ho']
              have hk := kill_goes r2.h r2.sim hr'
              refine ⟨uv, w', _, r1, ?_, Rel.ext hk.ext _ _ r3⟩
              have hall := r2.trans hk
              refine ⟨hall.h, ?_, hall.ext, hall.sim, hall.fr⟩
              rw [hall.hp]
              funext q
              simp only [updF, List.cons_append, List.nil_append, look]
              by_cases hq1 : slot = q
              · subst hq1; simp [hne]
              · by_cases hq2 : r = q
                · subst hq2; simp [hq1]
                · simp [hq1, hq2]
            rcases hx with ⟨rfl, _, _, A, e1⟩ | ⟨b, z, c', g1, e1, g3, g4, g5, g6⟩
            · have hcs0 : cs = [] := List.eq_nil_of_length_eq_zero (by omega)
              subst hcs0
              obtain ⟨uv, w', E', r1, r2, r3⟩ := fromNil A e1 k1 k2 k3
              exact viaNew r1 r2 r3
            · rcases dataObj hs ho' with ⟨q1, _⟩ | ⟨b', cur, q1, q2, q3, q4, q5⟩
              · rw [q1] at g1; cases g1
              have hbb : b = b' := by rw [q1] at g1; cases g1; rfl
              subst hbb
              have hzc : z = cur.size := by rw [q1] at g1; cases g1; rfl
              by_cases hroom : n + m ≤ c'
              · obtain ⟨w', r1, r2⟩ := append_room (ty := ty) hw hs (H _ _ _ e1) ho' q1 q2 q3 (by omega) hc1 hc2 hlen (hc3 w rfl) hroom (cs ++ cells) (fun j d hd => by
                  by_cases hj : j < cs.length
                  · rw [List.getElem?_append_left hj] at hd
                    exact .inl ⟨.inl (by omega), hd⟩
                  · rw [List.getElem?_append_right (by omega)] at hd
                    have := (List.getElem?_eq_some_iff.1 hd).1
                    exact .inr ⟨by omega, by omega, by rw [htop]; exact hd⟩)
                have hr' : (setE E r (.data e' ei.size (cs ++ cells) true) w'.heap).hp r = some (.data e' ei.size (cs ++ cells) true) := by simp [setE, updF, look_one]
                have hsn : (setE E r (.data e' ei.size (cs ++ cells) true) w'.heap).hp slot = none := by simp [setE, updF, look_one, hne, hslot]
                have hmv := move_goes r2.h r2.sim hr' hsn
                have hall := r2.trans hmv
                refine ⟨_, w', _, r1, ⟨hall.h, ?_, hall.ext, hall.sim, hall.fr⟩, ?_⟩
                · rw [hall.hp]
                  funext q
                  simp only [updF, List.cons_append, List.nil_append, look]
                  by_cases hq1 : slot = q
                  · subst hq1; simp
                  · by_cases hq2 : r = q
                    · subst hq2; simp [hq1]
                    · simp [hq1, hq2]
                · rw [Rel]
                  have e2 : (moveE (setE E r (.data e' ei.size (cs ++ cells) true) w'.heap) r slot (.data e' ei.size (cs ++ cells) true)).hp slot = some (.data e' ei.size (cs ++ cells) true) := by simp [moveE, updF, look]
                  have e3 : (moveE (setE E r (.data e' ei.size (cs ++ cells) true) w'.heap) r slot (.data e' ei.size (cs ++ cells) true)).m slot = some (b, z) := by simp [moveE, setE, g1]
                  rw [e2]
                  exact .inr ⟨b, z, c', e3, rfl, hroom, g4, g5, g6⟩
              · obtain ⟨vs, p1, p2⟩ := relDs_of_relC cs b 0 q3
                have hvl : vs.length = n * ei.size := by rw [relDs_length _ _ p1]; exact htop.symm
                obtain ⟨uv, w', E', r1, r2, r3⟩ := append_new (ty := ty) hw hs hslot (H _ _ _ e1) p1 hvl (fun w' hw' => run_firstCells_some w' ei.size n _ n c' vs hvl (fun j v hv => by rw [addr_add, cell_eq, hw', hw]; exact p2 j v hv)) hc1 hc2 hlen hc3 (by omega) hp k2 k3
                exact viaNew r1 r2 r3
          · cases h
        · rename_i htop
          split at h
          · rename_i hfit
            simp only [Option.some.injEq, Prod.mk.injEq] at h
            obtain ⟨rfl, rfl⟩ := h
            rcases hx with ⟨rfl, _, hz, A, e1⟩ | ⟨b, z, c', g1, e1, g3, g4, g5, g6⟩
            · exfalso
              rcases dataObj hs ho' with ⟨_, q2⟩ | ⟨b', cur, q1, q2, q3, q4, q5⟩
              · subst q2; simp at htop
              · have := hz rfl rfl _ _ q1
                have hcl := dataObj_len (r := r) (s := ei.size) q2 q3
                omega
            · rcases dataObj hs ho' with ⟨q1, _⟩ | ⟨b', cur, q1, q2, q3, q4, q5⟩
              · rw [q1] at g1; cases g1
              have hbb : b = b' := by rw [q1] at g1; cases g1; rfl
              subst hbb
              have hzc : z = cur.size := by rw [q1] at g1; cases g1; rfl
              have g6' : 0 + c' * ei.size = z := g6
              have hcl := dataObj_len (r := r) (s := ei.size) q2 q3
              have hroom : n + m ≤ c' := by
                rcases Nat.lt_or_ge c' (n + m) with hlt | hge
                · have := Nat.mul_lt_mul_of_pos_right hlt hp
                  omega
                · exact hge
              obtain ⟨w', r1, r2⟩ := append_room (ty := ty) hw hs (H _ _ _ e1) ho' q1 q2 q3 (by omega) hc1 hc2 hlen (hc3 w rfl) hroom (splice cs (n * ei.size) cells) (fun j d hd => by
                rcases spliceD_get cs _ cells j d (by omega) hd with ⟨a1, a2⟩ | ⟨a1, a2, a3⟩
                · exact .inl ⟨by omega, a2⟩
                · exact .inr ⟨a1, by omega, a3⟩)
              refine ⟨_, _, _, r1, r2, ?_⟩
              rw [Rel]
              simp only [setE, updF, look_one, if_true]
              exact .inr ⟨b, z, c', g1, rfl, hroom, g4, g5, g6⟩
          · cases h
      · cases h
    · cases h
  · cases h
theorem same_goes (hw : w.heap = E.h) (hs : SimH GL E) {r : Nat} {o : AO} (hr : E.hp r = some o) : Goes GL E w [(r, o)] E w := by
  refine ⟨hw, ?_, Ext.refl _, hs, StepF.refl _ _⟩
  funext q
  simp only [updF, look_one]
  by_cases h : r = q
  · subst h; simp [hr]
  · simp [h]
theorem copy_ends (hw : w.heap = E.h) (hs : SimH GL E) (hrd : ∀ r o, rd r = some o → E.hp r = some o) {ats : Array TypeId} {ty : Nat} {args : Array Value} {t e e' s : TypeId} {ei : TI} {xv dv : Value} (a0 : ats[0]? = some t) (b0 : args[0]? = some dv) (b1 : args[1]? = some xv) (ht : P.underlying t = some (.slice e)) (hei : tiOf P e = some ei)
    {r off n : Nat} {cap : Option Nat} (hx : Rel E (.sl r off n cap) dv) {cs : List DV} (ho : rd r = some (.data e' s cs true)) (hse : s = ei.size) (hfit : off + n * s ≤ cs.length) {y : AV} (hy : Rel E y xv) {cells : List DV} {m : Nat} (h : srcA rd ei.size y = some (cells, m)) :
    AppEnds P GL E w (Builtin.copy_ ats ty args) (aInt .i64 (Nat.min m n)) [(r, .data e' s (splice cs off (cells.take (Nat.min m n * s))) true)] := by
  subst hse
  obtain ⟨news, n1, n2, n3, n4, _⟩ := srcA_sim (P := P) hw hs hrd hy h
  have ho' := hrd _ _ ho
  have hk : Nat.min m n ≤ m := Nat.min_le_left _ _
  have hk2 : Nat.min m n ≤ n := Nat.min_le_right _ _
  have hf := n4 (Nat.min m n) w hk rfl
  have hrun : ∀ (A : Option Addr) (c : Nat) (w' : World), dv = .slice A n c → (∀ a, A = some a → (storeCells a (news.take (Nat.min m n * ei.size))).run P w = .ok () w') → (A = none → w' = w) → (Builtin.copy_ ats ty args).run P w = .ok (.int .i64 (Nat.min m n)) w' := fun A c w' hA hst hn => by
    subst hA
    cases A with
    | none =>
      obtain rfl := hn rfl
      simp [Builtin.copy_, a0, b0, b1, run_underlying ht, n2, run_sizeOf hei, hf, goInt]
    | some a =>
      simp [Builtin.copy_, a0, b0, b1, run_underlying ht, n2, run_sizeOf hei, hf, hst a rfl, goInt]
  have hint : ∀ E' : En, Rel E' (aInt .i64 (Nat.min m n)) (.int .i64 (Nat.min m n)) := fun E' => by rw [aInt, Rel, RelD]; exact ⟨rfl, rfl⟩
  rw [Rel, ho'] at hx
  rcases hx with ⟨rfl, _, _, A, e1⟩ | ⟨b, z, c, g1, e1, g3, g4, g5, g6⟩
  · have hm : Nat.min m 0 = 0 := Nat.min_zero m
    rw [hm] at hrun hint ⊢
    have hsame : splice cs off (cells.take (0 * ei.size)) = cs := by rw [Nat.zero_mul, List.take_zero, splice_nil]
    rw [hsame]
    exact ⟨_, w, E, hrun A 0 w e1 (fun a _ => by simp [storeCells, go_sem]) (fun _ => rfl), same_goes hw hs ho', hint E⟩
  · rcases dataObj hs ho' with ⟨q1, _⟩ | ⟨b', cur, q1, q2, q3, q4, q5⟩
    · rw [q1] at g1; cases g1
    have hbb : b = b' := by rw [q1] at g1; cases g1; rfl
    subst hbb
    have hcl := dataObj_len (r := r) (s := ei.size) q2 q3
    have hkn : Nat.min m n * ei.size ≤ n * ei.size := Nat.mul_le_mul_right _ hk2
    have hkm : Nat.min m n * ei.size ≤ m * ei.size := Nat.mul_le_mul_right _ hk
    have hnl : (news.take (Nat.min m n * ei.size)).length = Nat.min m n * ei.size := by rw [List.length_take, n3]; exact Nat.min_eq_left hkm
    have hcls : (cells.take (Nat.min m n * ei.size)).length = Nat.min m n * ei.size := by rw [List.length_take, ← relDs_length _ _ n1, n3]; exact Nat.min_eq_left hkm
    have hd := relDs_take (Nat.min m n * ei.size) n1
    generalize hK : Nat.min m n * ei.size = K at *
    have hbw : w.heap[b]? = some (.cells cur e') := by rw [hw]; exact q2
    have hst := run_storeCells_at P b off e' (news.take K) 0 cur w hbw (by omega) (relDs_one hd)
    simp only [Nat.add_zero] at hst
    have hcul : cur.toList.length = cur.size := Array.length_toList
    have hsize : (cur.toList.take off ++ news.take K ++ cur.toList.drop (off + (news.take K).length)).toArray.size = cur.size := by
      simp only [List.size_toArray, List.length_append, List.length_drop]
      rw [List.length_take, hnl]
      omega
    refine ⟨_, _, _, hrun _ c _ e1 (fun a ha => by cases ha; exact hst) (fun h => by cases h), set_goes hw hs ho' rfl q1 (o' := .data e' ei.size (splice cs off (cells.take K)) true) ⟨rfl, rfl⟩ q2 hsize ⟨rfl, fun j d hj => ?_⟩ (setRow_heap w b cur _ e' _ hbw) (fun k hk => setRow_other w b k _ hk) (setRow_size _ _ _) rfl rfl rfl, hint _⟩
    rcases spliceD_get cs off _ j d (by omega) hj with ⟨h1, h2⟩ | ⟨h1, h2, h3⟩
    · obtain ⟨v, k1, k2⟩ := relC_get cs b 0 j d q3 h2
      rw [Nat.zero_add, cellH_cells q2] at k1
      refine ⟨v, ?_, k2⟩
      have hjc : j < cur.size := (Array.getElem?_eq_some_iff.1 k1).1
      simp only [List.getElem?_toArray]
      rcases h1 with h1 | h1
      · rw [List.append_assoc, List.getElem?_append_left (by rw [List.length_take]; omega), List.getElem?_take, if_pos h1]
        simpa using k1
      · have e3 : (cur.toList.take off ++ news.take K).length = off + K := by rw [List.length_append, hnl, List.length_take]; omega
        rw [List.getElem?_append_right (by omega), e3, List.getElem?_drop, hnl]
        rw [show off + K + (j - (off + K)) = j from by omega]
        simpa using k1
    · obtain ⟨v, k1, k2⟩ := relDs_get _ _ _ _ hd h3
      refine ⟨v, ?_, k2⟩
      simp only [List.getElem?_toArray]
      have e3 : (cur.toList.take off).length = off := by rw [List.length_take]; omega
      rw [List.append_assoc, List.getElem?_append_right (by omega), e3, List.getElem?_append_left (by omega)]
      exact k1
theorem bytesOfD_rel {h : Array Obj} {X : Nat → Prop} : ∀ {cells : List DV} {news : List Value} {l : List UInt8}, bytesOfD cells = some l → RelDs h X cells news → ∃ ns : List Int, news = ns.map (Value.int .u8) ∧ l = ns.map fun n => UInt8.ofNat n.toNat
  | [], news, l, hb, hr => by
    simp only [bytesOfD, Option.some.injEq] at hb
    exact ⟨[], hr, hb.symm⟩
  | x :: cells, news, l, hb, hr => by
    obtain ⟨v, vs, rfl, h1, h2⟩ := hr
    simp only [bytesOfD] at hb
    split at hb
    · rename_i b l' hb1 hb2
      simp only [Option.some.injEq] at hb
      subst hb
      obtain ⟨ns, rfl, rfl⟩ := bytesOfD_rel hb2 h2
      unfold u8D at hb1
      split at hb1
      · rename_i n
        simp only [Option.some.injEq] at hb1
        subst hb1
        rw [RelD] at h1
        exact ⟨n :: ns, by rw [h1.1]; rfl, rfl⟩
      · cases hb1
    · cases hb
theorem fold_push : ∀ (ns : List Int) (s : ByteArray), ns.foldl (fun r n => r.push (UInt8.ofNat n.toNat)) s = ⟨s.data ++ (ns.map fun n => UInt8.ofNat n.toNat).toArray⟩
  | [], s => by simp
  | n :: ns, s => by
    rw [List.foldl_cons, fold_push ns]
    simp [ByteArray.push]
theorem bytes_str (hw : w.heap = E.h) (hs : SimH GL E) (hrd : ∀ r o, rd r = some o → E.hp r = some o) {src dst e : Nat} {si di ei : TI} (h1 : tiOf P src = some si) (h2 : tiOf P dst = some di) (k1 : si.k = .slice e) (k2 : di.k = .str) (h3 : tiOf P e = some ei) (k3 : ei.k = .int .u8)
    {y : AV} {u : Value} (hy : Rel E y u) (hns : isStr y = false) {cells : List DV} {m : Nat} (h : srcA rd 1 y = some (cells, m)) {l : List UInt8} (hb : bytesOfD cells = some l) : (convert src dst u).run P w = .ok (.string ⟨l.toArray⟩) w := by
  obtain ⟨news, n1, n2, n3, n4, n5⟩ := srcA_sim (P := P) hw hs hrd hy h
  obtain ⟨ns, rfl, rfl⟩ := bytesOfD_rel hb n1
  obtain ⟨d1, hd1, q1⟩ := run_under h1
  obtain ⟨d2, hd2, q2⟩ := run_under h2
  obtain ⟨d3, hd3, q3⟩ := run_under h3
  rw [k1] at q1; rw [k2] at q2; rw [k3] at q3
  cases d1 <;> simp only [atOf] at q1 <;> try (cases q1; done)
  cases d2 <;> simp only [atOf] at q2 <;> try (cases q2; done)
  cases d3 <;> simp only [atOf] at q3 <;> try (cases q3; done)
  simp only [AT.slice.injEq] at q1
  subst q1
  simp only [AT.int.injEq] at q3
  subst q3
  rcases n5 with ⟨A, c, rfl⟩ | ⟨b, rfl⟩
  · rw [run_convert_bytes_string w src dst e A m c hd1 hd3 hd2]
    have hf := n4 m w (Nat.le_refl _) rfl
    rw [List.take_of_length_le (by omega)] at hf
    cases A with
    | none =>
      simp only [Builtin.firstCells, Sem.run_pure, Result.ok.injEq, and_true] at hf
      have : ns = [] := by
        have := congrArg Array.size hf
        simp at this
        exact List.eq_nil_of_length_eq_zero this.symm
      subst this
      simp [Conv.bytesToString]
      rfl
    | some a =>
      simp only [Builtin.firstCells, Nat.mul_one] at hf
      rw [run_bytesToString w a m c ns hf, fold_push]
      have he0 : ByteArray.empty.data = #[] := rfl
      rw [he0]
      simp
  · cases hns
/-- Bytes that are marked as those of a string: the row is used up, what it holds is data. -/
def strE (E : En) (r b : Nat) (h : Array Obj) : En := { E with hp := updF E.hp [(r, .dead)], X := fun k => E.X k ∧ k ≠ b, h := h }
theorem str_cell {h h' : Array Obj} {b e : Nat} {cur : Array Value} (hb : h[b]? = some (.cells cur e (0, 0))) (h1 : h' = h.modify b fun | .cells c elem _ => .cells c elem (cur.size, cur.size + 1) | o => o) (k o : Nat) : cellH h' k o = cellH h k o := by
  unfold cellH
  rw [h1, Array.getElem?_modify]
  by_cases hk : b = k
  · subst hk; rw [if_pos rfl, hb]; rfl
  · rw [if_neg hk]
theorem str_frz (hw : w.heap = E.h) {b e : Nat} {cur : Array Value} (hb : E.h[b]? = some (.cells cur e (0, 0))) : (w.freeze ⟨b, cur.size, none⟩ 1).heap = E.h.modify b fun | .cells c elem _ => .cells c elem (cur.size, cur.size + 1) | o => o := by
  unfold World.freeze
  simp only [Nat.one_ne_zero, if_false]
  rw [hw]
  apply Array.ext_getElem?
  intro i
  rw [Array.getElem?_modify, Array.getElem?_modify]
  by_cases hi : b = i
  · subst hi; rw [if_pos rfl, if_pos rfl, hb]; rfl
  · rw [if_neg hi, if_neg hi]
theorem str_goes (hw : w.heap = E.h) (hs : SimH GL E) {r b : Nat} {e s : Nat} {cs : List DV} {cur : Array Value} (hr : E.hp r = some (.data e s cs true)) (hm : E.m r = some (b, cur.size)) (hb : E.h[b]? = some (.cells cur e (0, 0))) (hX : E.X b) {w' : World} (h1 : w'.heap = E.h.modify b fun | .cells c elem _ => .cells c elem (cur.size, cur.size + 1) | o => o) (h2 : w'.os = w.os ∧ w'.tape = w.tape ∧ w'.output = w.output) :
    Goes GL E w [(r, .dead)] (strE E r b w'.heap) w' := by
  have hcell : ∀ k o, cellH w'.heap k o = cellH E.h k o := str_cell hb h1
  have hoth : ∀ k, k ≠ b → w'.heap[k]? = E.h[k]? := fun k hk => by rw [h1, Array.getElem?_modify, if_neg (fun e => hk e.symm)]
  have hhp : ∀ q, q ≠ r → (strE E r b w'.heap).hp q = E.hp q := fun q hq => by simp only [strE, updF, look_one]; rw [if_neg (fun e => hq e.symm)]
  have hhr : (strE E r b w'.heap).hp r = some .dead := by simp [strE, updF, look_one]
  have hex : Ext E (strE E r b w'.heap) := by
    refine ⟨fun k o u hx hc => ⟨fun h => hx h.1, (hcell k o).trans hc⟩, fun q ob he => ?_⟩
    by_cases hq : q = r
    · subst hq; exact ⟨.dead, hhr, by cases ob <;> exact trivial, .inl rfl⟩
    · exact ⟨ob, (hhp q hq).trans he, ob.like_refl, .inr rfl⟩
  have hmm : ∀ q ob, (strE E r b w'.heap).hp q = some ob → ob ≠ .dead → q ≠ r ∧ E.hp q = some ob := fun q ob he hd => by
    by_cases hq : q = r
    · subst hq; rw [hhr] at he; cases he; exact (hd rfl).elim
    · exact ⟨hq, (hhp q hq).symm.trans he⟩
  have nd : ∀ ob : AO, ob.mutB = true → ob ≠ .dead := fun ob h e => by rw [e] at h; cases h
  have apart : ∀ q ob z, q ≠ r → E.hp q = some ob → ob ≠ .dead → E.m q = some (b, z) → False := fun q ob z hq ho hd hz => by
    cases hmu : ob.mutB with
    | true => exact hq (hs.inj q r ob _ b z cur.size ho hr hmu rfl hz hm)
    | false =>
      cases ob with
      | dead => exact hd rfl
      | mix cs => cases hmu
      | data e2 s2 cs2 m2 =>
        have : m2 = false := hmu
        subst this
        rcases hs.ob q _ ho with ⟨q1, q2⟩ | ⟨b', cur', q1, q2, q3, q4, q5⟩
        · rw [q1] at hz; cases hz
        · rw [q1] at hz; cases hz; simp only [Bool.false_eq_true, if_false] at q4; exact q4 hX
  refine ⟨rfl, rfl, hex, ⟨fun q ob he => ?_, fun q q' ob ob' b1 z1 z2 e1 e2 e3 e4 e5 e6 => ?_, fun g cells hg => ?_⟩, ⟨h2.1, h2.2.1, h2.2.2, by rw [hw, h1, Array.size_modify]; exact Nat.le_refl _, fun k hk hm' => ?_, fun k ⟨q, ob, z1, e1, e2, e3⟩ => ?_, fun k hk => .inl hk.1, fun k _ hx hm' => ⟨hx, fun e => hm' (by subst e; exact ⟨r, _, _, hr, rfl, hm⟩)⟩⟩⟩
  · by_cases hd : ob = .dead
    · subst hd; exact trivial
    · obtain ⟨hq, he'⟩ := hmm q ob he hd
      refine ObjR.ext hex (hs.ob q ob he') (.inr rfl) (fun b2 z hz => hoth b2 fun e => ?_) (fun b2 z hz => ?_)
      · subst e; exact apart q ob z hq he' hd hz
      · show E.X b2 ∧ b2 ≠ b ↔ E.X b2
        exact ⟨fun h => h.1, fun h => ⟨h, fun e => by subst e; exact apart q ob z hq he' hd hz⟩⟩
  · exact hs.inj q q' ob ob' b1 z1 z2 (hmm q ob e1 (nd _ e3)).2 (hmm q' ob' e2 (nd _ e4)).2 e3 e4 e5 e6
  · rcases hs.gl g cells hg with g0 | ⟨g1, g2⟩
    · exact .inl g0
    · exact relC_keep hex.sub cells g 0 g1 g2
  · rw [hw]; exact hoth k fun e => hm' (by subst e; exact ⟨r, _, _, hr, rfl, hm⟩)
  · exact .inl ⟨q, ob, z1, (hmm q ob e1 (nd _ e2)).2, e2, e3⟩
theorem str_ends (hw : w.heap = E.h) (hs : SimH GL E) {src e : Nat} {si ei : TI} (h1 : tiOf P src = some si) (k1 : si.k = .slice e) (h3 : tiOf P e = some ei) (k3 : ei.k = .int .u8) {r off n : Nat} {cap : Option Nat} {e0 : Nat} {cs : List DV} (hr : E.hp r = some (.data e0 1 cs true)) (hn : 0 < n) {o : Oper} {u : Value} (hu : Rel E (.sl r off n cap) u)
    (he : execOp ev o = (do pure (Next.value (← convert src src u)))) : Ends P GL E w (execOp ev o) (.d (.dl ((cs.drop off).take n) n cap)) [(r, .dead)] := by
  obtain ⟨d1, hd1, q1⟩ := run_under h1
  obtain ⟨d3, hd3, q3⟩ := run_under h3
  rw [k1] at q1; rw [k3] at q3
  cases d1 <;> simp only [atOf] at q1 <;> try (cases q1; done)
  cases d3 <;> simp only [atOf] at q3 <;> try (cases q3; done)
  simp only [AT.slice.injEq] at q1
  subst q1
  simp only [AT.int.injEq] at q3
  subst q3
  rw [Rel, hr] at hu
  rcases hu with ⟨hn0, _⟩ | ⟨b, z, c, g1, rfl, g3, g4, g5, g6⟩
  · omega
  rcases hs.ob r _ hr with ⟨q1, q2⟩ | ⟨b', cur, q1, q2, q3, q4, q5⟩
  · rw [q1] at g1; cases g1
  rw [q1] at g1
  cases g1
  simp only [if_true] at q4
  have hrun : (convert src src (.slice (some ⟨b, off, none⟩) n c)).run P w = .ok (.slice (some ⟨b, off, none⟩) n c) (w.freeze ⟨b, cur.size, none⟩ 1) := by
    have hsh : w.shape? b = some (e0, cur.size) := by unfold World.shape?; rw [hw, q2]
    simp [convert, go_sem, run_underlying hd1, run_underlying hd3, markStringish, shape, freeze, Sem.run, hsh]
  have hgo := str_goes hw hs hr q1 q2 q4 (w' := w.freeze ⟨b, cur.size, none⟩ 1) (str_frz hw q2) ⟨rfl, rfl, rfl⟩
  refine ⟨_, _, _, _, exec_w he hrun, .inl rfl, hgo, ?_⟩
  rw [Rel, RelD]
  refine ⟨_, c, rfl, g3, g4, fun k hk => ?_, .inr ⟨b, off, rfl, fun hx => hx.2 rfl, ?_⟩⟩
  · subst hk; exact g6
  · have hd := relC_take n _ _ _ (relC_drop off _ _ _ q3)
    rw [Nat.zero_add] at hd
    exact RelC.at_ hgo.ext.sub _ _ _ (fun i u _ hu => by rw [← hu]; exact str_cell q2 (str_frz hw q2) _ _) hd
theorem ends_of_app {s : Sem Value} {o : Oper} (he : execOp ev o = (do pure (Next.value (← s)))) {v : AV} {us : List (Nat × AO)} (h : AppEnds P GL E w s v us) : Ends P GL E w (execOp ev o) v us := by
  obtain ⟨uv, w', E', h1, h2, h3⟩ := h
  exact ⟨_, w', E', uv, exec_w he h1, .inl rfl, h2, h3⟩
theorem ends_same (hw : w.heap = E.h) (hs : SimH GL E) {o : Oper} {v : AV} {u : Value} (h : (execOp ev o).run P w = .ok (.value u) w) (hr : Rel E v u) : Ends P GL E w (execOp ev o) v [] :=
  ⟨_, w, E, u, h, .inl rfl, Goes.refl hw hs, hr⟩
theorem call_run {c : Call} {dst : Option Tmp} {type : TypeId} {pos : String} {after : Array Edge} {guard : Option (Nat × Bool)} {b : Builtin} (hb : c.callee = .builtin b) : execOp ev ⟨dst, .call c, type, pos, after, guard⟩ = builtin b c.argTypes type (c.args.map fun | .const _ => true | _ => false) (c.args.map ev) := by
  simp only [execOp, resolve, hb]
  rfl
set_option maxHeartbeats 2000000 in
/-- **An operation that looks into objects, in the world.** -/
theorem effH_sim (hw : w.heap = E.h) (hs : SimH GL E) (hrd : ∀ r o, rd r = some o → E.hp r = some o) (hsl : rd slot = none → E.hp slot = none) (hρ : ∀ x, Rel E (ρ x) (ev x)) {o : Oper} {v : AV} {us : List (Nat × AO)} (h : effH (tiOf P) rd slot o ρ = some (v, us)) : Ends P GL E w (execOp ev o) v us := by
  have hk := kindsOf_rd hrd
  obtain ⟨dst, op, type, pos, after, guard⟩ := o
  unfold effH at h
  cases op <;> simp only at h <;> try (cases h; done)
  case alloc t =>
    split at h
    · rename_i i hi
      split at h
      · cases h
      · rename_i hn
        simp only [Option.some.injEq, Prod.mk.injEq] at h
        obtain ⟨rfl, rfl⟩ := h
        exact alloc_ends hw hs (hsl (by simpa using hn)) hi rfl
    · cases h
  case box t x =>
    split at h
    · cases h
    · rename_i hn
      split at h
      · rename_i hv
        simp only [Option.some.injEq, Prod.mk.injEq] at h
        obtain ⟨rfl, rfl⟩ := h
        refine box_ends hw hs (hsl (by simpa using hn)) (t := t) (cur := (ev x).cells) (rel_cells hk hv (hρ x)) ?_
        simp only [execOp, Instr.box, Sem.run_bind, Result.andThen_ok, newVar, newRow_run, Sem.run_pure]
      · cases h
  case buildSlice t n parts =>
    split at h
    · rename_i i hi
      split at h
      · rename_i e hke
        split at h
        · rename_i ei hei
          split at h
          · cases h
          · rename_i hc
            simp only [not_or, Bool.not_eq_false] at hc
            obtain ⟨c1, c2, c3, c4⟩ := hc
            split at h
            · rename_i cells hcells
              split at h
              · rename_i cs us' ha
                simp only [Option.some.injEq, Prod.mk.injEq] at h
                obtain ⟨rfl, rfl⟩ := h
                exact slice_ends hw hs (hsl (by simpa using c1)) hrd hρ hi hke hei (by omega) (Nat.pos_of_ne_zero c3) parts (fun p hp => List.all_eq_true.1 c4 p hp) hcells ha rfl
              · cases h
            · cases h
        · cases h
      · cases h
    · cases h
  case load t x =>
    have hx := hρ x
    split at h
    · rename_i i hi
      split at h
      · rename_i r off e1
        rw [e1] at hx
        split at h
        · rename_i e s cs wr ho
          simp only [Option.map_eq_some_iff] at h
          obtain ⟨v', hv, hh⟩ := h
          cases hh
          have ho' := hrd _ _ ho
          rw [Rel, ho'] at hx
          obtain ⟨b, z, g1, g2⟩ := hx
          rcases dataObj hs ho' with ⟨q1, _⟩ | ⟨b', cur, q1, q2, q3, _⟩
          · rw [q1] at g1; cases g1
          · have hbb : b = b' := by rw [q1] at g1; cases g1; rfl
            subst hbb
            obtain ⟨u, hu, hr⟩ := loadD_sim (P := P) hw hi q3 hv
            exact ends_same hw hs (exec_v (s := Instr.loadAt t (ev x)) rfl (by rw [g2]; rw [Nat.zero_add] at hu; exact hu)) hr
        · rename_i cs ho
          simp only [Option.map_eq_some_iff] at h
          obtain ⟨v', hv, hh⟩ := h
          cases hh
          have ho' := hrd _ _ ho
          rw [Rel, ho'] at hx
          obtain ⟨b, z, g1, g2⟩ := hx
          obtain ⟨b', cur, t0, q1, q2, q3⟩ := mixObj hs ho'
          have hbb : b = b' := by rw [q1] at g1; cases g1; rfl
          subst hbb
          obtain ⟨u, hu, hr⟩ := loadM_sim (P := P) hw hi q2 q3 hv
          exact ends_same hw hs (exec_v (s := Instr.loadAt t (ev x)) rfl (by rw [g2]; exact hu)) hr
        · cases h
      · rename_i cells off e1
        split at h
        · cases h
        rename_i hne
        simp only [Option.map_eq_some_iff] at h
        obtain ⟨v', hv, hh⟩ := h
        cases hh
        rw [e1, Rel] at hx
        obtain ⟨b, o, g1, g2⟩ := hx
        rcases g2 with g2 | ⟨g2, g3⟩
        · subst g2
          simp at hne
        · obtain ⟨u, hu, hr⟩ := loadD_sim (P := P) hw hi g3 hv
          exact ends_same hw hs (exec_v (s := Instr.loadAt t (ev x)) rfl (by rw [g1]; exact hu)) hr
      · cases h
    · cases h
  case store t x y =>
    split at h
    · rename_i i hi
      split at h
      · rename_i r off e1
        split at h
        · rename_i cs ho
          split at h
          · rename_i hc
            simp only [Option.some.injEq, Prod.mk.injEq] at h
            obtain ⟨rfl, rfl⟩ := h
            exact store_ends hw hs hrd hρ hi e1 ho hc.1 hc.2.1 hc.2.2.1 hc.2.2.2 rfl
          · cases h
        · rename_i e s cs ho
          split at h
          · rename_i ns us' ha
            split at h
            · rename_i hc
              simp only [Option.some.injEq, Prod.mk.injEq] at h
              obtain ⟨rfl, rfl⟩ := h
              exact store_data_ends hw hs hrd hρ hi e1 ho ha hc.1 hc.2.1 hc.2.2.1 hc.2.2.2 rfl
            · cases h
          · cases h
        · cases h
      · cases h
    · cases h
  case makeSlice t l c =>
    split at h
    · rename_i i hi
      split at h
      · rename_i e hke
        split at h
        · rename_i ei hei
          split at h
          · rename_i k1 n k2 k e1 e2
            split at h
            · cases h
            · rename_i hn
              split at h
              · rename_i hc
                simp only [Option.some.injEq, Prod.mk.injEq] at h
                obtain ⟨rfl, rfl⟩ := h
                exact made_ends hw hs (hsl (by simpa using hn)) hρ hi hke hei e1 e2 hc.1 hc.2.1 hc.2.2.1 hc.2.2.2.1 hc.2.2.2.2 rfl
              · cases h
          · cases h
        · cases h
      · cases h
    · cases h
  case convert src tgt x =>
    split at h
    · rename_i si di hsi hdi
      split at h
      · rename_i e k1 k2
        split at h
        · cases h
        · rename_i hc
          simp only [Bool.or_eq_true, Bool.not_eq_true', not_or, Bool.not_eq_true, Bool.not_eq_false] at hc
          split at h
          · rename_i cells m hsrc
            split at h
            · rename_i l hl
              simp only [Option.some.injEq, Prod.mk.injEq] at h
              obtain ⟨rfl, rfl⟩ := h
              have hu8 := hc.2
              unfold u8Of at hu8
              split at hu8
              · rename_i ei hei
                have k3 : ei.k = .int .u8 := by
                  revert hu8
                  cases ei.k with
                  | int k => cases k <;> simp
                  | _ => simp
                exact ends_same hw hs (exec_v (s := convert src tgt (ev x)) rfl (bytes_str hw hs hrd hsi hdi k1 k2 hei k3 (hρ x) hc.1 hsrc hl)) (by rw [Rel, RelD]; exact ⟨rfl, rfl⟩)
              · cases hu8
            · cases h
          · cases h
      · rename_i e0 e k1 k2
        split at h
        · rename_i hc
          obtain ⟨rfl, hu8⟩ := hc
          split at h
          · rename_i r off n cap hx
            split at h
            · rename_i e1 s cs hr
              split at h
              · rename_i hc2
                obtain ⟨rfl, hn⟩ := hc2
                simp only [Option.some.injEq, Prod.mk.injEq] at h
                obtain ⟨rfl, rfl⟩ := h
                unfold u8Of at hu8
                split at hu8
                · rename_i ei hei
                  have k3 : ei.k = .int .u8 := by
                    revert hu8
                    cases ei.k with
                    | int k => cases k <;> simp
                    | _ => simp
                  have hxr := hρ x
                  rw [hx] at hxr
                  exact str_ends hw hs hdi k2 hei k3 (hrd _ _ hr) hn hxr rfl
                · cases hu8
              · cases h
            · cases h
          · cases h
        · cases h
      · cases h
    · cases h
  case call c =>
    split at h
    · rename_i hb
      split at h
      · rename_i x y i j harg hi hj
        have hL := relL_map ρ ev hρ c.args.toList
        rw [harg, RelL] at hL
        obtain ⟨dv, r1, e0, hx, hr1⟩ := hL
        rw [RelL] at hr1
        obtain ⟨xv, r2, rfl, hy, hr2⟩ := hr1
        rw [RelL] at hr2
        subst hr2
        have b0 : (c.args.map ev)[0]? = some dv := by rw [← Array.getElem?_toList, Array.toList_map, e0]; rfl
        have b1 : (c.args.map ev)[1]? = some xv := by rw [← Array.getElem?_toList, Array.toList_map, e0]; rfl
        simp only [Option.bind_eq_some_iff] at hi hj
        obtain ⟨t, a0, hi⟩ := hi
        obtain ⟨u, a1, hj⟩ := hj
        obtain ⟨d, hd, hkd⟩ := run_under hi
        obtain ⟨du, hdu, hkdu⟩ := run_under hj
        split at h
        · rename_i hok
          split at h
          · rename_i e hke
            rw [hke] at hkd
            cases d <;> simp only [atOf] at hkd <;> try (cases hkd; done)
            simp only [AT.slice.injEq] at hkd
            subst hkd
            split at h
            · rename_i ei hei
              split at h
              · rename_i cells m hsrc
                split at h
                · rename_i hp
                  obtain ⟨news, n1, n2, n3, n4, _⟩ := srcA_sim (P := P) hw hs hrd hy hsrc
                  have happ := append_ends (P := P) (ats := c.argTypes) (ty := type) (args := c.args.map ev) hw hs hrd hsl (fun A n cc hA => ⟨a0, a1, by rw [b0, hA], b1, hd, ⟨du, hdu, by rw [← hkdu]; exact hok⟩, hei⟩) hx hp n1 n3 n2 (fun w' hw' => by
                    have := n4 m w' (Nat.le_refl _) hw'
                    rwa [List.take_of_length_le (by omega)] at this) h
                  refine ends_of_app (s := Builtin.append_ c.argTypes type (c.args.map ev)) ?_ happ
                  rw [call_run hb]
                  rfl
                · cases h
              · cases h
            · cases h
          · cases h
        · cases h
      · cases h
    · rename_i hb
      split at h
      · rename_i r off n cap y i harg hi
        have hL := relL_map ρ ev hρ c.args.toList
        rw [harg, RelL] at hL
        obtain ⟨dv, r1, e0, hx, hr1⟩ := hL
        rw [RelL] at hr1
        obtain ⟨xv, r2, rfl, hy, hr2⟩ := hr1
        rw [RelL] at hr2
        subst hr2
        have b0 : (c.args.map ev)[0]? = some dv := by rw [← Array.getElem?_toList, Array.toList_map, e0]; rfl
        have b1 : (c.args.map ev)[1]? = some xv := by rw [← Array.getElem?_toList, Array.toList_map, e0]; rfl
        simp only [Option.bind_eq_some_iff] at hi
        obtain ⟨t, a0, hi⟩ := hi
        obtain ⟨d, hd, hkd⟩ := run_under hi
        split at h
        · rename_i e hke
          rw [hke] at hkd
          cases d <;> simp only [atOf] at hkd <;> try (cases hkd; done)
          simp only [AT.slice.injEq] at hkd
          subst hkd
          split at h
          · rename_i ei hei
            split at h
            · rename_i cells m e' s cs hsrc ho
              split at h
              · rename_i hc
                simp only [Option.some.injEq, Prod.mk.injEq] at h
                obtain ⟨rfl, rfl⟩ := h
                refine ends_of_app (s := Builtin.copy_ c.argTypes type (c.args.map ev)) ?_ (copy_ends hw hs hrd a0 b0 b1 hd hei hx ho hc.1 hc.2 hy hsrc)
                rw [call_run hb]
                rfl
              · cases h
            · cases h
          · cases h
        · cases h
      · cases h
    · cases h
end
end Go.Proofs.Ytmkbnmjhkghdjaa
