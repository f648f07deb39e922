/- Chapter 15: the runs, as plain data. -/
import Derived.Test.YtpbanfkjeiihbaaDoorS9
set_option linter.unusedVariables false
set_option linter.unusedSimpArgs false
namespace Go.Proofs.YtpbanfkjeiihbaaDoor

def dueJ (d : Int) : List Int := [-1, -1, -1, -1, -1, -1, -1, -1, -1, -1, d, -1, -1, -1]
theorem firstS_J (d t : Int) : firstS (dueJ d) t 14 = if 0 ≤ d ∧ d ≤ t then 10 else -1 := by
  simp [firstS, dueJ]
theorem dueJ_set (d d' : Int) : (dueJ d).set 10 d' = dueJ d' := rfl
theorem stepS_cases {m : Mc} (hm : mayB m = true) (i : Tin) :
    stepS m i = (m, []) ∨
    ((m.st = 2 ∨ m.st = 3) ∧ i.kind = 4 ∧ 100 ≤ i.code ∧ i.code ≤ 199 ∧ stepS m i = (⟨3, 0, i.code⟩, [⟨1, i.code, 0, 0⟩])) ∨
    ((m.st = 2 ∨ m.st = 3) ∧ i.kind = 4 ∧ 200 ≤ i.code ∧ i.code ≤ 699 ∧ stepS m i = (⟨5, 0, i.code⟩, [⟨1, i.code, 0, 0⟩, ⟨4, 0, 10, 32000⟩])) ∨
    ((m.st = 3 ∨ m.st = 5) ∧ i.kind = 1 ∧ stepS m i = (m, [⟨1, m.code, 0, 0⟩])) ∨
    ((m.st = 3 ∨ m.st = 5) ∧ i.kind = 6 ∧ stepS m i = (⟨7, 0, m.code⟩, [⟨6, 0, 0, 0⟩, ⟨7, 0, 0, 0⟩])) ∨
    (m.st = 5 ∧ i.kind = 5 ∧ i.timer = 10 ∧ stepS m i = (⟨7, 0, m.code⟩, [⟨7, 0, 0, 0⟩])) := by
  obtain ⟨st, wt, c⟩ := m
  obtain ⟨k, cd, tm⟩ := i
  simp only
  by_cases h4 : (st = 2 ∨ st = 3) ∧ k = 4
  · obtain ⟨hst, rfl⟩ := h4
    cases h1 : fromB cd 100 199
    · cases h2 : fromB cd 200 699
      · exact .inl (stepS_open0 hst hm h1 h2)
      · have := stepS_open2 (tm := tm) hst hm h1 h2
        simp [fromB] at h2
        exact .inr (.inr (.inl ⟨hst, rfl, h2.1, h2.2, this⟩))
    · have := stepS_open1 (tm := tm) hst hm h1
      simp [fromB] at h1
      exact .inr (.inl ⟨hst, rfl, h1.1, h1.2, this⟩)
  by_cases h1 : (st = 3 ∨ st = 5) ∧ k = 1
  · obtain ⟨hst, rfl⟩ := h1
    exact .inr (.inr (.inr (.inl ⟨hst, rfl, stepS_again hst hm⟩)))
  by_cases h6 : (st = 3 ∨ st = 5) ∧ k = 6
  · obtain ⟨hst, rfl⟩ := h6
    exact .inr (.inr (.inr (.inr (.inl ⟨hst, rfl, stepS_failed hst hm⟩))))
  by_cases h5 : st = 5 ∧ k = 5 ∧ tm = 10
  · obtain ⟨rfl, rfl, rfl⟩ := h5
    exact .inr (.inr (.inr (.inr (.inr ⟨rfl, rfl, rfl, stepS_over hm⟩))))
  exact .inl (stepS_none hm (by intro h hk; exact h4 ⟨h, hk⟩) (by intro h; exact ⟨fun hk => h1 ⟨h, hk⟩, fun hk => h6 ⟨h, hk⟩⟩) (by intro a b c; exact h5 ⟨a, b, c⟩))

def cnt (l : List Ent) (k : Int) : Nat := (l.filter fun e => e.out.kind == k).length
theorem cnt_app (l l' : List Ent) (k : Int) : cnt (l ++ l') k = cnt l k + cnt l' k := by simp [cnt, List.filter_append]
/-- What holds of the simulation whenever an event begins. -/
structure Inv (s : Sim) (d : Int) : Prop where
  may : mayB s.m = true
  due : s.due = dueJ d
  d0 : d = -1 ∨ (s.now < d ∧ d ≤ s.now + 32000)
  run : s.m.st = 5 → 0 ≤ d
  idle : s.m.st ≠ 5 → s.m.st ≠ 7 → d = -1
  now0 : 0 ≤ s.now
  past : ∀ e ∈ s.log, e.at_ ≤ s.now
  zero : ∀ e ∈ s.log, (e.out.kind = 3 ∨ e.out.kind = 7) → e.out.code = 0
  user : cnt s.log 3 = 1
  over : s.m.st = 7 → ∃ pre e, s.log = pre ++ [e] ∧ cnt pre 7 = 0 ∧ e.out.kind = 7
  alive : s.m.st ≠ 7 → cnt s.log 7 = 0
theorem may_st {m : Mc} (h : mayB m = true) : m.st = 2 ∨ m.st = 3 ∨ m.st = 5 ∨ m.st = 7 := by
  simp only [mayB, Bool.and_eq_true] at h
  grind
theorem inv_start : Inv startS (-1) := by
  have e : startS = ⟨⟨2, 0, 0⟩, dueJ (-1), 0, [⟨0, ⟨3, 0, 0, 0⟩⟩]⟩ := by decide
  rw [e]
  refine ⟨by decide, rfl, .inl rfl, by simp, by simp, by simp, by simp, by simp, by decide, by simp, by decide⟩
/-- Outputs behind the log, the machine going on. -/
theorem Inv.more {s : Sim} {d : Int} (h : Inv s d) (m : Mc) (l : List Ent) (d' : Int) (hm : mayB m = true) (hd : d' = -1 ∨ (s.now < d' ∧ d' ≤ s.now + 32000)) (hr : m.st = 5 → 0 ≤ d') (hi : m.st ≠ 5 → m.st ≠ 7 → d' = -1)
    (h7 : s.m.st ≠ 7) (hm7 : m.st ≠ 7) (hl : ∀ e ∈ l, e.at_ = s.now ∧ e.out.kind ≠ 3 ∧ e.out.kind ≠ 7) : Inv ⟨m, dueJ d', s.now, s.log ++ l⟩ d' := by
  have c3 : cnt l 3 = 0 := by
    simp only [cnt, List.length_eq_zero_iff, List.filter_eq_nil_iff]
    intro e he; simpa using (hl e he).2.1
  have c7 : cnt l 7 = 0 := by
    simp only [cnt, List.length_eq_zero_iff, List.filter_eq_nil_iff]
    intro e he; simpa using (hl e he).2.2
  refine ⟨hm, rfl, hd, hr, hi, h.now0, ?_, ?_, ?_, fun h0 => absurd h0 hm7, fun _ => ?_⟩
  · intro e he
    rcases List.mem_append.1 he with he | he
    · exact h.past e he
    · rw [(hl e he).1]; exact Int.le_refl _
  · intro e he hk
    rcases List.mem_append.1 he with he | he
    · exact h.zero e he hk
    · rcases hk with hk | hk
      · exact absurd hk (hl e he).2.1
      · exact absurd hk (hl e he).2.2
  · show cnt (s.log ++ l) 3 = 1
    rw [cnt_app, h.user, c3]
  · show cnt (s.log ++ l) 7 = 0
    rw [cnt_app, h.alive h7, c7]
/-- Outputs behind the log, the last of them the end. -/
theorem Inv.ends {s : Sim} {d : Int} (h : Inv s d) (m : Mc) (l : List Ent) (hm : mayB m = true) (hm7 : m.st = 7) (h7 : s.m.st ≠ 7) (hl : ∀ e ∈ l, e.at_ = s.now ∧ e.out.kind ≠ 3 ∧ e.out.kind ≠ 7) (d' : Int) (hd : d' = -1 ∨ (s.now < d' ∧ d' ≤ s.now + 32000)) :
    Inv ⟨m, dueJ d', s.now, s.log ++ l ++ [⟨s.now, ⟨7, 0, 0, 0⟩⟩]⟩ d' := by
  have c3 : cnt l 3 = 0 := by
    simp only [cnt, List.length_eq_zero_iff, List.filter_eq_nil_iff]
    intro e he; simpa using (hl e he).2.1
  have c7 : cnt l 7 = 0 := by
    simp only [cnt, List.length_eq_zero_iff, List.filter_eq_nil_iff]
    intro e he; simpa using (hl e he).2.2
  refine ⟨hm, rfl, hd, fun h0 => ?_, fun _ h0 => absurd hm7 h0, h.now0, ?_, ?_, ?_, fun _ => ⟨s.log ++ l, _, rfl, ?_, rfl⟩, fun h0 => absurd hm7 h0⟩
  · have : m.st = 5 := h0
    omega
  · intro e he
    rcases List.mem_append.1 he with he | he
    · rcases List.mem_append.1 he with he | he
      · exact h.past e he
      · rw [(hl e he).1]; exact Int.le_refl _
    · rw [List.mem_singleton.1 he]; exact Int.le_refl _
  · intro e he hk
    rcases List.mem_append.1 he with he | he
    · rcases List.mem_append.1 he with he | he
      · exact h.zero e he hk
      · rcases hk with hk | hk
        · exact absurd hk (hl e he).2.1
        · exact absurd hk (hl e he).2.2
    · rw [List.mem_singleton.1 he]
  · show cnt (s.log ++ l ++ _) 3 = 1
    rw [cnt_app, cnt_app, h.user, c3]; rfl
  · rw [cnt_app, h.alive h7, c7]
theorem Inv.eta {s : Sim} {d : Int} (h : Inv s d) : s = ⟨s.m, dueJ d, s.now, s.log⟩ := by
  obtain ⟨m, due, now, log⟩ := s
  have := h.due
  simp only at this
  rw [this]
theorem mayB_3 {c : Int} (h1 : 100 ≤ c) (h2 : c ≤ 199) : mayB ⟨3, 0, c⟩ = true := by simp [mayB]; omega
theorem mayB_5 {c : Int} (h1 : 200 ≤ c) (h2 : c ≤ 699) : mayB ⟨5, 0, c⟩ = true := by simp [mayB]; omega
theorem mayB_7 {m : Mc} (h : mayB m = true) (hst : m.st = 3 ∨ m.st = 5) : mayB ⟨7, 0, m.code⟩ = true := by
  simp only [mayB, Bool.and_eq_true] at h
  have : 100 ≤ m.code ∧ m.code ≤ 699 := by grind
  simp [mayB]; omega
/-- An input. -/
theorem Inv.give {s : Sim} {d : Int} (h : Inv s d) (i : Tin) : ∃ d', Inv (giveS stepS s i) d' := by
  rcases stepS_cases h.may i with e | ⟨a, _, b, c, e⟩ | ⟨a, _, b, c, e⟩ | ⟨a, _, e⟩ | ⟨a, _, e⟩ | ⟨a, _, _, e⟩
  · refine ⟨d, ?_⟩
    rw [giveS, e]
    exact h
  · refine ⟨-1, ?_⟩
    have hd := h.idle (by omega) (by omega)
    have := h.more ⟨3, 0, i.code⟩ [⟨s.now, ⟨1, i.code, 0, 0⟩⟩] (-1) (mayB_3 b c) (.inl rfl) (by simp) (by simp) (by omega) (by simp) (by simp)
    rw [giveS, e, h.eta, hd]
    exact this
  · refine ⟨s.now + 32000, ?_⟩
    have := h.more ⟨5, 0, i.code⟩ [⟨s.now, ⟨1, i.code, 0, 0⟩⟩, ⟨s.now, ⟨4, 0, 10, 32000⟩⟩] (s.now + 32000) (mayB_5 b c) (.inr ⟨by omega, by omega⟩) (by have := h.now0; simp; omega) (by simp) (by omega) (by simp) (by simp)
    rw [giveS, e, h.eta]
    simp only [takeS, List.foldl_cons, List.foldl_nil, take1, dueS]
    simp only [List.append_assoc, List.cons_append, List.nil_append]
    exact this
  · refine ⟨d, ?_⟩
    have := h.more s.m [⟨s.now, ⟨1, s.m.code, 0, 0⟩⟩] d h.may h.d0 h.run (fun h1 h2 => h.idle h1 h2) (by omega) (by omega) (by simp)
    rw [giveS, e]
    conv => arg 1; rw [h.eta]
    exact this
  · refine ⟨d, ?_⟩
    have := h.ends ⟨7, 0, s.m.code⟩ [⟨s.now, ⟨6, 0, 0, 0⟩⟩] (mayB_7 h.may a) rfl (by omega) (by simp) d h.d0
    rw [giveS, e]
    conv => arg 1; rw [h.eta]
    exact this
  · refine ⟨d, ?_⟩
    have := h.ends ⟨7, 0, s.m.code⟩ [] (mayB_7 h.may (.inr a)) rfl (by omega) (by simp) d h.d0
    rw [giveS, e]
    conv => arg 1; rw [h.eta]
    rw [List.append_nil] at this
    exact this
/-- Time passes without a timer. -/
theorem Inv.later {s : Sim} {d : Int} (h : Inv s d) (t : Int) (ht : s.now ≤ t) (hd : d = -1 ∨ t < d) : Inv (endS s t) d := by
  have e : endS s t = { s with now := t } := by unfold endS; congr 1; omega
  rw [e]
  refine ⟨h.may, h.due, ?_, h.run, h.idle, by have := h.now0; show 0 ≤ t; omega, fun x hx => Int.le_trans (h.past x hx) ht, h.zero, h.user, h.over, h.alive⟩
  rcases h.d0 with h1 | h1
  · exact .inl h1
  · rcases hd with h2 | h2
    · exact .inl h2
    · exact .inr ⟨h2, by show d ≤ t + 32000; omega⟩
theorem until_wait {s : Sim} {d : Int} (h : Inv s d) (t : Int) (hd : d = -1 ∨ t < d) : untilS stepS s t = endS s t := by
  have e : firstS s.due t 14 = -1 := by rw [h.due, firstS_J, if_neg (by omega)]
  unfold untilS
  rw [show (200 : Nat) = 199 + 1 from rfl, untilL, if_pos (by omega)]
theorem stepS_over' {m : Mc} (hm : mayB m = true) (h5 : m.st = 5) : stepS m ⟨5, 0, 10⟩ = (⟨7, 0, m.code⟩, [⟨7, 0, 0, 0⟩]) := by
  obtain ⟨st, wt, c⟩ := m
  simp only at h5
  subst h5
  exact stepS_over hm
/-- The timer fires. -/
theorem Inv.fire {s : Sim} {d : Int} (h : Inv s d) (hd : 0 ≤ d) : Inv (fireS stepS s 10) (-1) ∧ (fireS stepS s 10).m.st = 7 ∧ (fireS stepS s 10).now = d ∧ (fireS stepS s 10).m.code = s.m.code := by
  have hd' : s.now < d ∧ d ≤ s.now + 32000 := by rcases h.d0 with h1 | h1 <;> omega
  have hst : s.m.st = 5 ∨ s.m.st = 7 := by
    have := h.idle
    by_cases a : s.m.st = 5 <;> by_cases b : s.m.st = 7 <;> simp_all
  have efire : fireS stepS s 10 = giveS stepS ⟨s.m, dueJ (-1), d, s.log⟩ ⟨5, 0, 10⟩ := by
    unfold fireS
    rw [h.due]
    rfl
  rw [efire]
  rcases hst with h5 | h7
  · have h1 : Inv ⟨s.m, dueJ (d + 1), d, s.log⟩ (d + 1) := by
      refine ⟨h.may, rfl, .inr ⟨by show d < d + 1; omega, by show d + 1 ≤ d + 32000; omega⟩, fun _ => by omega, fun a b => absurd h5 a, hd, fun x hx => ?_, h.zero, h.user, h.over, h.alive⟩
      have := h.past x hx
      show x.at_ ≤ d
      omega
    have e : stepS s.m ⟨5, 0, 10⟩ = (⟨7, 0, s.m.code⟩, [⟨7, 0, 0, 0⟩]) := by
      exact stepS_over' h.may h5
    have h2 := h1.ends ⟨7, 0, s.m.code⟩ [] (mayB_7 h.may (.inr h5)) rfl (by show s.m.st ≠ 7; omega) (by simp) (-1) (.inl rfl)
    have e2 : giveS stepS ⟨s.m, dueJ (-1), d, s.log⟩ ⟨5, 0, 10⟩ = ⟨⟨7, 0, s.m.code⟩, dueJ (-1), d, s.log ++ [] ++ [⟨d, ⟨7, 0, 0, 0⟩⟩]⟩ := by
      rw [giveS]
      simp only
      rw [e, List.append_nil]
      rfl
    rw [e2]
    exact ⟨h2, rfl, rfl, rfl⟩
  · have e : stepS s.m ⟨5, 0, 10⟩ = (s.m, []) := stepS_none h.may (by omega) (by omega) (by omega)
    have e2 : giveS stepS ⟨s.m, dueJ (-1), d, s.log⟩ ⟨5, 0, 10⟩ = ⟨s.m, dueJ (-1), d, s.log⟩ := by
      rw [giveS]
      simp only
      rw [e]
      rfl
    rw [e2]
    refine ⟨⟨h.may, rfl, .inl rfl, fun a => ?_, fun _ a => absurd h7 a, hd, fun x hx => ?_, h.zero, h.user, h.over, h.alive⟩, h7, rfl, rfl⟩
    · have : s.m.st = 5 := a
      omega
    · have := h.past x hx
      show x.at_ ≤ d
      omega
theorem until_fire {s : Sim} {d : Int} (h : Inv s d) (t : Int) (hd : 0 ≤ d) (ht : d ≤ t) : untilS stepS s t = endS (fireS stepS s 10) t := by
  have e : firstS s.due t 14 = 10 := by rw [h.due, firstS_J, if_pos ⟨hd, ht⟩]
  have h1 := (h.fire hd).1
  have e1 : firstS (fireS stepS s 10).due t 14 = -1 := by rw [h1.due, firstS_J, if_neg (by omega)]
  unfold untilS
  rw [show (200 : Nat) = 198 + 1 + 1 from rfl, untilL, if_neg (by omega), e]
  simp only [show (10 : Int).toNat = 10 from rfl]
  rw [untilL, if_pos (by omega)]
/-- Time passes. -/
theorem Inv.until {s : Sim} {d : Int} (h : Inv s d) (t : Int) (ht : s.now ≤ t) : ∃ d', Inv (untilS stepS s t) d' ∧ (untilS stepS s t).now = t ∧ (d' = -1 ∨ t < d') ∧ (0 ≤ d ∧ d ≤ t → d' = -1 ∧ (untilS stepS s t).m.st = 7) ∧ ((d = -1 ∨ t < d) → d' = d ∧ (untilS stepS s t).m = s.m) ∧ (untilS stepS s t).m.code = s.m.code := by
  by_cases hd : d = -1 ∨ t < d
  · rw [until_wait h t hd]
    refine ⟨d, h.later t ht hd, ?_, hd, ?_, fun _ => ⟨rfl, rfl⟩, rfl⟩
    · show max s.now t = t; omega
    · rcases hd with h1 | h1 <;> (intro h2; omega)
  · have hd0 : 0 ≤ d := by
      rcases h.d0 with h1 | h1
      · omega
      · have := h.now0; omega
    rw [until_fire h t hd0 (by omega)]
    obtain ⟨h1, h2, h3, h4⟩ := h.fire hd0
    refine ⟨-1, h1.later t (by rw [h3]; omega) (.inl rfl), ?_, .inl rfl, fun _ => ⟨rfl, h2⟩, fun h5 => absurd h5 hd, h4⟩
    show max (fireS stepS s 10).now t = t
    rw [h3]; omega
theorem inv_ev {s : Sim} {d : Int} (h : Inv s d) (e : Ev) (he : 0 ≤ e.wait) : ∃ d', Inv (evS stepS s e) d' := by
  obtain ⟨d1, h1, _⟩ := h.until (s.now + e.wait) (by omega)
  exact h1.give _
theorem inv_fold (l : List Ev) : ∀ {s : Sim} {d : Int}, Inv s d → (∀ e ∈ l, 0 ≤ e.wait) → ∃ d', Inv (l.foldl (evS stepS) s) d' := by
  induction l with
  | nil => intro s d h _; exact ⟨d, h⟩
  | cons e l ih =>
    intro s d h hw
    obtain ⟨d1, h1⟩ := inv_ev h e (hw e (List.mem_cons_self ..))
    exact ih h1 fun x hx => hw x (List.mem_cons_of_mem _ hx)
theorem inv_play (l : List Ev) (hw : ∀ e ∈ l, 0 ≤ e.wait) : ∃ d, Inv (playS stepS startS l) d :=
  inv_fold _ inv_start fun e he => hw e (List.mem_of_mem_take he)
/-- What is counted. -/
theorem Inv.count {s : Sim} {d : Int} (h : Inv s d) (k : Int) (hk : k = 3 ∨ k = 7) : countS s.log k s.now 0 1000 = cnt s.log k := by
  unfold countS cnt
  congr 1
  apply List.filter_congr
  intro e he
  have h1 := h.past e he
  unfold hitB
  by_cases hek : e.out.kind = k
  · have h2 := h.zero e he (by rw [hek]; exact hk)
    simp [hek, h1, h2]
  · have : (e.out.kind == k) = false := by simpa using hek
    simp [this]
theorem Inv.users {s : Sim} {d : Int} (h : Inv s d) : countS s.log 3 s.now 0 1000 = 1 := by rw [h.count 3 (.inl rfl), h.user]
theorem Inv.closed {s : Sim} {d : Int} (h : Inv s d) : closedS s = true := by
  unfold closedS
  rw [h.count 7 (.inr rfl)]
  by_cases h7 : s.m.st = 7
  · obtain ⟨pre, e, hl, h1, h2⟩ := h.over h7
    have hc : cnt s.log 7 = 1 := by rw [hl, cnt_app, h1]; simp [cnt, h2]
    have hlast : lastB s.log = true := by
      unfold lastB
      rw [hl, List.getLast?_append]
      simp [h2]
    simp [hc, h7, hlast]
  · have hc := h.alive h7
    simp [hc, h7]
end Go.Proofs.YtpbanfkjeiihbaaDoor
