/- Chapter 15: some runs, said outright. -/
import Derived.Test.YtpbanfkjeiihbaaDoorQW2
set_option linter.unusedVariables false
set_option linter.unusedSimpArgs false
namespace Go.Proofs.YtpbanfkjeiihbaaDoor
open Go.RowKit

theorem startS_eq : startS = ⟨⟨2, 0, 0⟩, dueJ (-1), 0, [⟨0, ⟨3, 0, 0, 0⟩⟩]⟩ := by decide
def sA (c : Int) : Sim := ⟨⟨3, 0, c⟩, dueJ (-1), 3000, [⟨0, ⟨3, 0, 0, 0⟩⟩, ⟨3000, ⟨1, c, 0, 0⟩⟩]⟩
def sB (c : Int) : Sim := ⟨⟨5, 0, c⟩, dueJ 35000, 3000, [⟨0, ⟨3, 0, 0, 0⟩⟩, ⟨3000, ⟨1, c, 0, 0⟩⟩, ⟨3000, ⟨4, 0, 10, 32000⟩⟩]⟩
def s3000 : Sim := ⟨⟨2, 0, 0⟩, dueJ (-1), 3000, [⟨0, ⟨3, 0, 0, 0⟩⟩]⟩
theorem e1 : untilS stepS startS 3000 = s3000 := by
  rw [until_wait inv_start 3000 (.inl rfl), startS_eq]; rfl
theorem e2 : giveS stepS s3000 ⟨6, 0, 0⟩ = s3000 := by decide
theorem inv3000 : Inv s3000 (-1) := by
  have := inv_start.later 3000 (by rw [startS_now]; omega) (.inl rfl)
  rw [startS_eq] at this
  exact this
theorem eA {c : Int} (h1 : 100 ≤ c) (h2 : c ≤ 199) : giveS stepS s3000 ⟨4, c, 0⟩ = sA c := by
  rw [giveS, show s3000.m = ⟨2, 0, 0⟩ from rfl, stepS_open1 (.inl rfl) (by decide) (by simp [fromB]; omega)]
  rfl
theorem eB {c : Int} (h1 : 200 ≤ c) (h2 : c ≤ 699) : giveS stepS s3000 ⟨4, c, 0⟩ = sB c := by
  rw [giveS, show s3000.m = ⟨2, 0, 0⟩ from rfl, stepS_open2 (.inl rfl) (by decide) (by simp [fromB]; omega) (by simp [fromB]; omega)]
  rfl
theorem invA {c : Int} (h1 : 100 ≤ c) (h2 : c ≤ 199) : Inv (sA c) (-1) := by
  have := inv3000.more ⟨3, 0, c⟩ [⟨3000, ⟨1, c, 0, 0⟩⟩] (-1) (mayB_3 h1 h2) (.inl rfl) (by simp) (by simp) (by decide) (by simp) (by simp [s3000])
  exact this
theorem invB {c : Int} (h1 : 200 ≤ c) (h2 : c ≤ 699) : Inv (sB c) 35000 := by
  have := inv3000.more ⟨5, 0, c⟩ [⟨3000, ⟨1, c, 0, 0⟩⟩, ⟨3000, ⟨4, 0, 10, 32000⟩⟩] 35000 (mayB_5 h1 h2) (.inr (by decide)) (by simp) (by simp) (by decide) (by simp) (by simp [s3000])
  exact this
def atT (s : Sim) (t : Int) : Sim := { s with now := t }
theorem endS_at {s : Sim} {t : Int} (h : s.now ≤ t) : endS s t = atT s t := by unfold endS atT; congr 1; omega
theorem eA2 {c t : Int} (h1 : 100 ≤ c) (h2 : c ≤ 199) (ht : 0 ≤ t) : untilS stepS (sA c) (3000 + t) = atT (sA c) (3000 + t) := by
  rw [until_wait (invA h1 h2) _ (.inl rfl), endS_at (by show (3000 : Int) ≤ _; omega)]
theorem eB2 {c t : Int} (h1 : 200 ≤ c) (h2 : c ≤ 699) (ht : 0 ≤ t) (ht2 : t < 32000) : untilS stepS (sB c) (3000 + t) = atT (sB c) (3000 + t) := by
  rw [until_wait (invB h1 h2) _ (.inr (by omega)), endS_at (by show (3000 : Int) ≤ _; omega)]
def sE (c : Int) : Sim := ⟨⟨7, 0, c⟩, dueJ (-1), 35000, [⟨0, ⟨3, 0, 0, 0⟩⟩, ⟨3000, ⟨1, c, 0, 0⟩⟩, ⟨3000, ⟨4, 0, 10, 32000⟩⟩, ⟨35000, ⟨7, 0, 0, 0⟩⟩]⟩
theorem eB3 {c : Int} (h1 : 200 ≤ c) (h2 : c ≤ 699) : untilS stepS (sB c) (3000 + 32000) = sE c := by
  rw [until_fire (invB h1 h2) _ (by omega) (by omega)]
  have e : fireS stepS (sB c) 10 = giveS stepS ⟨⟨5, 0, c⟩, dueJ (-1), 35000, (sB c).log⟩ ⟨5, 0, 10⟩ := rfl
  rw [e, giveS]
  simp only
  rw [stepS_over (mayB_5 h1 h2)]
  rfl
theorem invE {c : Int} (h1 : 200 ≤ c) (h2 : c ≤ 699) : ∃ d, Inv (sE c) d := by
  obtain ⟨d, h, _⟩ := (invB h1 h2).until (3000 + 32000) (by show (3000 : Int) ≤ _; omega)
  rw [eB3 h1 h2] at h
  exact ⟨d, h⟩
def failS (s : Sim) : Sim := { s with m := ⟨7, 0, s.m.code⟩, log := s.log ++ [⟨s.now, ⟨6, 0, 0, 0⟩⟩, ⟨s.now, ⟨7, 0, 0, 0⟩⟩] }
theorem eF {s : Sim} (hm : mayB s.m = true) (hst : s.m.st = 3 ∨ s.m.st = 5) : giveS stepS s ⟨6, 0, 0⟩ = failS s := by
  obtain ⟨⟨st, wt, c⟩, due, now, log⟩ := s
  rw [giveS]
  simp only at hm hst ⊢
  rw [stepS_failed hst hm]
  simp [takeS, take1, dueS, failS]
theorem eA3 {c : Int} (h1 : 100 ≤ c) (h2 : c ≤ 199) : untilS stepS (sA c) 35000 = atT (sA c) 35000 := eA2 (t := 32000) h1 h2 (by omega)
theorem eB4 {c : Int} (h1 : 200 ≤ c) (h2 : c ≤ 699) : untilS stepS (sB c) 35000 = sE c := eB3 h1 h2
theorem invA3 {c : Int} (h1 : 100 ≤ c) (h2 : c ≤ 199) : Inv (atT (sA c) 35000) (-1) := by
  have := (invA h1 h2).later 35000 (by show (3000 : Int) ≤ _; omega) (.inl rfl)
  rw [endS_at (by show (3000 : Int) ≤ _; omega)] at this
  exact this
end Go.Proofs.YtpbanfkjeiihbaaDoor
