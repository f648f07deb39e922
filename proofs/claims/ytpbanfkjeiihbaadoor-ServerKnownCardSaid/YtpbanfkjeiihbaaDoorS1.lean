/- The machines and their runs as data: plain Lean, no program in sight. -/
import Std
set_option linter.unusedVariables false
namespace Go.Proofs.YtpbanfkjeiihbaaDoor

structure Mc where
  st : Int
  wait : Int
  code : Int
  deriving DecidableEq
structure Tin where
  kind : Int
  code : Int
  timer : Int
  deriving DecidableEq
structure Tout where
  kind : Int
  code : Int
  timer : Int
  after : Int
  deriving DecidableEq
structure Ent where
  at_ : Int
  out : Tout
  deriving DecidableEq
structure Sim where
  m : Mc
  due : List Int
  now : Int
  log : List Ent
  deriving DecidableEq
abbrev StepF := Mc → Tin → Mc × List Tout

def dueS (now : Int) (due : List Int) (o : Tout) : List Int := if o.kind = 4 ∧ o.timer < 14 then due.set o.timer.toNat (now + max 1 o.after) else due
def take1 (s : Sim) (o : Tout) : Sim := { s with log := s.log ++ [⟨s.now, o⟩], due := dueS s.now s.due o }
def takeS (s : Sim) (m : Mc) (l : List Tout) : Sim := l.foldl take1 { s with m := m }
def giveS (f : StepF) (s : Sim) (i : Tin) : Sim := takeS s (f s.m i).1 (f s.m i).2
/-- which of the first k timers is due first, up to a time; or -1 -/
def firstS (due : List Int) (t : Int) : Nat → Int
  | 0 => -1
  | k + 1 => if 0 ≤ due.getD k 0 ∧ due.getD k 0 ≤ t ∧ (firstS due t k < 0 ∨ due.getD k 0 < due.getD (firstS due t k).toNat 0) then k else firstS due t k
def fireS (f : StepF) (s : Sim) (i : Nat) : Sim := giveS f { s with now := s.due.getD i 0, due := s.due.set i (-1) } ⟨5, 0, i⟩
def untilL (f : StepF) (t : Int) : Nat → Sim → Sim
  | 0, s => s
  | n + 1, s => if firstS s.due t 14 < 0 then s else untilL f t n (fireS f s (firstS s.due t 14).toNat)
def endS (s : Sim) (t : Int) : Sim := { s with now := max s.now t }
def untilS (f : StepF) (s : Sim) (t : Int) : Sim := endS (untilL f t 200 s) t
def zeroS : Sim := ⟨⟨0, 0, 0⟩, List.replicate 14 (-1), 0, []⟩
def hitB (k until_ least most : Int) (e : Ent) : Bool := e.out.kind == k && decide (e.at_ ≤ until_) && decide (least ≤ e.out.code) && decide (e.out.code ≤ most)
def countS (log : List Ent) (k until_ least most : Int) : Nat := (log.filter (hitB k until_ least most)).length
def lastB (log : List Ent) : Bool := match log.getLast? with | some e => e.out.kind == 7 | none => false
def closedS (s : Sim) : Bool :=
  let n := countS s.log 7 s.now 0 1000
  if 1 < n then false else if (n == 1) != (s.m.st == 7) then false else n == 0 || lastB s.log

theorem firstS_lt (due : List Int) (t : Int) : ∀ k, firstS due t k < k
  | 0 => by simp [firstS]
  | k + 1 => by
    have := firstS_lt due t k
    unfold firstS; split <;> omega
theorem firstS_ge (due : List Int) (t : Int) : ∀ k, -1 ≤ firstS due t k
  | 0 => by simp [firstS]
  | k + 1 => by
    have := firstS_ge due t k
    unfold firstS; split <;> omega
/-- what is found is due -/
theorem firstS_due (due : List Int) (t : Int) : ∀ k, 0 ≤ firstS due t k → 0 ≤ due.getD (firstS due t k).toNat 0 ∧ due.getD (firstS due t k).toNat 0 ≤ t
  | 0, h => by simp [firstS] at h
  | k + 1, h => by
    have ih := firstS_due due t k
    unfold firstS at h ⊢
    split
    · rename_i hc
      simp only [Int.toNat_natCast]
      exact ⟨hc.1, hc.2.1⟩
    · rename_i hc
      rw [if_neg hc] at h
      exact ih h
theorem length_dueS (now : Int) (due : List Int) (o : Tout) : (dueS now due o).length = due.length := by
  unfold dueS; split <;> simp
end Go.Proofs.YtpbanfkjeiihbaaDoor
