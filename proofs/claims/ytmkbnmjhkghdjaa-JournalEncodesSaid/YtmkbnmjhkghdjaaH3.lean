/- The abstract machine: operations that look into objects; a region. -/
import Derived.Test.YtmkbnmjhkghdjaaH2
set_option linter.unusedVariables false
set_option linter.unusedSimpArgs false
namespace Go.Proofs.Ytmkbnmjhkghdjaa
open Go.RowKit

/-- What an operation does: its value; which objects it leaves how; which it looked into; of which it only asked the kind. -/
structure Eff where
  v : AV
  upd : List (Nat × AO)
  rds : List Nat
  lvs : List Nat

/-- The refs that a value names. -/
def AV.refs : AV → List Nat
  | .ptr r _ => [r]
  | .sl r _ _ _ => [r]
  | .agg cs => refsL cs
  | .tup cs => refsL cs
  | .clo _ cs => refsL cs
  | _ => []
where refsL : List AV → List Nat
  | [] => []
  | x :: xs => x.refs ++ refsL xs

/-- A value of one cell, as data; a row of the call's own is then no longer to be written. -/
def toDV (rd : Nat → Option AO) : AV → Option (DV × List (Nat × AO))
  | .d x => some (x, [])
  | .sl r off n cap => match rd r with
    | some (.data e s cs _) => some (.dl ((cs.drop off).take (n * s)) n cap, [(r, .data e s cs false)])
    | _ => none
  | _ => none
def allDV (rd : Nat → Option AO) : List AV → Option (List DV × List (Nat × AO))
  | [] => some ([], [])
  | x :: xs => match toDV rd x, allDV rd xs with
    | some (y, u), some (ys, us) => some (y :: ys, u ++ us)
    | _, _ => none
def kinds (rd : Nat → Option AO) : Nat → Option AK := fun r => (rd r).map AO.kind
/-- Does it stand for a value of one cell? -/
def okCell (rd : Nat → Option AO) : AV → Bool
  | .agg _ => false
  | x => isV (kinds rd) x
def takeD : List DV → Nat → Nat → Option (List AV)
  | _, _, 0 => some []
  | cs, off, n + 1 => match cs[off]?, takeD cs (off + 1) n with
    | some x, some l => some (.d x :: l)
    | _, _ => none
def loadD (i : TI) (cs : List DV) (off : Nat) : Option AV :=
  if i.k.isAgg then (takeD cs off i.size).map .agg else (cs[off]?).map .d
def repD : Nat → List DV → List DV
  | 0, _ => []
  | n + 1, z => z ++ repD n z
def bytesD (s : List UInt8) : List DV := s.map fun b => .val (.int .u8 b.toNat)
def AT.srcOk : AT → Bool
  | .slice _ => true
  | .str => true
  | _ => false
/-- What is appended or copied: its cells, how many elements, which objects were looked into. -/
def srcA (rd : Nat → Option AO) (s : Nat) : AV → Option (List DV × Nat)
  | .d (.val (.slice none 0 0)) => some ([], 0)
  | .d (.dl cells n _) => if cells.length = n * s then some (cells, n) else none
  | .sl r off n _ => match rd r with
    | some (.data _ s' cs _) => if s' = s ∧ off + n * s ≤ cs.length then some ((cs.drop off).take (n * s), n) else none
    | _ => none
  | .d (.val (.string b)) => if s = 1 then some (bytesD b.data.toList, b.size) else none
  | _ => none
def newA (rd : Nat → Option AO) (slot e s bytes m : Nat) (cells : List DV) (n : Nat) (old : List DV) : Option (AV × List (Nat × AO)) :=
  if (rd slot).isSome then none else if (n + m) * bytes ≤ 140737488355328 ∧ n + m ≤ maxLen then some (.sl slot 0 (n + m) none, [(slot, .data e s (old ++ cells) true)]) else none
def effAppend (rd : Nat → Option AO) (slot e s bytes : Nat) (x : AV) (cells : List DV) (m : Nat) : Option (AV × List (Nat × AO)) :=
  match x with
  | .d (.val (.slice none 0 0)) => newA rd slot e s bytes m cells 0 []
  | .d (.dl cs n (some c)) => if c = n then (if n = 0 then newA rd slot e s bytes m cells 0 [] else if m = 0 then some (x, []) else if cs.length = n * s then newA rd slot e s bytes m cells n cs else none) else none
  | .sl r off n (some c) => match rd r with
    | some (.data e' s' cs wr) => if e' = e ∧ s' = s then
        (if c = n then (if n = 0 then newA rd slot e s bytes m cells 0 [] else if m = 0 then some (x, []) else if off + n * s ≤ cs.length then newA rd slot e s bytes m cells n ((cs.drop off).take (n * s)) else none)
         else if wr ∧ off = 0 ∧ n + m ≤ c ∧ (n + m) * s ≤ cs.length then some (.sl r 0 (n + m) (some c), [(r, .data e s (splice cs (n * s) cells) true)]) else none) else none
    | _ => none
  | .sl r off n none => match rd r with
    | some (.data e' s' cs wr) => if e' = e ∧ s' = s ∧ off = 0 ∧ wr then
        (if n * s = cs.length then (match newA rd slot e s bytes m cells n cs with | some (v, u) => some (v, u ++ [(r, .dead)]) | none => none)
         else if (n + m) * s ≤ cs.length then some (.sl r 0 (n + m) none, [(r, .data e s (splice cs (n * s) cells) true)]) else none) else none
    | _ => none
  | _ => none
def u8D : DV → Option UInt8
  | .val (.int .u8 n) => some (UInt8.ofNat n.toNat)
  | _ => none
def bytesOfD : List DV → Option (List UInt8)
  | [] => some []
  | x :: xs => match u8D x, bytesOfD xs with
    | some b, some l => some (b :: l)
    | _, _ => none

def u8Of : Option TI → Bool
  | some ei => match ei.k with
    | .int .u8 => true
    | _ => false
  | none => false
def isStr : AV → Bool
  | .d (.val (.string _)) => true
  | _ => false
/-- What an operation does that looks into objects. -/
def effH (T : Ty) (rd : Nat → Option AO) (slot : Nat) (o : Oper) (ρ : Operand → AV) : Option (AV × List (Nat × AO)) :=
  match o.op with
  | .alloc t => match T t with
    | some i => if (rd slot).isSome then none else some (.ptr slot 0, [(slot, .mix (i.zero.map .d))])
    | none => none
  | .box t x => if (rd slot).isSome then none else if isV (kinds rd) (ρ x) then some (.ptr slot 0, [(slot, .mix (ρ x).cellsOf)]) else none
  | .buildSlice t n parts => match T t with
    | some i => match i.k with
      | .slice e => match T e with
        | some ei => if (rd slot).isSome ∨ n * ei.size > 1000 ∨ ei.size = 0 ∨ (parts.toList.all fun (_, x) => isV (kinds rd) (ρ x)) = false then none else
          match fillA (fun j => some (j * ei.size, ei.size)) ((repD n ei.zero).map .d) (parts.toList.map fun (j, x) => (j, ρ x)) with
          | some cells => match allDV rd cells with
            | some (cs, us) => some (.sl slot 0 n (some n), (slot, .data e ei.size cs true) :: us)
            | none => none
          | none => none
        | none => none
      | _ => none
    | none => none
  | .load t x => match T t with
    | some i => match ρ x with
      | .ptr r off => match rd r with
        | some (.data _ _ cs _) => loadD i cs off |>.map fun v => (v, [])
        | some (.mix cs) => partA i cs off |>.map fun v => (v, [])
        | _ => none
      | .dptr cells off => if cells.isEmpty then none else loadD i cells off |>.map fun v => (v, [])
      | _ => none
    | none => none
  | .store t x y => match T t with
    | some i => match ρ x with
      | .ptr r off => let new := (ρ y).cellsOf
        match rd r with
        | some (.mix cs) => if new.length = i.size ∧ off + i.size ≤ cs.length ∧ isV (kinds rd) (ρ y) ∧ new.all (okCell rd) then some (.undef, [(r, .mix (splice cs off new))]) else none
        | some (.data e s cs true) => match allDV rd new with
          | some (ns, us) => if new.length = i.size ∧ off + i.size ≤ cs.length ∧ isV (kinds rd) (ρ y) ∧ us.all (fun u => u.1 != r) then some (.undef, (r, .data e s (splice cs off ns) true) :: us) else none
          | none => none
        | _ => none
      | _ => none
    | none => none
  | .makeSlice t l c => match T t with
    | some i => match i.k with
      | .slice e => match T e with
        | some ei => match ρ l, ρ c with
          | .d (.val (.int _ n)), .d (.val (.int _ k)) => if (rd slot).isSome then none else
            if 0 ≤ n ∧ n ≤ k ∧ k * ei.bytes ≤ 140737488355328 ∧ k ≤ maxLen ∧ 0 < ei.size then some (.sl slot 0 n.toNat (some k.toNat), [(slot, .data e ei.size (repD k.toNat ei.zero) true)]) else none
          | _, _ => none
        | none => none
      | _ => none
    | none => none
  | .convert src dst x => match T src, T dst with
    | some si, some di => match si.k, di.k with
      | .slice e, .str => if isStr (ρ x) || !(u8Of (T e)) then none else match srcA rd 1 (ρ x) with
        | some (cells, _) => match bytesOfD cells with
          | some l => some (.d (.val (.string ⟨l.toArray⟩)), [])
          | none => none
        | none => none
      | .slice _, .slice e => if src = dst ∧ u8Of (T e) = true then (match ρ x with
        | .sl r off n cap => match rd r with
          | some (.data _ s cs true) => if s = 1 ∧ 0 < n then some (.d (.dl ((cs.drop off).take n) n cap), [(r, .dead)]) else none
          | _ => none
        | _ => none) else none
      | _, _ => none
    | _, _ => none
  | .call c => match c.callee with
    | .builtin .append => match c.args.toList.map ρ, (c.argTypes[0]?).bind T, (c.argTypes[1]?).bind T with
      | [x, y], some i, some j => if j.k.srcOk then match i.k with
        | .slice e => match T e with
          | some ei => match srcA rd ei.size y with
            | some (cells, m) => if 0 < ei.size then effAppend rd slot e ei.size ei.bytes x cells m else none
            | none => none
          | none => none
        | _ => none
        else none
      | _, _, _ => none
    | .builtin .copy => match c.args.toList.map ρ, (c.argTypes[0]?).bind T with
      | [.sl r off n cap, y], some i => match i.k with
        | .slice e => match T e with
          | some ei => match srcA rd ei.size y, rd r with
            | some (cells, m), some (.data e' s cs true) => if s = ei.size ∧ off + n * s ≤ cs.length then some (aInt .i64 (Nat.min m n), [(r, .data e' s (splice cs off (cells.take (Nat.min m n * s))) true)]) else none
            | _, _ => none
          | none => none
        | _ => none
      | _, _ => none
    | _ => none
  | _ => none

def restrict (rs : List Nat) (rd : Nat → Option AO) : Nat → Option AO := fun r => if rs.contains r then rd r else none
/-- The whole effect of an operation that calls no function. -/
def eff (T : Ty) (q : Nat → Bool) (rd : Nat → Option AO) (slot : Nat) (o : Oper) (ρ : Operand → AV) : Option Eff :=
  let rs := o.op.operands.toList.flatMap fun x => (ρ x).refs
  match effQ T q (kinds (restrict rs rd)) o ρ with
  | some v => some ⟨v, [], [], rs⟩
  | none => match effH T (restrict (slot :: rs) rd) slot o ρ with
    | some (v, u) => some ⟨v, u, slot :: rs, []⟩
    | none => none

/-- A state: temporaries, objects (the newest first). -/
structure SL where
  n : Nat
  tm : List (Nat × AV)
  hp : List (Nat × AO)
def look {α : Type} (k : Nat) : List (Nat × α) → Option α
  | [] => none
  | (i, x) :: l => if i = k then some x else look k l
def SL.get (s : SL) (t : Nat) : AV := match look t s.tm with | some x => x | none => .junk
def SL.rd (s : SL) (r : Nat) : Option AO := look r s.hp
def SL.put (s : SL) (d : Option Nat) (v : AV) : SL := match d with | some t => { s with tm := (t, v) :: s.tm } | none => s
/-- Is the operation carried out? -/
def wantedL (ops : Array Oper) (s : SL) (o : Oper) : Option Bool :=
  match o.guard with
  | none => some true
  | some (j, want) => match (ops[j]?).bind (·.dst) with
    | none => some false
    | some t => match s.get t with
      | .d (.val (.bool b)) => some (b == want)
      | .undef => some false
      | _ => none
end Go.Proofs.Ytmkbnmjhkghdjaa
