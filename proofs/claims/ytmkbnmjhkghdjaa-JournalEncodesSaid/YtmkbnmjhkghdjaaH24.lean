/- The abstract machine with its reckoning set apart: what is asked of numbers and rows goes by 'F', so that it stays as it is written. -/
import Derived.Test.YtmkbnmjhkghdjaaH23
set_option linter.unusedVariables false
set_option linter.unusedSimpArgs false
namespace Go.Proofs.Ytmkbnmjhkghdjaa
open Go.RowKit

/-- The reckoning. -/
structure Pr where
  ar : BinOp → IntKind → Int → Int → Int
  un : UnOp → IntKind → Int → Int
  wr : IntKind → Int → Int
  cmp : BinOp → Int → Int → Bool
  nz : Int → Bool
  nn : Int → Bool
  ix : Int → Nat → Option Nat
  ixle : Int → Nat → Option Nat
  mn : Int → Int → Int
  mx : Int → Int → Int
  na : Nat → Nat → Nat
  nm : Nat → Nat → Nat
  ns : Nat → Nat → Nat
  nmin : Nat → Nat → Nat
  nle : Nat → Nat → Bool
  neq : Nat → Nat → Bool
  fit : Nat → Nat → Nat → Bool
  zi : Nat → Int
  tn : Int → Nat
  mks : Int → Int → Nat → Bool
  cell : List DV → Nat → Option DV
  cells : List DV → Nat → Nat → Option (List AV)
  cut : List DV → Nat → Nat → List DV
  spl : List DV → Nat → List DV → List DV
  app : List DV → List DV → List DV
  len : List DV → Nat
  rep : Nat → List DV → List DV
  emp : List DV → Bool
  ssz : ByteArray → Nat
  sbin : BinOp → ByteArray → ByteArray → Option Value
  seq : ByteArray → ByteArray → Bool
  sext : ByteArray → Nat → Nat → ByteArray
  sat : ByteArray → Int → Option AV
  sby : ByteArray → List DV
  sof : List DV → Option (List UInt8)
def real : Pr where
  ar op k a b := match op with
    | .shl => k.wrap (a * 2 ^ min b.toNat k.bits)
    | .shr => a.fdiv (2 ^ min b.toNat k.bits)
    | .add => k.wrap (a + b)
    | .sub => k.wrap (a - b)
    | .mul => k.wrap (a * b)
    | .quo => k.wrap (a.tdiv b)
    | .rem => a.tmod b
    | .and => k.wrap (BitVec.ofInt k.bits a &&& BitVec.ofInt k.bits b).toNat
    | .or => k.wrap (BitVec.ofInt k.bits a ||| BitVec.ofInt k.bits b).toNat
    | .xor => k.wrap (BitVec.ofInt k.bits a ^^^ BitVec.ofInt k.bits b).toNat
    | .andNot => k.wrap (BitVec.ofInt k.bits a &&& ~~~BitVec.ofInt k.bits b).toNat
    | _ => 0
  un op k n := match op with
    | .neg => k.wrap (0 - n)
    | .xor => k.wrap (BitVec.ofInt k.bits (if k.signed then -1 else k.max) ^^^ BitVec.ofInt k.bits n).toNat
    | _ => 0
  wr k n := k.wrap n
  cmp op a b := match op with
    | .eql => a == b
    | .neq => a != b
    | .lss => decide (a < b)
    | .leq => decide (a ≤ b)
    | .gtr => decide (a > b)
    | .geq => decide (a ≥ b)
    | _ => false
  nz b := decide (b = 0)
  nn b := decide (0 ≤ b)
  ix i n := if 0 ≤ i ∧ i < n then some i.toNat else none
  ixle i n := if 0 ≤ i ∧ i ≤ n then some i.toNat else none
  mn := minA
  mx := maxA
  na a b := a + b
  nm a b := a * b
  ns a b := a - b
  nmin := Nat.min
  nle a b := decide (a ≤ b)
  neq a b := decide (a = b)
  fit n m bytes := decide ((n + m) * bytes ≤ 140737488355328 ∧ n + m ≤ maxLen)
  zi n := n
  tn i := i.toNat
  mks n k bytes := decide (0 ≤ n ∧ n ≤ k ∧ k * bytes ≤ 140737488355328 ∧ k ≤ maxLen)
  cell cs o := cs[o]?
  cells := takeD
  cut cs a b := (cs.drop a).take b
  spl := splice
  app a b := a ++ b
  len cs := cs.length
  rep := repD
  emp cs := cs.isEmpty
  ssz s := s.size
  sbin op a b := match op with
    | .lss => some (.bool (Op.bytesLess a.toList b.toList))
    | .leq => some (.bool (Op.bytesLess a.toList b.toList || a.toList == b.toList))
    | .gtr => some (.bool !(Op.bytesLess a.toList b.toList || a.toList == b.toList))
    | .geq => some (.bool !(Op.bytesLess a.toList b.toList))
    | .add => if ((a.size + b.size : Nat) : Int) ≤ IntKind.i64.max then some (.string (a ++ b)) else none
    | _ => none
  seq a b := a.toList == b.toList
  sext s l h := s.extract l h
  sat s j := if 0 ≤ j then (match s.data.toList[j.toNat]? with
          | some b => some (aInt .u8 b.toNat)
          | none => none) else none
  sby s := bytesD s.data.toList
  sof := bytesOfD
section
variable (p : Pr)
def binP (op : BinOp) (x y : Value) : Option Value :=
  match op, x, y with
  | .shl, .int k a, .int _ b => bif p.nn b then some (.int k (p.ar .shl k a b)) else none
  | .shr, .int k a, .int _ b => bif p.nn b then some (.int k (p.ar .shr k a b)) else none
  | .add, .int k a, .int k' b => if k = k' then some (.int k (p.ar .add k a b)) else none
  | .sub, .int k a, .int k' b => if k = k' then some (.int k (p.ar .sub k a b)) else none
  | .mul, .int k a, .int k' b => if k = k' then some (.int k (p.ar .mul k a b)) else none
  | .quo, .int k a, .int k' b => if k = k' then (bif p.nz b then none else some (.int k (p.ar .quo k a b))) else none
  | .rem, .int k a, .int k' b => if k = k' then (bif p.nz b then none else some (.int k (p.ar .rem k a b))) else none
  | .and, .int k a, .int k' b => if k = k' then some (.int k (p.ar .and k a b)) else none
  | .or, .int k a, .int k' b => if k = k' then some (.int k (p.ar .or k a b)) else none
  | .xor, .int k a, .int k' b => if k = k' then some (.int k (p.ar .xor k a b)) else none
  | .andNot, .int k a, .int k' b => if k = k' then some (.int k (p.ar .andNot k a b)) else none
  | .eql, .int k a, .int k' b => if k = k' then some (.bool (p.cmp .eql a b)) else none
  | .neq, .int k a, .int k' b => if k = k' then some (.bool (p.cmp .neq a b)) else none
  | .lss, .int k a, .int k' b => if k = k' then some (.bool (p.cmp .lss a b)) else none
  | .leq, .int k a, .int k' b => if k = k' then some (.bool (p.cmp .leq a b)) else none
  | .gtr, .int k a, .int k' b => if k = k' then some (.bool (p.cmp .gtr a b)) else none
  | .geq, .int k a, .int k' b => if k = k' then some (.bool (p.cmp .geq a b)) else none
  | .eql, .string a, .string b => some (.bool (p.seq a b))
  | .neq, .string a, .string b => some (.bool !(p.seq a b))
  | .lss, .string a, .string b => p.sbin .lss a b
  | .leq, .string a, .string b => p.sbin .leq a b
  | .gtr, .string a, .string b => p.sbin .gtr a b
  | .geq, .string a, .string b => p.sbin .geq a b
  | .add, .string a, .string b => p.sbin .add a b
  | _, _, _ => none
def unP (op : UnOp) (x : Value) : Option Value :=
  match op, x with
  | .neg, .int k n => some (.int k (p.un .neg k n))
  | .not, .bool b => some (.bool !b)
  | .xor, .int k n => some (.int k (p.un .xor k n))
  | _, _ => none
def eqLeafP (k : AT) (x y : AV) : Option Bool :=
  match k, x, y with
  | .int _, .d (.val (.int k a)), .d (.val (.int k' b)) => if k = k' then some (p.cmp .eql a b) else none
  | .bool, .d (.val (.bool a)), .d (.val (.bool b)) => some (a == b)
  | .str, .d (.val (.string a)), .d (.val (.string b)) => some (p.seq a b)
  | _, _, _ => none
def eqAP (T : Ty) (q : Nat → Bool) : Nat → Nat → List AV → List AV → Option Bool
  | 0, _, _, _ => none
  | n + 1, t, xs, ys => match T t with
    | none => none
    | some i => match i.k with
      | .agg fs => if q t then eqFP T q (eqAP T q n) fs xs ys else none
      | _ => none
where eqFP (T : Ty) (q : Nat → Bool) (sub : Nat → List AV → List AV → Option Bool) : List (Nat × Nat) → List AV → List AV → Option Bool
  | [], _, _ => some true
  | (o, ft) :: fs, xs, ys => match T ft with
    | none => none
    | some fi => match (if fi.k.leaf then (match xs[o]?, ys[o]? with
        | some x, some y => eqLeafP p fi.k x y
        | _, _ => none) else sub ft ((xs.drop o).take fi.size) ((ys.drop o).take fi.size)), eqFP T q sub fs xs ys with
      | some a, some b => some (a && b)
      | _, _ => none

def idxP (x : AV) (n : Nat) : Option Nat :=
  match x with
  | .d (.val (.int _ i)) => p.ix i n
  | _ => none
def idxLeP (x : AV) (n : Nat) : Option Nat :=
  match x with
  | .d (.val (.int _ i)) => p.ixle i n
  | _ => none
def bndP (x : Option AV) (dflt n : Nat) : Option Nat :=
  match x with
  | none => some dflt
  | some v => idxLeP p v n
def effBP (T : Ty) (b : Builtin) (ts : List Nat) (args : List AV) : Option AV :=
  match b, args with
  | .len, [x] => match ts with
    | t :: _ => match T t with
      | some i => match i.k, x with
        | .str, .d (.val (.string s)) => some (aInt .i64 (p.zi (p.ssz s)))
        | .slice _, .d (.dl _ n _) => some (aInt .i64 (p.zi n))
        | .slice _, .d (.val (.slice none 0 0)) => some (aInt .i64 0)
        | .slice _, .sl _ _ n _ => some (aInt .i64 (p.zi n))
        | _, _ => none
      | none => none
    | [] => none
  | .min, .d (.val (.int k a)) :: l => (foldA p.mn k a l).map (aInt k)
  | .max, .d (.val (.int k a)) :: l => (foldA p.mx k a l).map (aInt k)
  | _, _ => none

/-- The bounds of a part of something of n elements: from, to, and where the capacity ends, if it is said. -/
def bndsP (n : Nat) (lo hi mx : Option AV) : Option (Nat × Nat × Option Nat) :=
  match mx with
  | none => match bndP p hi n n with
    | none => none
    | some h => match bndP p lo 0 h with
      | none => none
      | some l => some (l, h, none)
  | some mv => match hi with
    | none => none
    | some hv => match idxLeP p mv n with
      | none => none
      | some m => match idxLeP p hv m with
        | none => none
        | some h => match bndP p lo 0 h with
          | none => none
          | some l => some (l, h, some m)
def capP (cap m : Option Nat) (l : Nat) : Option Nat :=
  match m with
  | none => cap.map fun c => p.ns c l
  | some m => some (p.ns m l)
def sliceP (size : Nat) (x : AV) (lo hi mx : Option AV) : Option AV :=
  match x with
  | .d (.val (.string s)) => match mx with
    | some _ => none
    | none => match bndsP p (p.ssz s) lo hi none with
      | some (l, h, _) => some (.d (.val (.string (p.sext s l h))))
      | none => none
  | .d (.val (.slice none 0 0)) => match bndsP p 0 lo hi mx with
    | some _ => some (.d (.val (.slice none 0 0)))
    | none => none
  | .d (.dl cells n cap) => match bndsP p n lo hi mx with
    | some (l, h, m) => some (.d (.dl (p.cut cells (p.nm l size) (p.nm (p.ns h l) size)) (p.ns h l) (capP p cap m l)))
    | none => none
  | .sl r off n cap => match bndsP p n lo hi mx with
    | some (l, h, m) => some (.sl r (p.na off (p.nm l size)) (p.ns h l) (capP p cap m l))
    | none => none
  | _ => none

def nilP (lk : Nat → Option AK) : AV → Option (Option Bool)
  | .d (.val (.slice none 0 0)) => some (some true)
  | .d (.dl cells _ _) => bif p.emp cells then some none else some (some false)
  | .sl r _ n _ => match lk r with
    | some (.data _) => bif p.neq n 0 then some none else some (some false)
    | _ => none
  | _ => none
/-- An address in a row (a), in a variable (b). -/
def livePt (lk : Nat → Option AK) (r a b : Nat) : Option AV := match lk r with | some (.data _) => some (.ptr r a) | some .mix => some (.ptr r b) | _ => none
/-- What an operation gives that looks into no object ('lk': of what kind is an object?). -/
def effQP (T : Ty) (q : Nat → Bool) (lk : Nat → Option AK) (o : Oper) (ρ : Operand → AV) : Option AV :=
  match o.op with
  | .move x => some (ρ x)
  | .assign x => some (ρ x)
  | .pick c a b => match ρ c with
    | .d (.val (.bool c)) => match ρ a, ρ b with
      | .d (.val (.bool a)), .d (.val (.bool b)) => some (aBool (bif c then a else b))
      | _, _ => some (bif c then ρ a else ρ b)
    | _ => none
  | .build t parts => match T t with
    | none => none
    | some i => if (parts.toList.all fun (_, x) => isV lk (ρ x)) = false then none else match i.k with
      | .agg fs => match placesA T fs with
        | some pl => (fillA (fun j => pl[j]?) (i.zero.map .d) (parts.toList.map fun (j, x) => (j, ρ x))).map .agg
        | none => none
      | .arr n e => match T e with
        | some ei => (fillA (fun j => some (j * ei.size, ei.size)) (i.zero.map .d) (parts.toList.map fun (j, x) => (j, ρ x))).map .agg
        | none => none
      | _ => none
  | .nilCheck x => match ρ x with
    | .ptr r off => if liveK lk r then some (.ptr r off) else none
    | .dptr cells off => some (.dptr cells off)
    | .clo f caps => some (.clo f caps)
    | _ => none
  | .binOp op t x y _ => match ρ x, ρ y with
    | .d (.val (.bool a)), .d (.val (.bool b)) => match T t with
      | some i => match i.k, op with
        | .bool, .eql => some (aBool (a == b))
        | .bool, .neq => some (aBool (a != b))
        | _, _ => none
      | none => none
    | v, .d (.val (.slice none 0 0)) => match nilP p lk v, T t with
      | some b, some i => match i.k, op with
        | .slice _, .eql => some (abO b)
        | .slice _, .neq => some (abO (b.map fun b => !b))
        | _, _ => none
      | _, _ => none
    | .d (.val a), .d (.val b) => (binP p op a b).map fun v => .d (.val v)
    | .agg xs, .agg ys => match op with
      | .eql => (eqAP p T q 20 t xs ys).map aBool
      | .neq => (eqAP p T q 20 t xs ys).map fun b => aBool !b
      | _ => none
    | _, _ => none
  | .unOp op _ x => match ρ x with
    | .d (.val a) => (unP p op a).map fun v => .d (.val v)
    | _ => none
  | .convert src dst x => match T src, T dst with
    | some si, some di => match si.k, di.k, ρ x with
      | .int _, .int k, .d (.val (.int _ n)) => some (aInt k (p.wr k n))
      | .str, .str, .d (.val (.string s)) => some (.d (.val (.string s)))
      | _, _, _ => none
    | _, _ => none
  | .makeFunc fn first caps => match fn with
    | .func f => if Nat.blt f 1048576 = true then some (.clo (f + 1048576 * first.size) (first.toList.map ρ ++ caps.toList.map ρ)) else none
    | _ => none
  | .fieldAddr t x j => match T t with
    | some i => match i.k with
      | .agg fs => match fs[j]? with
        | some (fo, ft) => match T ft with
          | some fi => if fi.size = 0 then none else match ρ x with
            | .ptr r off => livePt lk r (p.na off fo) (off + fo)
            | .dptr cells off => some (.dptr cells (p.na off fo))
            | _ => none
          | none => none
        | none => none
      | _ => none
    | none => none
  | .field t x j => match T t with
    | some i => match i.k with
      | .agg fs => match fs[j]? with
        | some (fo, ft) => match T ft with
          | some fi => match ρ x with
            | .agg cs => partA fi cs fo
            | _ => none
          | none => none
        | none => none
      | _ => none
    | none => none
  | .indexAddr t x ix => match T t with
    | some i => match i.k with
      | .arr n e => match T e with
        | some ei => match idxP p (ρ ix) n with
          | some j => match ρ x with
            | .ptr r off => livePt lk r (p.na off (p.nm j ei.size)) (off + j * ei.size)
            | .dptr cells off => some (.dptr cells (p.na off (p.nm j ei.size)))
            | _ => none
          | none => none
        | none => none
      | .slice e => match T e with
        | some ei => match ρ x with
          | .sl r off n cap => match idxP p (ρ ix) n with
            | some j => if liveK lk r then some (.ptr r (p.na off (p.nm j ei.size))) else none
            | none => none
          | .d (.dl cells n cap) => match idxP p (ρ ix) n with
            | some j => bif p.emp cells then none else some (.dptr cells (p.nm j ei.size))
            | none => none
          | _ => none
        | none => none
      | _ => none
    | none => none
  | .index t x ix => match T t with
    | some i => match i.k with
      | .arr n e => match T e with
        | some ei => match idxP p (ρ ix) n, ρ x with
          | some j, .agg cs => partA ei cs (j * ei.size)
          | _, _ => none
        | none => none
      | .str => match ρ x, ρ ix with
        | .d (.val (.string s)), .d (.val (.int _ j)) => p.sat s j
        | _, _ => none
      | _ => none
    | none => none
  | .slice t x lo hi mx => match T t with
    | some i => match i.k with
      | .slice e => match T e with
        | some ei => match ρ x with
          | .sl r off n cap => match lk r with
            | some (.data s) => if s = ei.size then sliceP p ei.size (.sl r off n cap) (lo.map ρ) (hi.map ρ) (mx.map ρ) else none
            | _ => none
          | .d (.val (.slice none 0 0)) => sliceP p ei.size (.d (.val (.slice none 0 0))) (lo.map ρ) (hi.map ρ) (mx.map ρ)
          | .d (.dl cells n cap) => sliceP p ei.size (.d (.dl cells n cap)) (lo.map ρ) (hi.map ρ) (mx.map ρ)
          | _ => none
        | none => none
      | .str => match ρ x with
        | .d (.val (.string s)) => sliceP p 0 (.d (.val (.string s))) (lo.map ρ) (hi.map ρ) (mx.map ρ)
        | _ => none
      | _ => none
    | none => none
  | .extract x j => match ρ x with
    | .tup vs => vs[j]?
    | _ => none
  | .call c => match c.callee with
    | .builtin b => if c.args.toList.all (fun x => slLive lk (ρ x)) then effBP p T b c.argTypes.toList (c.args.toList.map ρ) else none
    | _ => none
  | _ => none
def toDP (rd : Nat → Option AO) : AV → Option (DV × List (Nat × AO))
  | .d x => some (x, [])
  | .sl r off n cap => match rd r with
    | some (.data e s cs _) => some (.dl (p.cut cs off (p.nm n s)) n cap, [(r, .data e s cs false)])
    | _ => none
  | _ => none
def allDP (rd : Nat → Option AO) : List AV → Option (List DV × List (Nat × AO))
  | [] => some ([], [])
  | x :: xs => match toDP p rd x, allDP rd xs with
    | some (y, u), some (ys, us) => some (y :: ys, u ++ us)
    | _, _ => none
def loadP (i : TI) (cs : List DV) (off : Nat) : Option AV :=
  if i.k.isAgg then (p.cells cs off i.size).map .agg else (p.cell cs off).map .d
def srcP (rd : Nat → Option AO) (s : Nat) : AV → Option (List DV × Nat)
  | .d (.val (.slice none 0 0)) => some ([], 0)
  | .d (.dl cells n _) => bif p.neq (p.len cells) (p.nm n s) then some (cells, n) else none
  | .sl r off n _ => match rd r with
    | some (.data _ s' cs _) => if s' = s then (bif p.nle (p.na off (p.nm n s)) (p.len cs) then some (p.cut cs off (p.nm n s), n) else none) else none
    | _ => none
  | .d (.val (.string b)) => if s = 1 then some (p.sby b, p.ssz b) else none
  | _ => none
def newP (rd : Nat → Option AO) (slot e s bytes m : Nat) (cells : List DV) (n : Nat) (old : List DV) : Option (AV × List (Nat × AO)) :=
  if (rd slot).isSome then none else bif p.fit n m bytes then some (.sl slot 0 (p.na n m) none, [(slot, .data e s (p.app old cells) true)]) else none
def effAppendP (rd : Nat → Option AO) (slot e s bytes : Nat) (x : AV) (cells : List DV) (m : Nat) : Option (AV × List (Nat × AO)) :=
  match x with
  | .d (.val (.slice none 0 0)) => newP p rd slot e s bytes m cells 0 []
  | .d (.dl cs n (some c)) => bif p.neq c n then (bif p.neq n 0 then newP p rd slot e s bytes m cells 0 [] else bif p.neq m 0 then some (x, []) else bif p.neq (p.len cs) (p.nm n s) then newP p rd slot e s bytes m cells n cs else none) else none
  | .sl r off n (some c) => match rd r with
    | some (.data e' s' cs wr) => if e' = e ∧ s' = s then
        (bif p.neq c n then (bif p.neq n 0 then newP p rd slot e s bytes m cells 0 [] else bif p.neq m 0 then some (x, []) else bif p.nle (p.na off (p.nm n s)) (p.len cs) then newP p rd slot e s bytes m cells n (p.cut cs off (p.nm n s)) else none)
         else if wr = true then (bif p.neq off 0 then bif p.nle (p.na n m) c then bif p.nle (p.nm (p.na n m) s) (p.len cs) then some (.sl r 0 (p.na n m) (some c), [(r, .data e s (p.spl cs (p.nm n s) cells) true)]) else none else none else none) else none) else none
    | _ => none
  | .sl r off n none => match rd r with
    | some (.data e' s' cs wr) => if e' = e ∧ s' = s then
        (bif p.neq off 0 then if wr = true then (bif p.neq (p.nm n s) (p.len cs) then (match newP p rd slot e s bytes m cells n cs with | some (v, u) => some (v, u ++ [(r, .dead)]) | none => none)
           else bif p.nle (p.nm (p.na n m) s) (p.len cs) then some (.sl r 0 (p.na n m) none, [(r, .data e s (p.spl cs (p.nm n s) cells) true)]) else none) else none else none) else none
    | _ => none
  | _ => none
/-- What an operation does that looks into objects. -/
def effHP (T : Ty) (rd : Nat → Option AO) (slot : Nat) (o : Oper) (ρ : Operand → AV) : Option (AV × List (Nat × AO)) :=
  match o.op with
  | .alloc t => match T t with
    | some i => if (rd slot).isSome then none else some (.ptr slot 0, [(slot, .mix (i.zero.map .d))])
    | none => none
  | .box t x => if (rd slot).isSome then none else if isV (kinds rd) (ρ x) then some (.ptr slot 0, [(slot, .mix (ρ x).cellsOf)]) else none
  | .buildSlice t n parts => match T t with
    | some i => match i.k with
      | .slice e => match T e with
        | some ei => if (rd slot).isSome ∨ n * ei.size > 1000 ∨ ei.size = 0 ∨ (parts.toList.all fun (_, x) => isV (kinds rd) (ρ x)) = false then none else
          match fillA (fun j => some (j * ei.size, ei.size)) ((repD n ei.zero).map .d) (parts.toList.map fun (j, x) => (j, ρ x)) with
          | some cells => match allDP p rd cells with
            | some (cs, us) => some (.sl slot 0 n (some n), (slot, .data e ei.size cs true) :: us)
            | none => none
          | none => none
        | none => none
      | _ => none
    | none => none
  | .load t x => match T t with
    | some i => match ρ x with
      | .ptr r off => match rd r with
        | some (.data _ _ cs _) => loadP p i cs off |>.map fun v => (v, [])
        | some (.mix cs) => partA i cs off |>.map fun v => (v, [])
        | _ => none
      | .dptr cells off => bif p.emp cells then none else loadP p i cells off |>.map fun v => (v, [])
      | _ => none
    | none => none
  | .store t x y => match T t with
    | some i => match ρ x with
      | .ptr r off => let new := (ρ y).cellsOf
        match rd r with
        | some (.mix cs) => if new.length = i.size ∧ off + i.size ≤ cs.length ∧ isV (kinds rd) (ρ y) ∧ new.all (okCell rd) then some (.undef, [(r, .mix (splice cs off new))]) else none
        | some (.data e s cs true) => match allDP p rd new with
          | some (ns, us) => if new.length = i.size then (bif p.nle (p.na off i.size) (p.len cs) then (if isV (kinds rd) (ρ y) ∧ us.all (fun u => u.1 != r) then some (.undef, (r, .data e s (p.spl cs off ns) true) :: us) else none) else none) else none
          | none => none
        | _ => none
      | _ => none
    | none => none
  | .makeSlice t l c => match T t with
    | some i => match i.k with
      | .slice e => match T e with
        | some ei => match ρ l, ρ c with
          | .d (.val (.int _ n)), .d (.val (.int _ k)) => if (rd slot).isSome then none else
            bif p.mks n k ei.bytes then (if 0 < ei.size then some (.sl slot 0 (p.tn n) (some (p.tn k)), [(slot, .data e ei.size (p.rep (p.tn k) ei.zero) true)]) else none) else none
          | _, _ => none
        | none => none
      | _ => none
    | none => none
  | .convert src dst x => match T src, T dst with
    | some si, some di => match si.k, di.k with
      | .slice e, .str => if isStr (ρ x) || !(u8Of (T e)) then none else match srcP p rd 1 (ρ x) with
        | some (cells, _) => match p.sof cells with
          | some l => some (.d (.val (.string ⟨l.toArray⟩)), [])
          | none => none
        | none => none
      | .slice _, .slice e => if src = dst ∧ u8Of (T e) = true then (match ρ x with
        | .sl r off n cap => match rd r with
          | some (.data _ s cs true) => if s = 1 ∧ 0 < n then some (.d (.dl (p.cut cs off n) n cap), [(r, .dead)]) else none
          | _ => none
        | _ => none) else none
      | _, _ => none
    | _, _ => none
  | .call c => match c.callee with
    | .builtin .append => match c.args.toList.map ρ, (c.argTypes[0]?).bind T, (c.argTypes[1]?).bind T with
      | [x, y], some i, some j => if j.k.srcOk then match i.k with
        | .slice e => match T e with
          | some ei => match srcP p rd ei.size y with
            | some (cells, m) => if 0 < ei.size then effAppendP p rd slot e ei.size ei.bytes x cells m else none
            | none => none
          | none => none
        | _ => none
        else none
      | _, _, _ => none
    | .builtin .copy => match c.args.toList.map ρ, (c.argTypes[0]?).bind T with
      | [.sl r off n cap, y], some i => match i.k with
        | .slice e => match T e with
          | some ei => match srcP p rd ei.size y, rd r with
            | some (cells, m), some (.data e' s cs true) => if s = ei.size then (bif p.nle (p.na off (p.nm n s)) (p.len cs) then some (aInt .i64 (p.zi (p.nmin m n)), [(r, .data e' s (p.spl cs off (p.cut cells 0 (p.nm (p.nmin m n) s))) true)]) else none) else none
            | _, _ => none
          | none => none
        | _ => none
      | _, _ => none
    | _ => none
  | _ => none

/-- The whole effect of an operation that calls no function. -/
def effP (T : Ty) (q : Nat → Bool) (rd : Nat → Option AO) (slot : Nat) (o : Oper) (ρ : Operand → AV) : Option Eff :=
  let rs := o.op.operands.toList.flatMap fun x => (ρ x).refs
  match effQP p T q (kinds (restrict rs rd)) o ρ with
  | some v => some ⟨v, [], [], rs⟩
  | none => match effHP p T (restrict (slot :: rs) rd) slot o ρ with
    | some (v, u) => some ⟨v, u, slot :: rs, []⟩
    | none => none

end
end Go.Proofs.Ytmkbnmjhkghdjaa
