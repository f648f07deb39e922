/- The abstract machine: operations that neither read nor write what an object holds. -/
import Derived.Test.YtmkbnmjhkghdjaaH1
set_option linter.unusedVariables false
set_option linter.unusedSimpArgs false
namespace Go.Proofs.Ytmkbnmjhkghdjaa
open Go.RowKit

/-- What is asked of a type. -/
inductive AT where
  | int (k : IntKind) | bool | str
  | agg (fs : List (Nat × Nat))
  | arr (n e : Nat)
  | slice (e : Nat) | ptr (e : Nat) | map (k e : Nat) | fn | iface | other
structure TI where
  size : Nat
  bytes : Nat
  k : AT
  zero : List DV
abbrev Ty := Nat → Option TI
def atOf : TypeDesc → AT
  | .int k => .int k
  | .bool => .bool
  | .string => .str
  | .struct fs => .agg (fs.toList.map fun f => (f.offset, f.type))
  | .array n e => .arr n e
  | .slice e => .slice e
  | .pointer e => .ptr e
  | .map k e => .map k e
  | .func _ _ _ => .fn
  | .interface _ => .iface
  | _ => .other
def tiOf (P : Program) (t : Nat) : Option TI :=
  match P.info? t, P.underlying t with
  | some i, some d => match i.zero with
    | some z => if z.cells.toList.all (·.oneCell') && z.cells.toList.length == i.size then some ⟨i.size, i.bytes, atOf d, z.cells.toList.map .val⟩ else none
    | none => none
  | _, _ => none
/-- Is a type's value a struct or an array? -/
def AT.isAgg : AT → Bool
  | .agg _ => true
  | .arr _ _ => true
  | _ => false

def aBool (b : Bool) : AV := .d (.val (.bool b))
def aInt (k : IntKind) (n : Int) : AV := .d (.val (.int k n))
/-- Parts laid over cells. -/
def splice {α : Type} : List α → Nat → List α → List α
  | l, 0, new => new ++ l.drop new.length
  | [], _ + 1, _ => []
  | x :: l, o + 1, new => x :: splice l o new
def AV.cellsOf : AV → List AV
  | .agg cs => cs
  | x => [x]
/-- What is asked of an object without looking into it. -/
inductive AK where
  | data (s : Nat) | mix | dead
def AO.kind : AO → AK
  | .data _ s _ _ => .data s
  | .mix _ => .mix
  | .dead => .dead
def liveK (lk : Nat → Option AK) (r : Nat) : Bool := match lk r with | some .dead => false | some _ => true | none => false
/-- A value that is surely known, of one cell or several. -/
def isV (lk : Nat → Option AK) : AV → Bool
  | .agg _ => true
  | .d _ => true
  | .dptr _ _ => true
  | .clo _ _ => true
  | .ptr r _ => liveK lk r
  | .sl r _ _ _ => liveK lk r
  | _ => false
def fillA (place : Nat → Option (Nat × Nat)) : List AV → List (Nat × AV) → Option (List AV)
  | cs, [] => some cs
  | cs, (i, v) :: rest => match place i with
    | none => none
    | some (off, size) => if v.cellsOf.length = size ∧ off + size ≤ cs.length then fillA place (splice cs off v.cellsOf) rest else none
/-- A part of cells, as a value of the type. -/
def partA (i : TI) (cs : List AV) (off : Nat) : Option AV :=
  if i.k.isAgg then if off + i.size ≤ cs.length then some (.agg ((cs.drop off).take i.size)) else none else cs[off]?

def placesA (T : Ty) : List (Nat × Nat) → Option (List (Nat × Nat))
  | [] => some []
  | (o, ft) :: l => match T ft, placesA T l with
    | some fi, some r => some ((o, fi.size) :: r)
    | _, _ => none
def binV (op : BinOp) (x y : Value) : Option Value :=
  match op, x, y with
  | .shl, .int k a, .int _ b => if 0 ≤ b then some (.int k (k.wrap (a * 2 ^ min b.toNat k.bits))) else none
  | .shr, .int k a, .int _ b => if 0 ≤ b then some (.int k (a.fdiv (2 ^ min b.toNat k.bits))) else none
  | .add, .int k a, .int k' b => if k = k' then some (.int k (k.wrap (a + b))) else none
  | .sub, .int k a, .int k' b => if k = k' then some (.int k (k.wrap (a - b))) else none
  | .mul, .int k a, .int k' b => if k = k' then some (.int k (k.wrap (a * b))) else none
  | .quo, .int k a, .int k' b => if k = k' then (if b = 0 then none else some (.int k (k.wrap (a.tdiv b)))) else none
  | .rem, .int k a, .int k' b => if k = k' then (if b = 0 then none else some (.int k (a.tmod b))) else none
  | .and, .int k a, .int k' b => if k = k' then some (.int k (k.wrap (BitVec.ofInt k.bits a &&& BitVec.ofInt k.bits b).toNat)) else none
  | .or, .int k a, .int k' b => if k = k' then some (.int k (k.wrap (BitVec.ofInt k.bits a ||| BitVec.ofInt k.bits b).toNat)) else none
  | .xor, .int k a, .int k' b => if k = k' then some (.int k (k.wrap (BitVec.ofInt k.bits a ^^^ BitVec.ofInt k.bits b).toNat)) else none
  | .andNot, .int k a, .int k' b => if k = k' then some (.int k (k.wrap (BitVec.ofInt k.bits a &&& ~~~BitVec.ofInt k.bits b).toNat)) else none
  | .eql, .int k a, .int k' b => if k = k' then some (.bool (a == b)) else none
  | .neq, .int k a, .int k' b => if k = k' then some (.bool (a != b)) else none
  | .lss, .int k a, .int k' b => if k = k' then some (.bool (decide (a < b))) else none
  | .leq, .int k a, .int k' b => if k = k' then some (.bool (decide (a ≤ b))) else none
  | .gtr, .int k a, .int k' b => if k = k' then some (.bool (decide (a > b))) else none
  | .geq, .int k a, .int k' b => if k = k' then some (.bool (decide (a ≥ b))) else none
  | .eql, .string a, .string b => some (.bool (a.toList == b.toList))
  | .neq, .string a, .string b => some (.bool !(a.toList == b.toList))
  | .lss, .string a, .string b => some (.bool (Op.bytesLess a.toList b.toList))
  | .leq, .string a, .string b => some (.bool (Op.bytesLess a.toList b.toList || a.toList == b.toList))
  | .gtr, .string a, .string b => some (.bool !(Op.bytesLess a.toList b.toList || a.toList == b.toList))
  | .geq, .string a, .string b => some (.bool !(Op.bytesLess a.toList b.toList))
  | .add, .string a, .string b => if ((a.size + b.size : Nat) : Int) ≤ IntKind.i64.max then some (.string (a ++ b)) else none
  | _, _, _ => none
def unV (op : UnOp) (x : Value) : Option Value :=
  match op, x with
  | .neg, .int k n => some (.int k (k.wrap (0 - n)))
  | .not, .bool b => some (.bool !b)
  | .xor, .int k n => some (.int k (k.wrap (BitVec.ofInt k.bits (if k.signed then -1 else k.max) ^^^ BitVec.ofInt k.bits n).toNat))
  | _, _ => none
/-- Are two values of a type the same? (of its cells; 'q': the structs that may be compared) -/
def eqLeaf (k : AT) (x y : AV) : Option Bool :=
  match k, x, y with
  | .int _, .d (.val (.int k a)), .d (.val (.int k' b)) => if k = k' then some (a == b) else none
  | .bool, .d (.val (.bool a)), .d (.val (.bool b)) => some (a == b)
  | .str, .d (.val (.string a)), .d (.val (.string b)) => some (a.toList == b.toList)
  | _, _, _ => none
def AT.leaf : AT → Bool
  | .int _ => true
  | .bool => true
  | .str => true
  | _ => false
def eqA (T : Ty) (q : Nat → Bool) : Nat → Nat → List AV → List AV → Option Bool
  | 0, _, _, _ => none
  | n + 1, t, xs, ys => match T t with
    | none => none
    | some i => match i.k with
      | .agg fs => if q t then eqF T q (eqA T q n) fs xs ys else none
      | _ => none
where eqF (T : Ty) (q : Nat → Bool) (sub : Nat → List AV → List AV → Option Bool) : List (Nat × Nat) → List AV → List AV → Option Bool
  | [], _, _ => some true
  | (o, ft) :: fs, xs, ys => match T ft with
    | none => none
    | some fi => match (if fi.k.leaf then (match xs[o]?, ys[o]? with
        | some x, some y => eqLeaf fi.k x y
        | _, _ => none) else sub ft ((xs.drop o).take fi.size) ((ys.drop o).take fi.size)), eqF T q sub fs xs ys with
      | some a, some b => some (a && b)
      | _, _ => none

def idx? (x : AV) (n : Nat) : Option Nat :=
  match x with
  | .d (.val (.int _ i)) => if 0 ≤ i ∧ i < n then some i.toNat else none
  | _ => none
def idxLe? (x : AV) (n : Nat) : Option Nat :=
  match x with
  | .d (.val (.int _ i)) => if 0 ≤ i ∧ i ≤ n then some i.toNat else none
  | _ => none
def bndA (x : Option AV) (dflt n : Nat) : Option Nat :=
  match x with
  | none => some dflt
  | some v => idxLe? v n
def foldA (f : Int → Int → Int) (k : IntKind) (a : Int) : List AV → Option Int
  | [] => some a
  | .d (.val (.int _ b)) :: l => foldA f k (f a b) l
  | _ => none
def minA (x y : Int) : Int := if y < x then y else x
def maxA (x y : Int) : Int := if y > x then y else x

def effB (T : Ty) (b : Builtin) (ts : List Nat) (args : List AV) : Option AV :=
  match b, args with
  | .len, [x] => match ts with
    | t :: _ => match T t with
      | some i => match i.k, x with
        | .str, .d (.val (.string s)) => some (aInt .i64 s.size)
        | .slice _, .d (.dl _ n _) => some (aInt .i64 n)
        | .slice _, .d (.val (.slice none 0 0)) => some (aInt .i64 0)
        | .slice _, .sl _ _ n _ => some (aInt .i64 n)
        | _, _ => none
      | none => none
    | [] => none
  | .min, .d (.val (.int k a)) :: l => (foldA minA k a l).map (aInt k)
  | .max, .d (.val (.int k a)) :: l => (foldA maxA k a l).map (aInt k)
  | _, _ => none

def slLive (lk : Nat → Option AK) : AV → Bool
  | .sl r _ _ _ => liveK lk r
  | _ => true
/-- The bounds of a part of something of n elements: from, to, and where the capacity ends, if it is said. -/
def bnds (n : Nat) (lo hi mx : Option AV) : Option (Nat × Nat × Option Nat) :=
  match mx with
  | none => match bndA hi n n with
    | none => none
    | some h => match bndA lo 0 h with
      | none => none
      | some l => some (l, h, none)
  | some mv => match hi with
    | none => none
    | some hv => match idxLe? mv n with
      | none => none
      | some m => match idxLe? hv m with
        | none => none
        | some h => match bndA lo 0 h with
          | none => none
          | some l => some (l, h, some m)
def capOf (cap m : Option Nat) (l : Nat) : Option Nat :=
  match m with
  | none => cap.map (· - l)
  | some m => some (m - l)
def sliceA (size : Nat) (x : AV) (lo hi mx : Option AV) : Option AV :=
  match x with
  | .d (.val (.string s)) => match mx with
    | some _ => none
    | none => match bnds s.size lo hi none with
      | some (l, h, _) => some (.d (.val (.string (s.extract l h))))
      | none => none
  | .d (.val (.slice none 0 0)) => match bnds 0 lo hi mx with
    | some _ => some (.d (.val (.slice none 0 0)))
    | none => none
  | .d (.dl cells n cap) => match bnds n lo hi mx with
    | some (l, h, m) => some (.d (.dl ((cells.drop (l * size)).take ((h - l) * size)) (h - l) (capOf cap m l)))
    | none => none
  | .sl r off n cap => match bnds n lo hi mx with
    | some (l, h, m) => some (.sl r (off + l * size) (h - l) (capOf cap m l))
    | none => none
  | _ => none

/-- Is a slice nil, as far as it is known? -/
def nilB (lk : Nat → Option AK) : AV → Option (Option Bool)
  | .d (.val (.slice none 0 0)) => some (some true)
  | .d (.dl cells _ _) => if cells.isEmpty then some none else some (some false)
  | .sl r _ n _ => match lk r with
    | some (.data _) => if n = 0 then some none else some (some false)
    | _ => none
  | _ => none
def abO : Option Bool → AV
  | none => .ab
  | some b => aBool b
/-- What an operation gives that looks into no object ('lk': of what kind is an object?). -/
def effQ (T : Ty) (q : Nat → Bool) (lk : Nat → Option AK) (o : Oper) (ρ : Operand → AV) : Option AV :=
  match o.op with
  | .move x => some (ρ x)
  | .assign x => some (ρ x)
  | .pick c a b => match ρ c with
    | .d (.val (.bool c)) => match ρ a, ρ b with
      | .d (.val (.bool a)), .d (.val (.bool b)) => some (aBool (bif c then a else b))
      | _, _ => some (bif c then ρ a else ρ b)
    | _ => none
  | .build t parts => match T t with
    | none => none
    | some i => if (parts.toList.all fun (_, x) => isV lk (ρ x)) = false then none else match i.k with
      | .agg fs => match placesA T fs with
        | some pl => (fillA (fun j => pl[j]?) (i.zero.map .d) (parts.toList.map fun (j, x) => (j, ρ x))).map .agg
        | none => none
      | .arr n e => match T e with
        | some ei => (fillA (fun j => some (j * ei.size, ei.size)) (i.zero.map .d) (parts.toList.map fun (j, x) => (j, ρ x))).map .agg
        | none => none
      | _ => none
  | .nilCheck x => match ρ x with
    | .ptr r off => if liveK lk r then some (.ptr r off) else none
    | .dptr cells off => some (.dptr cells off)
    | .clo f caps => some (.clo f caps)
    | _ => none
  | .binOp op t x y _ => match ρ x, ρ y with
    | .d (.val (.bool a)), .d (.val (.bool b)) => match T t with
      | some i => match i.k, op with
        | .bool, .eql => some (aBool (a == b))
        | .bool, .neq => some (aBool (a != b))
        | _, _ => none
      | none => none
    | v, .d (.val (.slice none 0 0)) => match nilB lk v, T t with
      | some b, some i => match i.k, op with
        | .slice _, .eql => some (abO b)
        | .slice _, .neq => some (abO (b.map fun b => !b))
        | _, _ => none
      | _, _ => none
    | .d (.val a), .d (.val b) => (binV op a b).map fun v => .d (.val v)
    | .agg xs, .agg ys => match op with
      | .eql => (eqA T q 20 t xs ys).map aBool
      | .neq => (eqA T q 20 t xs ys).map fun b => aBool !b
      | _ => none
    | _, _ => none
  | .unOp op _ x => match ρ x with
    | .d (.val a) => (unV op a).map fun v => .d (.val v)
    | _ => none
  | .convert src dst x => match T src, T dst with
    | some si, some di => match si.k, di.k, ρ x with
      | .int _, .int k, .d (.val (.int _ n)) => some (aInt k (k.wrap n))
      | .str, .str, .d (.val (.string s)) => some (.d (.val (.string s)))
      | _, _, _ => none
    | _, _ => none
  | .makeFunc fn first caps => match fn with
    | .func f => if Nat.blt f 1048576 = true then some (.clo (f + 1048576 * first.size) (first.toList.map ρ ++ caps.toList.map ρ)) else none
    | _ => none
  | .fieldAddr t x j => match T t with
    | some i => match i.k with
      | .agg fs => match fs[j]? with
        | some (fo, ft) => match T ft with
          | some fi => if fi.size = 0 then none else match ρ x with
            | .ptr r off => if liveK lk r then some (.ptr r (off + fo)) else none
            | .dptr cells off => some (.dptr cells (off + fo))
            | _ => none
          | none => none
        | none => none
      | _ => none
    | none => none
  | .field t x j => match T t with
    | some i => match i.k with
      | .agg fs => match fs[j]? with
        | some (fo, ft) => match T ft with
          | some fi => match ρ x with
            | .agg cs => partA fi cs fo
            | _ => none
          | none => none
        | none => none
      | _ => none
    | none => none
  | .indexAddr t x ix => match T t with
    | some i => match i.k with
      | .arr n e => match T e with
        | some ei => match idx? (ρ ix) n with
          | some j => match ρ x with
            | .ptr r off => if liveK lk r then some (.ptr r (off + j * ei.size)) else none
            | .dptr cells off => some (.dptr cells (off + j * ei.size))
            | _ => none
          | none => none
        | none => none
      | .slice e => match T e with
        | some ei => match ρ x with
          | .sl r off n cap => match idx? (ρ ix) n with
            | some j => if liveK lk r then some (.ptr r (off + j * ei.size)) else none
            | none => none
          | .d (.dl cells n cap) => match idx? (ρ ix) n with
            | some j => if cells.isEmpty then none else some (.dptr cells (j * ei.size))
            | none => none
          | _ => none
        | none => none
      | _ => none
    | none => none
  | .index t x ix => match T t with
    | some i => match i.k with
      | .arr n e => match T e with
        | some ei => match idx? (ρ ix) n, ρ x with
          | some j, .agg cs => partA ei cs (j * ei.size)
          | _, _ => none
        | none => none
      | .str => match ρ x, ρ ix with
        | .d (.val (.string s)), .d (.val (.int _ j)) => if 0 ≤ j then (match s.data.toList[j.toNat]? with
          | some b => some (aInt .u8 b.toNat)
          | none => none) else none
        | _, _ => none
      | _ => none
    | none => none
  | .slice t x lo hi mx => match T t with
    | some i => match i.k with
      | .slice e => match T e with
        | some ei => match ρ x with
          | .sl r off n cap => match lk r with
            | some (.data s) => if s = ei.size then sliceA ei.size (.sl r off n cap) (lo.map ρ) (hi.map ρ) (mx.map ρ) else none
            | _ => none
          | .d (.val (.slice none 0 0)) => sliceA ei.size (.d (.val (.slice none 0 0))) (lo.map ρ) (hi.map ρ) (mx.map ρ)
          | .d (.dl cells n cap) => sliceA ei.size (.d (.dl cells n cap)) (lo.map ρ) (hi.map ρ) (mx.map ρ)
          | _ => none
        | none => none
      | .str => match ρ x with
        | .d (.val (.string s)) => sliceA 0 (.d (.val (.string s))) (lo.map ρ) (hi.map ρ) (mx.map ρ)
        | _ => none
      | _ => none
    | none => none
  | .extract x j => match ρ x with
    | .tup vs => vs[j]?
    | _ => none
  | .call c => match c.callee with
    | .builtin b => if c.args.toList.all (fun x => slLive lk (ρ x)) then effB T b c.argTypes.toList (c.args.toList.map ρ) else none
    | _ => none
  | _ => none
end Go.Proofs.Ytmkbnmjhkghdjaa
