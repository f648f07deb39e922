import Derived.Below
import Derived.Orders
import Derived.Laws.AppendOwn
import Derived.WalkKit
import Derived.Laws.StructEq
import Derived.IntWalk
import Derived.Lib.ConvBytes
set_option linter.unusedSimpArgs false
set_option linter.unusedVariables false
namespace Go.Proofs.YtigfeinnobfflaaGreat
open Go.RowKit
inductive DV where
 | val (v:Value)
 | dl (cells:List DV) (n:Nat) (cap:Option Nat)
inductive AV where
 | d (x:DV)
 | ptr (r off:Nat)
 | sl (r off n:Nat) (cap:Option Nat)
 | dptr (cells:List DV) (off:Nat)
 | agg (cs:List AV)
 | tup (vs:List AV)
 | clo (f:FuncId) (caps:List AV)
 | undef
 | ab
 | junk
inductive AO where
 | data (e size:Nat) (cs:List DV) (wr:Bool)
 | mix (cs:List AV)
 | mp (kk:IntKind) (ks:List Int) (vs:List AV)
 | dead
instance:Inhabited DV:=⟨.val (.bool false)⟩
instance:Inhabited AV:=⟨.junk⟩
def AO.mutB:AO->Bool
 | .data _ _ _ m=>m
 | .mix _=>true
 | .mp _ _ _=>true
 | .dead=>false
def AO.like:AO->AO->Prop
 | .data e s _ _,.data e' s' _ _=>e=e'/\s=s'
 | .mix _,.mix _=>True
 | .mp _ _ _,.mp _ _ _=>True
 | _,.dead=>True
 | _,_=>False
theorem AO.like_refl (o:AO):o.like o:=by cases o<;>simp [AO.like]
theorem AO.like_trans {a b c:AO} (h:a.like b) (k:b.like c):a.like c:=by
 cases a<;>cases b<;>cases c<;>simp_all [AO.like]
def je (h:Array Obj) (b o:Nat):Option Value :=
 match h[b]? with
 | some (.cells c _ _)=>c[o]?
 | _=>none
theorem ou (w:World) (b o:Nat):w.cell? ⟨b,o,none⟩=je w.heap b o:=by
 unfold World.cell? je;simp only [Option.isSome_none,Bool.false_eq_true,if_false];split<;>rename_i h1<;>split<;>rename_i h2<;>simp_all
theorem zH {h:Array Obj} {b o:Nat} {u:Value} (hc:je h b o=some u):b<h.size:=by
 unfold je at hc;rcases Nat.lt_or_ge b h.size with hb | hb
 ·exact hb
 ·rw [Array.getElem?_eq_none hb] at hc;cases hc
mutual
def bZ (h:Array Obj) (X:Nat->Prop):DV->Value->Prop
 | .val v,u=>u=v/\v.oneCell'=true
 | .dl cells n cap,u=>∃A c,u = .slice A n c/\n<=c/\c<=maxLen/\(∀k,cap=some k->c=k)/\(cells=[]\/∃b o,A=some ⟨b,o,none⟩/\¬X b/\eu h X cells b o)
def eu (h:Array Obj) (X:Nat->Prop):List DV->Nat->Nat->Prop
 | [],_,_=>True
 | x::xs,b,o=>(∃u,je h b o=some u/\bZ h X x u)/\eu h X xs b (o+1)
end
structure En where
 m:Nat->Option (Nat×Nat)
 hp:Nat->Option AO
 X:Nat->Prop
 h:Array Obj
mutual
def Rel (E:En):AV->Value->Prop
 | .d x,u=>bZ E.h E.X x u
 | .ptr r off,u=>match E.hp r with
   | none=>False
   | some .dead=>True
   | some (.mp _ _ _)=>∃b z,E.m r=some (b,z)/\u = .map (some b)
   | some _=>∃b z,E.m r=some (b,z)/\u = .pointer (some ⟨b,off,none⟩)
 | .sl r off n cap,u=>match E.hp r with
   | none=>False
   | some .dead=>True
   | some (.mp _ _ _)=>False
   | some (.mix _)=>∃b z c,E.m r=some (b,z)/\u = .slice (some ⟨b,off,none⟩) n c/\cap=some c/\n<=c/\c<=maxLen
   | some (.data _ s _ _)=>(n=0/\(cap=none\/cap=some 0)/\(cap=none->off=0->∀b z,E.m r=some (b,z)->z=0)/\∃A,u = .slice A 0 0) \/
      ∃b z c,E.m r=some (b,z)/\u = .slice (some ⟨b,off,none⟩) n c/\n<=c/\c<=maxLen/\off+c*s<=z/\(match cap with | some k=>c=k | none=>off+c*s=z)
 | .dptr cells off,u=>∃b o,u = .pointer (some ⟨b,o+off,none⟩)/\(cells=[]\/(¬E.X b/\eu E.h E.X cells b o))
 | .agg cs,u=>∃vs,u = .agg vs/\aG E cs vs.toList
 | .tup cs,u=>∃vs,u = .tuple vs/\aG E cs vs.toList
 | .clo f caps,u=>∃vs:Array Value×Array Value,(u = .func (.func (f % 1048576)) vs.1 vs.2/\vs.1.size=f / 1048576)/\aG E caps (vs.1.toList++vs.2.toList)
 | .undef,u=>u=undef
 | .ab,u=>∃b,u = .bool b
 | .junk,_=>True
def aG (E:En):List AV->List Value->Prop
 | [],vs=>vs=[]
 | x::xs,vs=>∃v vs',vs=v::vs'/\Rel E x v/\aG E xs vs'
end
def Dk (E:En) (kk:IntKind) (ks:List Int) (vs:List AV) (es:Array MapEntry):Prop:=es.toList.map (·.key)=ks.map (Value.int kk)/\aG E vs (es.toList.map (·.val))
def qY (E:En) (r:Nat):AO->Prop
 | .data e s cs mt=>(E.m r=none/\cs=[]) \/
    ∃b cur,E.m r=some (b,cur.size)/\E.h[b]? = some (.cells cur e (0,0))/\eu E.h E.X cs b 0/\(if mt then E.X b else ¬E.X b)/\(∃c,cur.size=c*s/\c<=maxLen)/\0<s
 | .mix cs=>∃b cur t,E.m r=some (b,cur.size)/\E.h[b]? = some (.cells cur t (0,0))/\aG E cs cur.toList/\E.X b
 | .mp kk ks vs=>∃b es clock,E.m r=some (b,0)/\E.h[b]? = some (.map es clock)/\Dk E kk ks vs es/\E.X b
 | .dead=>True
structure eX (GL:Nat->Option (List DV)) (E:En):Prop where
 ob:∀r o,E.hp r=some o->qY E r o
 inj:∀r r' o o' b z z',E.hp r=some o->E.hp r'=some o'->o.mutB=true->o'.mutB=true->E.m r=some (b,z)->E.m r'=some (b,z')->r=r'
 gl:∀g cells,GL g=some cells->cells=[]\/(¬E.X g/\eu E.h E.X cells g 0)
def Sub (h:Array Obj) (X:Nat->Prop) (h':Array Obj) (X':Nat->Prop):Prop:=∀b o u,¬X b->je h b o=some u->¬X' b/\je h' b o=some u
theorem Sub.refl (h:Array Obj) (X:Nat->Prop):Sub h X h X:=fun _ _ _ a b=>⟨a,b⟩
theorem Sub.trans {h h' h'':Array Obj} {X X' X'':Nat->Prop} (a:Sub h X h' X') (b:Sub h' X' h'' X''):Sub h X h'' X'':=fun k o u hx hc=>let ⟨p,q⟩:=a k o u hx hc;b k o u p q
theorem Xy {h:Array Obj} {X:Nat->Prop} {h':Array Obj} {X':Nat->Prop} (hs:Sub h X h' X') :
 ∀(cells:List DV) (b o:Nat),cells≠[]->¬X b->eu h X cells b o->¬X' b
 | [],_,_,hn,_,_=>absurd rfl hn
 | x::xs,b,o,_,hx,hr=>by
   rw [eu] at hr;obtain ⟨⟨u,hc,_⟩,_⟩:=hr;exact (hs b o u hx hc).1
mutual
theorem bZ.mono {h:Array Obj} {X:Nat->Prop} {h':Array Obj} {X':Nat->Prop} (hs:Sub h X h' X'):∀(x:DV) (u:Value),bZ h X x u->bZ h' X' x u
 | .val v,u,hr=>by rw [bZ] at hr ⊢;exact hr
 | .dl cells n cap,u,hr=>by
   rw [bZ] at hr ⊢;obtain ⟨A,c,h1,h2,h3,h4,h5⟩:=hr;refine ⟨A,c,h1,h2,h3,h4,?_⟩;rcases h5 with h5 | ⟨b,o,h5,h6,h7⟩
   ·exact .inl h5
   ·by_cases hn:cells=[]
    ·exact .inl hn
    ·exact .inr ⟨b,o,h5,Xy hs cells b o hn h6 h7,eu.mono hs cells b o h6 h7⟩
theorem eu.mono {h:Array Obj} {X:Nat->Prop} {h':Array Obj} {X':Nat->Prop} (hs:Sub h X h' X'):∀(cells:List DV) (b o:Nat),¬X b->eu h X cells b o->eu h' X' cells b o
 | [],_,_,_,_=>by rw [eu];trivial
 | x::xs,b,o,hx,hr=>by
   rw [eu] at hr ⊢;obtain ⟨⟨u,hc,hd⟩,hr⟩:=hr;exact ⟨⟨u,(hs b o u hx hc).2,bZ.mono hs x u hd⟩,eu.mono hs xs b (o+1) hx hr⟩
end
structure Ext (E E':En):Prop where
 sub:Sub E.h E.X E'.h E'.X
 ob:∀r o,E.hp r=some o->∃o',E'.hp r=some o'/\o.like o'/\(o' = .dead\/E'.m r=E.m r)
theorem Ext.refl (E:En):Ext E E:=⟨Sub.refl _ _,fun r o h=>⟨o,h,o.like_refl,.inr rfl⟩⟩
theorem Ext.trans {a b c:En} (h:Ext a b) (k:Ext b c):Ext a c:=by
 refine ⟨h.sub.trans k.sub,fun r o ho => ?_⟩;obtain ⟨o',h1,h2,h3⟩:=h.ob r o ho;obtain ⟨o'',k1,k2,k3⟩:=k.ob r o' h1;refine ⟨o'',k1,AO.like_trans h2 k2,?_⟩;rcases k3 with k3 | k3
 ·exact .inl k3
 ·rcases h3 with h3 | h3
  ·subst h3;cases o''<;>simp [AO.like] at k2
   exact .inl rfl
  ·exact .inr (k3.trans h3)
theorem jQ {E E':En} (hs:Sub E.h E.X E'.h E'.X) (cells:List DV) (b o:Nat) (h6:¬E.X b) (h7:eu E.h E.X cells b o):cells=[]\/(¬E'.X b/\eu E'.h E'.X cells b o):=by
 by_cases hn:cells=[]
 ·exact .inl hn
 ·exact .inr ⟨Xy hs cells b o hn h6 h7,eu.mono hs cells b o h6 h7⟩
mutual
theorem Rel.ext {E E':En} (he:Ext E E'):∀(x:AV) (u:Value),Rel E x u->Rel E' x u
 | .d x,u,hr=>by rw [Rel] at hr ⊢;exact bZ.mono he.sub x u hr
 | .ptr r off,u,hr=>by
   rw [Rel] at hr ⊢;cases ho:E.hp r with
   | none=>rw [ho] at hr;exact hr.elim
   | some o =>
     obtain ⟨o',h1,h2,h3⟩:=he.ob r o ho;rw [ho] at hr;rw [h1];cases o' with
     | dead=>trivial
     | _ =>
       cases o<;>simp [AO.like] at h2<;>simp at h3<;>simp only at hr ⊢ <;> rw [h3]<;>exact hr
 | .sl r off n cap,u,hr=>by
   rw [Rel] at hr ⊢;cases ho:E.hp r with
   | none=>rw [ho] at hr;exact hr.elim
   | some o =>
     obtain ⟨o',h1,h2,h3⟩:=he.ob r o ho;rw [ho] at hr;rw [h1];cases o' with
     | dead=>trivial
     | mix cs' =>
       cases o<;>simp [AO.like] at h2
       simp at h3;simp only at hr ⊢;rw [h3];exact hr
     | mp kk' ks' vs' =>
       cases o<;>simp [AO.like] at h2
       exact False.elim hr
     | data e' s' cs' mt' =>
       cases o<;>simp [AO.like] at h2
       obtain ⟨rfl,rfl⟩:=h2;simp at h3;simp only at hr ⊢;rw [h3];exact hr
 | .dptr cells off,u,hr=>by
   rw [Rel] at hr ⊢;obtain ⟨b,o,h1,h2⟩:=hr;refine ⟨b,o,h1,?_⟩;rcases h2 with h2 | ⟨h2,h3⟩
   ·exact .inl h2
   ·exact jQ he.sub cells b o h2 h3
 | .agg cs,u,hr=>by
   rw [Rel] at hr ⊢;obtain ⟨vs,h1,h2⟩:=hr;exact ⟨vs,h1,aG.ext he cs _ h2⟩
 | .tup cs,u,hr=>by
   rw [Rel] at hr ⊢;obtain ⟨vs,h1,h2⟩:=hr;exact ⟨vs,h1,aG.ext he cs _ h2⟩
 | .clo f cs,u,hr=>by
   rw [Rel] at hr ⊢;obtain ⟨vs,h1,h2⟩:=hr;exact ⟨vs,h1,aG.ext he cs _ h2⟩
 | .undef,u,hr=>by rw [Rel] at hr ⊢;exact hr
 | .ab,u,hr=>by rw [Rel] at hr ⊢;exact hr
 | .junk,u,hr=>by rw [Rel];trivial
theorem aG.ext {E E':En} (he:Ext E E'):∀(xs:List AV) (vs:List Value),aG E xs vs->aG E' xs vs
 | [],vs,hr=>by rw [aG] at hr ⊢;exact hr
 | x::xs,vs,hr=>by
   rw [aG] at hr ⊢;obtain ⟨v,vs',h1,h2,h3⟩:=hr;exact ⟨v,vs',h1,Rel.ext he x v h2,aG.ext he xs vs' h3⟩
end
theorem Dk.ext {E E':En} (he:Ext E E') {kk:IntKind} {ks:List Int} {vs:List AV} {es:Array MapEntry} (h:Dk E kk ks vs es):Dk E' kk ks vs es:=⟨h.1,aG.ext he _ _ h.2⟩
inductive AT where
 | int (k:IntKind) | bool | str
 | agg (fs:List (Nat×Nat))
 | arr (n e:Nat)
 | slice (e:Nat) | ptr (e:Nat) | map (k e:Nat) | fn | iface | other
structure TI where
 size:Nat
 bytes:Nat
 k:AT
 zero:List DV
abbrev Ty:=Nat->Option TI
def fF:TypeDesc->AT
 | .int k => .int k
 | .bool => .bool
 | .string => .str
 | .struct fs => .agg (fs.toList.map fun f=>(f.offset,f.type))
 | .array n e => .arr n e
 | .slice e => .slice e
 | .pointer e => .ptr e
 | .map k e => .map k e
 | .func _ _ _ => .fn
 | .interface _ => .iface
 | _ => .other
def AT.isAgg:AT->Bool
 | .agg _=>true
 | .arr _ _=>true
 | _=>false
def aO (P:Program) (t:Nat):Option TI :=
 match P.info? t,P.underlying t with
 | some i,some d=>match i.zero with
   | some z=>if z.cells.toList.all (·.oneCell')&&z.cells.toList.length==i.size&&z.oneCell' == !(fF d).isAgg then some ⟨i.size,i.bytes,fF d,z.cells.toList.map .val⟩ else none
   | none=>none
 | _,_=>none
def bJ (b:Bool):AV := .d (.val (.bool b))
def dG (k:IntKind) (n:Int):AV := .d (.val (.int k n))
def splice {α:Type}:List α->Nat->List α->List α
 | l,0,new=>new++l.drop new.length
 | [],_+1,_=>[]
 | x::l,o+1,new=>x::splice l o new
def AV.cellsOf:AV->List AV
 | .agg cs=>cs
 | x=>[x]
inductive AK where
 | data (s:Nat) | mix | mp | dead
def AO.kind:AO->AK
 | .data _ s _ _ => .data s
 | .mix _ => .mix
 | .mp _ _ _ => .mp
 | .dead => .dead
def fV (lk:Nat->Option AK) (r:Nat):Bool:=match lk r with | some .dead=>false | some .mp=>false | some _=>true | none=>false
def sS (lk:Nat->Option AK):AV->Bool
 | .agg _=>true
 | .d _=>true
 | .dptr _ _=>true
 | .clo _ _=>true
 | .ptr r _=>fV lk r
 | .sl r _ _ _=>fV lk r
 | _=>false
def l7 (place:Nat->Option (Nat×Nat)):List AV->List (Nat×AV)->Option (List AV)
 | cs,[]=>some cs
 | cs,(i,v)::rest=>match place i with
   | none=>none
   | some (off,size)=>if v.cellsOf.length=size/\off+size<=cs.length then l7 place (splice cs off v.cellsOf) rest else none
def fQ (i:TI) (cs:List AV) (off:Nat):Option AV :=
 if i.k.isAgg then if off+i.size<=cs.length then some (.agg ((cs.drop off).take i.size)) else none else cs[off]?
def rD (T:Ty):List (Nat×Nat)->Option (List (Nat×Nat))
 | []=>some []
 | (o,ft)::l=>match T ft,rD T l with
   | some fi,some r=>some ((o,fi.size)::r)
   | _,_=>none
def sF (op:BinOp) (x y:Value):Option Value :=
 match op,x,y with
 | .shl,.int k a,.int _ b=>if 0<=b then some (.int k (k.wrap (a*2 ^ min b.toNat k.bits))) else none
 | .shr,.int k a,.int _ b=>if 0<=b then some (.int k (a.fdiv (2 ^ min b.toNat k.bits))) else none
 | .add,.int k a,.int k' b=>if k=k' then some (.int k (k.wrap (a+b))) else none
 | .sub,.int k a,.int k' b=>if k=k' then some (.int k (k.wrap (a-b))) else none
 | .mul,.int k a,.int k' b=>if k=k' then some (.int k (k.wrap (a*b))) else none
 | .quo,.int k a,.int k' b=>if k=k' then (if b=0 then none else some (.int k (k.wrap (a.tdiv b)))) else none
 | .rem,.int k a,.int k' b=>if k=k' then (if b=0 then none else some (.int k (a.tmod b))) else none
 | .and,.int k a,.int k' b=>if k=k' then some (.int k (k.wrap (BitVec.ofInt k.bits a &&& BitVec.ofInt k.bits b).toNat)) else none
 | .or,.int k a,.int k' b=>if k=k' then some (.int k (k.wrap (BitVec.ofInt k.bits a ||| BitVec.ofInt k.bits b).toNat)) else none
 | .xor,.int k a,.int k' b=>if k=k' then some (.int k (k.wrap (BitVec.ofInt k.bits a ^^^ BitVec.ofInt k.bits b).toNat)) else none
 | .andNot,.int k a,.int k' b=>if k=k' then some (.int k (k.wrap (BitVec.ofInt k.bits a &&& ~~~BitVec.ofInt k.bits b).toNat)) else none
 | .eql,.int k a,.int k' b=>if k=k' then some (.bool (a==b)) else none
 | .neq,.int k a,.int k' b=>if k=k' then some (.bool (a != b)) else none
 | .lss,.int k a,.int k' b=>if k=k' then some (.bool (decide (a<b))) else none
 | .leq,.int k a,.int k' b=>if k=k' then some (.bool (decide (a<=b))) else none
 | .gtr,.int k a,.int k' b=>if k=k' then some (.bool (decide (a > b))) else none
 | .geq,.int k a,.int k' b=>if k=k' then some (.bool (decide (a>=b))) else none
 | .eql,.string a,.string b=>some (.bool (a.toList==b.toList))
 | .neq,.string a,.string b=>some (.bool !(a.toList==b.toList))
 | .lss,.string a,.string b=>some (.bool (Op.bytesLess a.toList b.toList))
 | .leq,.string a,.string b=>some (.bool (Op.bytesLess a.toList b.toList||a.toList==b.toList))
 | .gtr,.string a,.string b=>some (.bool !(Op.bytesLess a.toList b.toList||a.toList==b.toList))
 | .geq,.string a,.string b=>some (.bool !(Op.bytesLess a.toList b.toList))
 | .add,.string a,.string b=>if ((a.size+b.size:Nat):Int)<=IntKind.i64.max then some (.string (a++b)) else none
 | _,_,_=>none
def unV (op:UnOp) (x:Value):Option Value :=
 match op,x with
 | .neg,.int k n=>some (.int k (k.wrap (0-n)))
 | .not,.bool b=>some (.bool !b)
 | .xor,.int k n=>some (.int k (k.wrap (BitVec.ofInt k.bits (if k.signed then -1 else k.max) ^^^ BitVec.ofInt k.bits n).toNat))
 | _,_=>none
def vZ (k:AT) (x y:AV):Option Bool :=
 match k,x,y with
 | .int _,.d (.val (.int k a)),.d (.val (.int k' b))=>if k=k' then some (a==b) else none
 | .bool,.d (.val (.bool a)),.d (.val (.bool b))=>some (a==b)
 | .str,.d (.val (.string a)),.d (.val (.string b))=>some (a.toList==b.toList)
 | _,_,_=>none
def AT.leaf:AT->Bool
 | .int _=>true
 | .bool=>true
 | .str=>true
 | _=>false
def zG (T:Ty) (q:Nat->Bool):Nat->Nat->List AV->List AV->Option Bool
 | 0,_,_,_=>none
 | n+1,t,xs,ys=>match T t with
   | none=>none
   | some i=>match i.k with
     | .agg fs=>if q t then eqF T q (zG T q n) fs xs ys else none
     | _=>none
where eqF (T:Ty) (q:Nat->Bool) (sub:Nat->List AV->List AV->Option Bool):List (Nat×Nat)->List AV->List AV->Option Bool
 | [],_,_=>some true
 | (o,ft)::fs,xs,ys=>match T ft with
   | none=>none
   | some fi=>match (if fi.k.leaf then (match xs[o]?,ys[o]? with
      | some x,some y=>vZ fi.k x y
      | _,_=>none) else sub ft ((xs.drop o).take fi.size) ((ys.drop o).take fi.size)),eqF T q sub fs xs ys with
     | some a,some b=>some (a&&b)
     | _,_=>none
def idx? (x:AV) (n:Nat):Option Nat :=
 match x with
 | .d (.val (.int _ i))=>if 0<=i/\i<n then some i.toNat else none
 | _=>none
def idxLe? (x:AV) (n:Nat):Option Nat :=
 match x with
 | .d (.val (.int _ i))=>if 0<=i/\i<=n then some i.toNat else none
 | _=>none
def zI (x:Option AV) (dflt n:Nat):Option Nat :=
 match x with
 | none=>some dflt
 | some v=>idxLe? v n
def wo (f:Int->Int->Int) (k:IntKind) (a:Int):List AV->Option Int
 | []=>some a
 | .d (.val (.int _ b))::l=>wo f k (f a b) l
 | _=>none
def eU (x y:Int):Int:=if y<x then y else x
def bf (x y:Int):Int:=if y > x then y else x
def Um (T:Ty) (b:Builtin) (ts:List Nat) (args:List AV):Option AV :=
 match b,args with
 | .len,[x]=>match ts with
   | t::_=>match T t with
     | some i=>match i.k,x with
       | .str,.d (.val (.string s))=>some (dG .i64 s.size)
       | .slice _,.d (.dl _ n _)=>some (dG .i64 n)
       | .slice _,.d (.val (.slice none 0 0))=>some (dG .i64 0)
       | .slice _,.sl _ _ n _=>some (dG .i64 n)
       | _,_=>none
     | none=>none
   | []=>none
 | .min,.d (.val (.int k a))::l=>(wo eU k a l).map (dG k)
 | .max,.d (.val (.int k a))::l=>(wo bf k a l).map (dG k)
 | .cap,[x]=>match ts with
   | t::_=>match T t with
     | some i=>match i.k,x with
       | .slice _,.d (.val (.slice none 0 0))=>some (dG .i64 0)
       | .slice _,.sl _ _ _ (some c)=>some (dG .i64 c)
       | _,_=>none
     | none=>none
   | []=>none
 | _,_=>none
def wu (lk:Nat->Option AK):AV->Bool
 | .sl r _ _ _=>fV lk r
 | _=>true
def Hr (n:Nat) (lo hi mx:Option AV):Option (Nat×Nat×Option Nat) :=
 match mx with
 | none=>match zI hi n n with
   | none=>none
   | some h=>match zI lo 0 h with
     | none=>none
     | some l=>some (l,h,none)
 | some mv=>match hi with
   | none=>none
   | some hv=>match idxLe? mv n with
     | none=>none
     | some m=>match idxLe? hv m with
       | none=>none
       | some h=>match zI lo 0 h with
         | none=>none
         | some l=>some (l,h,some m)
def capOf (cap m:Option Nat) (l:Nat):Option Nat :=
 match m with
 | none=>cap.map (· - l)
 | some m=>some (m-l)
def capD (cap m:Option Nat) (l:Nat):Option Nat :=
 match m with
 | none=>cap.map (· - l)
 | some _=>none
def jU (size:Nat) (x:AV) (lo hi mx:Option AV):Option AV :=
 match x with
 | .d (.val (.string s))=>match mx with
   | some _=>none
   | none=>match Hr s.size lo hi none with
     | some (l,h,_)=>some (.d (.val (.string (s.extract l h))))
     | none=>none
 | .d (.val (.slice none 0 0))=>match Hr 0 lo hi mx with
   | some _=>some (.d (.val (.slice none 0 0)))
   | none=>none
 | .d (.dl cells n cap)=>match Hr n lo hi mx with
   | some (l,h,m)=>some (.d (.dl ((cells.drop (l*size)).take ((h-l)*size)) (h-l) (capD cap m l)))
   | none=>none
 | .sl r off n cap=>match Hr n lo hi mx with
   | some (l,h,m)=>some (.sl r (off+l*size) (h-l) (capOf cap m l))
   | none=>match cap,hi,mx with
     | some c,some hv,none=>match zI (some hv) c c with
       | none=>none
       | some h=>match zI lo 0 h with
         | none=>none
         | some l=>some (.sl r (off+l*size) (h-l) (some (c-l)))
     | _,_,_=>none
 | _=>none
def Ht (lk:Nat->Option AK):AV->Option (Option Bool)
 | .d (.val (.slice none 0 0))=>some (some true)
 | .d (.dl cells _ _)=>if cells.isEmpty then some none else some (some false)
 | .sl r _ n _=>match lk r with
   | some (.data _)=>if n=0 then some none else some (some false)
   | _=>none
 | _=>none
def Dl (lk:Nat->Option AK):AV->Option Bool
 | .d (.val (.pointer none))=>some true
 | .ptr r _=>if fV lk r then some false else none
 | .dptr _ _=>some false
 | _=>none
def Xt:Option Bool->AV
 | none => .ab
 | some b=>bJ b
def aeK:List (Nat×String×Nat):=[(229, "dialtone/compand.code",145),(229, "dialtone/compand.sample",146),(230, "dialtone/compand.code",150),(230, "dialtone/compand.sample",151)]
def Oz (t:Nat) (n:String):Option Nat:=(aeK.find? fun x=>decide (x.1=t)&&x.2.1==n).map (·.2.2)
def invV:Value->Bool
 | .func (.method n) fs _=>match fs.toList with | [.iface t (.agg cs)]=>cs.toList.isEmpty&&(Oz t n).isSome | _=>false
 | _=>false
def ifA (T:Ty) (t:Nat) (v:AV):Option AV:=match T t,v with
 | some i,.agg []=>(match i.k with | .agg _=>some (.d (.val (.iface t (.agg #[])))) | _=>none)
 | _,_=>none
def Xz (n:String) (l:List AV):Option AV:=match l with
 | [.d (.val (.iface t v))]=>some (.d (.val (.func (.method n) #[.iface t v] #[])))
 | _=>none
def zJ (T:Ty) (q:Nat->Bool) (lk:Nat->Option AK) (o:Oper) (ρ:Operand->AV):Option AV :=
 match o.op with
 | .move x=>some (ρ x)
 | .assign x=>some (ρ x)
 | .pick c a b=>match ρ c with
   | .d (.val (.bool c))=>match ρ a,ρ b with
     | .d (.val (.bool a)),.d (.val (.bool b))=>some (bJ (bif c then a else b))
     | _,_=>some (bif c then ρ a else ρ b)
   | _=>none
 | .build t parts=>match T t with
   | none=>none
   | some i=>if (parts.toList.all fun (_,x)=>sS lk (ρ x))=false then none else match i.k with
     | .agg fs=>match rD T fs with
       | some pl=>(l7 (fun j=>pl[j]?) (i.zero.map .d) (parts.toList.map fun (j,x)=>(j,ρ x))).map .agg
       | none=>none
     | .arr n e=>match T e with
       | some ei=>(l7 (fun j=>some (j*ei.size,ei.size)) (i.zero.map .d) (parts.toList.map fun (j,x)=>(j,ρ x))).map .agg
       | none=>none
     | _=>none
 | .nilCheck x=>match ρ x with
   | .ptr r off=>if fV lk r then some (.ptr r off) else none
   | .dptr cells off=>some (.dptr cells off)
   | .clo f caps=>some (.clo f caps)
   | .d (.val v)=>if invV v=true then some (.d (.val v)) else none
   | _=>none
 | .makeInterface t x=>ifA T t (ρ x)
 | .binOp op t x y _=>match ρ x,ρ y with
   | .d (.val (.bool a)),.d (.val (.bool b))=>match T t with
     | some i=>match i.k,op with
       | .bool,.eql=>some (bJ (a==b))
       | .bool,.neq=>some (bJ (a != b))
       | _,_=>none
     | none=>none
   | v,.d (.val (.slice none 0 0))=>match Ht lk v,T t with
     | some b,some i=>match i.k,op with
       | .slice _,.eql=>some (Xt b)
       | .slice _,.neq=>some (Xt (b.map fun b => !b))
       | _,_=>none
     | _,_=>none
   | v,.d (.val (.pointer none))=>match Dl lk v,T t with
     | some b,some i=>match i.k,op with
       | .ptr _,.eql=>some (bJ b)
       | .ptr _,.neq=>some (bJ (!b))
       | _,_=>none
     | _,_=>none
   | .d (.val a),.d (.val b)=>(sF op a b).map fun v => .d (.val v)
   | .agg xs,.agg ys=>match op with
     | .eql=>(zG T q 20 t xs ys).map bJ
     | .neq=>(zG T q 20 t xs ys).map fun b=>bJ !b
     | _=>none
   | _,_=>none
 | .unOp op _ x=>match ρ x with
   | .d (.val a)=>(unV op a).map fun v => .d (.val v)
   | _=>none
 | .convert src dst x=>match T src,T dst with
   | some si,some di=>match si.k,di.k,ρ x with
     | .int _,.int k,.d (.val (.int _ n))=>some (dG k (k.wrap n))
     | .str,.str,.d (.val (.string s))=>some (.d (.val (.string s)))
     | _,_,_=>none
   | _,_=>none
 | .makeFunc fn first caps=>match fn with
   | .func f=>if Nat.blt f 1048576=true then some (.clo (f+1048576*first.size) (first.toList.map ρ++caps.toList.map ρ)) else none
   | .method n=>if caps.toList.isEmpty=true then Xz n (first.toList.map ρ) else none
   | _=>none
 | .fieldAddr t x j=>match T t with
   | some i=>match i.k with
     | .agg fs=>match fs[j]? with
       | some (fo,ft)=>match T ft with
         | some fi=>if fi.size=0 then none else match ρ x with
           | .ptr r off=>if fV lk r then some (.ptr r (off+fo)) else none
           | .dptr cells off=>some (.dptr cells (off+fo))
           | _=>none
         | none=>none
       | none=>none
     | _=>none
   | none=>none
 | .field t x j=>match T t with
   | some i=>match i.k with
     | .agg fs=>match fs[j]? with
       | some (fo,ft)=>match T ft with
         | some fi=>match ρ x with
           | .agg cs=>fQ fi cs fo
           | _=>none
         | none=>none
       | none=>none
     | _=>none
   | none=>none
 | .indexAddr t x ix=>match T t with
   | some i=>match i.k with
     | .arr n e=>match T e with
       | some ei=>match idx? (ρ ix) n with
         | some j=>match ρ x with
           | .ptr r off=>if fV lk r then some (.ptr r (off+j*ei.size)) else none
           | .dptr cells off=>some (.dptr cells (off+j*ei.size))
           | _=>none
         | none=>none
       | none=>none
     | .slice e=>match T e with
       | some ei=>match ρ x with
         | .sl r off n cap=>match idx? (ρ ix) n with
           | some j=>if fV lk r then some (.ptr r (off+j*ei.size)) else none
           | none=>none
         | .d (.dl cells n cap)=>match idx? (ρ ix) n with
           | some j=>if cells.isEmpty then none else some (.dptr cells (j*ei.size))
           | none=>none
         | _=>none
       | none=>none
     | _=>none
   | none=>none
 | .index t x ix=>match T t with
   | some i=>match i.k with
     | .arr n e=>match T e with
       | some ei=>match idx? (ρ ix) n,ρ x with
         | some j,.agg cs=>fQ ei cs (j*ei.size)
         | _,_=>none
       | none=>none
     | .str=>match ρ x,ρ ix with
       | .d (.val (.string s)),.d (.val (.int _ j))=>if 0<=j then (match s.data.toList[j.toNat]? with
         | some b=>some (dG .u8 b.toNat)
         | none=>none) else none
       | _,_=>none
     | _=>none
   | none=>none
 | .slice t x lo hi mx=>match T t with
   | some i=>match i.k with
     | .slice e=>match T e with
       | some ei=>match ρ x with
         | .sl r off n cap=>match lk r with
           | some (.data s)=>if s=ei.size then jU ei.size (.sl r off n cap) (lo.map ρ) (hi.map ρ) (mx.map ρ) else none
           | _=>none
         | .d (.val (.slice none 0 0))=>jU ei.size (.d (.val (.slice none 0 0))) (lo.map ρ) (hi.map ρ) (mx.map ρ)
         | .d (.dl cells n cap)=>jU ei.size (.d (.dl cells n cap)) (lo.map ρ) (hi.map ρ) (mx.map ρ)
         | _=>none
       | none=>none
     | .str=>match ρ x with
       | .d (.val (.string s))=>jU 0 (.d (.val (.string s))) (lo.map ρ) (hi.map ρ) (mx.map ρ)
       | _=>none
     | _=>none
   | none=>none
 | .extract x j=>match ρ x with
   | .tup vs=>vs[j]?
   | _=>none
 | .call c=>match c.callee with
   | .builtin b=>if c.args.toList.all (fun x=>wu lk (ρ x)) then Um T b c.argTypes.toList (c.args.toList.map ρ) else none
   | _=>none
 | _=>none
structure Eff where
 v:AV
 upd:List (Nat×AO)
 rds:List Nat
 lvs:List Nat
def AV.refs:AV->List Nat
 | .ptr r _=>[r]
 | .sl r _ _ _=>[r]
 | .agg cs=>refsL cs
 | .tup cs=>refsL cs
 | .clo _ cs=>refsL cs
 | _=>[]
where refsL:List AV->List Nat
 | []=>[]
 | x::xs=>x.refs++refsL xs
def sU:DV->DV
 | .val (.slice none 0 0) => .dl [] 0 none
 | .dl cs n _ => .dl cs n none
 | x=>x
def zK (rd:Nat->Option AO):AV->Option (DV×List (Nat×AO))
 | .d x=>some (sU x,[])
 | .sl r off n cap=>match rd r with
   | some (.data e s cs _)=>some (.dl ((cs.drop off).take (n*s)) n none,[(r,.data e s cs false)])
   | _=>none
 | _=>none
def fG (rd:Nat->Option AO):List AV->Option (List DV×List (Nat×AO))
 | []=>some ([],[])
 | x::xs=>match zK rd x,fG rd xs with
   | some (y,u),some (ys,us)=>some (y::ys,u++us)
   | _,_=>none
def kinds (rd:Nat->Option AO):Nat->Option AK:=fun r=>(rd r).map AO.kind
def mQ (rd:Nat->Option AO):AV->Bool
 | .agg _=>false
 | x=>sS (kinds rd) x
def takeD:List DV->Nat->Nat->Option (List AV)
 | _,_,0=>some []
 | cs,off,n+1=>match cs[off]?,takeD cs (off+1) n with
   | some x,some l=>some (.d x::l)
   | _,_=>none
def wz (i:TI) (cs:List DV) (off:Nat):Option AV :=
 if i.k.isAgg then (takeD cs off i.size).map .agg else (cs[off]?).map .d
def nO:Nat->List DV->List DV
 | 0,_=>[]
 | n+1,z=>z++nO n z
def bytesD (s:List UInt8):List DV:=s.map fun b => .val (.int .u8 b.toNat)
def AT.srcOk:AT->Bool
 | .slice _=>true
 | .str=>true
 | _=>false
def uy (rd:Nat->Option AO) (s:Nat):AV->Option (List DV×Nat)
 | .d (.val (.slice none 0 0))=>some ([],0)
 | .d (.dl cells n _)=>if cells.length=n*s then some (cells,n) else none
 | .sl r off n _=>match rd r with
   | some (.data _ s' cs _)=>if s'=s/\off+n*s<=cs.length then some ((cs.drop off).take (n*s),n) else none
   | _=>none
 | .d (.val (.string b))=>if s=1 then some (bytesD b.data.toList,b.size) else none
 | _=>none
def wB (rd:Nat->Option AO) (slot e s bytes m:Nat) (cells:List DV) (n:Nat) (old:List DV):Option (AV×List (Nat×AO)) :=
 if (rd slot).isSome then none else if (n+m)*bytes<=140737488355328/\n+m<=maxLen then some (.sl slot 0 (n+m) none,[(slot,.data e s (old++cells) true)]) else none
def iM (rd:Nat->Option AO) (slot e s bytes:Nat) (x:AV) (cells:List DV) (m:Nat):Option (AV×List (Nat×AO)) :=
 match x with
 | .d (.val (.slice none 0 0))=>wB rd slot e s bytes m cells 0 []
 | .d (.dl cs n (some c))=>if c=n then (if n=0 then wB rd slot e s bytes m cells 0 [] else if m=0 then some (x,[]) else if cs.length=n*s then wB rd slot e s bytes m cells n cs else none) else none
 | .sl r off n (some c)=>match rd r with
   | some (.data e' s' cs wr)=>if e'=e/\s'=s then
      (if c=n then (if n=0 then wB rd slot e s bytes m cells 0 [] else if m=0 then some (x,[]) else if off+n*s<=cs.length then wB rd slot e s bytes m cells n ((cs.drop off).take (n*s)) else none)
 else if wr/\off=0/\n+m<=c/\(n+m)*s<=cs.length then some (.sl r 0 (n+m) (some c),[(r,.data e s (splice cs (n*s) cells) true)]) else none) else none
   | _=>none
 | .sl r off n none=>match rd r with
   | some (.data e' s' cs wr)=>if e'=e/\s'=s/\off=0/\wr then
      (if n*s=cs.length then (match wB rd slot e s bytes m cells n cs with | some (v,u)=>some (v,u++[(r,.dead)]) | none=>none)
 else if n*s<=cs.length then (match wB rd slot e s bytes m cells n (cs.take (n*s)) with | some (v,u)=>some (v,u++[(r,.dead)]) | none=>none) else none) else none
   | _=>none
 | _=>none
def u8D:DV->Option UInt8
 | .val (.int .u8 n)=>some (UInt8.ofNat n.toNat)
 | _=>none
def lq:List DV->Option (List UInt8)
 | []=>some []
 | x::xs=>match u8D x,lq xs with
   | some b,some l=>some (b::l)
   | _,_=>none
def Bq:Option TI->Bool
 | some ei=>match ei.k with
   | .int .u8=>true
   | _=>false
 | none=>false
def isStr:AV->Bool
 | .d (.val (.string _))=>true
 | _=>false
def vW (T:Ty) (t:Nat):Option (IntKind×TI) :=
 match T t with
 | some i=>match i.k with
   | .map k e=>match T k,T e with
     | some ki,some ei=>match ki.k with
       | .int kk=>some (kk,ei)
       | _=>none
     | _,_=>none
   | _=>none
 | none=>none
def pK (k:Int):List Int->List AV->Option AV
 | a::ks,v::vs=>if a=k then some v else pK k ks vs
 | _,_=>none
def OA (k:Int) (v:AV):List Int->List AV->List AV
 | a::ks,x::vs=>if a=k then v::vs else x::OA k v ks vs
 | _,vs=>vs
def uz (ks:List Int) (k:Int):List Int:=if k∈ks then ks else ks++[k]
def Eh (ks:List Int) (k:Int) (vs:List AV) (v:AV):List AV:=if k∈ks then OA k v ks vs else vs++[v]
def Xu (ok:Bool) (r:Option AV) (z:AV):AV :=
 match ok with
 | true => .tup [match r with | some v=>v | none=>z,bJ r.isSome]
 | false=>match r with | some v=>v | none=>z
def OB:Operand->Operand->Bool
 | .tmp a,.tmp b=>decide (a=b/\a≠11)
 | .const (.int k a),.const (.int k' b)=>decide (k=k'/\a=b)
 | _,_=>false
def bsB (t:Nat):Bool:=t==81||t==39
def bsC (t n:Nat):Option Nat:=bif bsB t then none else some n
theorem aeL {t n j:Nat} (h:bsC t n=some j):n=j:=by
 unfold bsC at h;cases hb:bsB t with
 | true=>rw [hb] at h;cases h
 | false=>rw [hb] at h;cases h;rfl
def zL (T:Ty) (rd:Nat->Option AO) (slot:Nat) (o:Oper) (ρ:Operand->AV):Option (AV×List (Nat×AO)) :=
 match o.op with
 | .alloc t=>match T t with
   | some i=>if (rd slot).isSome then none else some (.ptr slot 0,[(slot,.mix (i.zero.map .d))])
   | none=>none
 | .box t x=>if (rd slot).isSome then none else if sS (kinds rd) (ρ x) then some (.ptr slot 0,[(slot,.mix (ρ x).cellsOf)]) else none
 | .buildSlice t n parts=>match T t with
   | some i=>match i.k with
     | .slice e=>match T e with
       | some ei=>if (rd slot).isSome\/n*ei.size > 1000\/ei.size=0\/(parts.toList.all fun (_,x)=>sS (kinds rd) (ρ x))=false then none else
         match l7 (fun j=>some (j*ei.size,ei.size)) ((nO n ei.zero).map .d) (parts.toList.map fun (j,x)=>(j,ρ x)) with
         | some cells=>match fG rd cells with
           | some (cs,us)=>some (.sl slot 0 n (bsC t n),(slot,.data e ei.size cs true)::us)
           | none=>none
         | none=>none
       | none=>none
     | _=>none
   | none=>none
 | .load t x=>match T t with
   | some i=>match ρ x with
     | .ptr r off=>match rd r with
       | some (.data _ _ cs _)=>wz i cs off |>.map fun v=>(v,[])
       | some (.mix cs)=>fQ i cs off |>.map fun v=>(v,[])
       | _=>none
     | .dptr cells off=>if cells.isEmpty then none else wz i cells off |>.map fun v=>(v,[])
     | _=>none
   | none=>none
 | .store t x y=>match T t with
   | some i=>match ρ x with
     | .ptr r off=>let new:=(ρ y).cellsOf
       match rd r with
       | some (.mix cs)=>if new.length=i.size/\off+i.size<=cs.length/\sS (kinds rd) (ρ y)/\new.all (mQ rd) then some (.undef,[(r,.mix (splice cs off new))]) else none
       | some (.data e s cs true)=>match fG rd new with
         | some (ns,us)=>if new.length=i.size/\off+i.size<=cs.length/\sS (kinds rd) (ρ y)/\us.all (fun u=>u.1 != r) then some (.undef,(r,.data e s (splice cs off ns) true)::us) else none
         | none=>none
       | _=>none
     | _=>none
   | none=>none
 | .makeMap t none=>if (rd slot).isSome then none else match vW T t with | some (kk,_)=>some (.ptr slot 0,[(slot,.mp kk [] [])]) | none=>none
 | .lookup t x y ok=>match vW T t with
   | some (kk,ei)=>(match ρ x,ρ y,fQ ei (ei.zero.map .d) 0 with
     | .ptr r _,.d (.val (.int k n)),some z=>match rd r with
       | some (.mp kk' ks vs)=>if kk=kk'/\k=kk then some (Xu ok (pK n ks vs) z,[]) else none
       | _=>none
     | _,_,_=>none)
   | none=>none
 | .mapUpdate t x y z=>match vW T t with
   | some (kk,_)=>(match ρ x,ρ y with
     | .ptr r _,.d (.val (.int k n))=>match rd r with
       | some (.mp kk' ks vs)=>if kk=kk'/\k=kk/\sS (kinds rd) (ρ z)=true then some (.undef,[(r,.mp kk (uz ks n) (Eh ks n vs (ρ z)))]) else none
       | _=>none
     | _,_=>none)
   | none=>none
 | .insert t x y z=>match vW T t with
   | some (kk,_)=>(match ρ x,ρ y with
     | .ptr r _,.d (.val (.int k n))=>match rd r with
       | some (.mp kk' ks vs)=>if kk=kk'/\k=kk/\sS (kinds rd) (ρ z)=true then some (.undef,[(r,.mp kk (uz ks n) (Eh ks n vs (ρ z)))]) else none
       | _=>none
     | _,_=>none)
   | none=>none
 | .makeSlice t l c=>match T t with
   | some i=>match i.k with
     | .slice e=>match T e with
       | some ei=>match ρ l,ρ c with
         | .d (.val (.int _ n)),.d (.val (.int _ k))=>if (rd slot).isSome then none else
           if 0<=n/\n<=k/\k*ei.bytes<=140737488355328/\k<=maxLen/\0<ei.size then some (.sl slot 0 n.toNat (bif OB l c then some k.toNat else none),[(slot,.data e ei.size (nO k.toNat (ei.zero.map sU)) true)]) else none
         | _,_=>none
       | none=>none
     | _=>none
   | none=>none
 | .convert src dst x=>match T src,T dst with
   | some si,some di=>match si.k,di.k with
     | .slice e,.str=>if isStr (ρ x) || !(Bq (T e)) then none else match uy rd 1 (ρ x) with
       | some (cells,_)=>match lq cells with
         | some l=>some (.d (.val (.string ⟨l.toArray⟩)),[])
         | none=>none
       | none=>none
     | .slice _,.slice e=>if src=dst/\Bq (T e)=true then (match ρ x with
       | .sl r off n cap=>match rd r with
         | some (.data _ s cs true)=>if s=1/\0<n then some (.d (.dl ((cs.drop off).take n) n cap),[(r,.dead)]) else none
         | _=>none
       | _=>none) else none
     | _,_=>none
   | _,_=>none
 | .call c=>match c.callee with
   | .builtin .append=>match c.args.toList.map ρ,(c.argTypes[0]?).bind T,(c.argTypes[1]?).bind T with
     | [x,y],some i,some j=>if j.k.srcOk then match i.k with
       | .slice e=>match T e with
         | some ei=>match uy rd ei.size y with
           | some (cells,m)=>if 0<ei.size then iM rd slot e ei.size ei.bytes x cells m else none
           | none=>none
         | none=>none
       | _=>none
       else none
     | _,_,_=>none
   | .builtin .copy=>match c.args.toList.map ρ,(c.argTypes[0]?).bind T with
     | [.sl r off n cap,y],some i=>match i.k with
       | .slice e=>match T e with
         | some ei=>match uy rd ei.size y,rd r with
           | some (cells,m),some (.data e' s cs true)=>if s=ei.size/\off+n*s<=cs.length then some (dG .i64 (Nat.min m n),[(r,.data e' s (splice cs off (cells.take (Nat.min m n*s))) true)]) else none
           | _,_=>none
         | none=>none
       | _=>none
     | _,_=>none
   | _=>none
 | _=>none
def Ik (rd:Nat->Option AO) (slot e s bytes:Nat) (x:AV) (cells:List DV) (m:Nat):Option (AV×List (Nat×AO)) :=
 match x with
 | .d (.val (.slice none 0 0))=>if 1<=m then wB rd slot e s bytes m cells 0 [] else none
 | .sl r off n (some c)=>match rd r with
   | some (.data e' s' cs _)=>if e'=e/\s'=s then (if n+m<=c then none else if off+n*s<=cs.length then wB rd slot e s bytes m cells n ((cs.drop off).take (n*s)) else none) else none
   | _=>none
 | _=>none
def Hu (T:Ty) (rd:Nat->Option AO) (slot:Nat) (o:Oper) (ρ:Operand->AV):Option (AV×List (Nat×AO)) :=
 match o.op with
 | .convert src dst x=>match T src,T dst with
   | some si,some di=>match si.k,di.k with
     | .str,.slice e=>if Bq (T e)=true then (match ρ x with
       | .d (.val (.string b))=>if b.size<=140737488355328 then some (.d (.dl (bytesD b.data.toList) b.size none),[]) else none
       | _=>none) else none
     | _,_=>none
   | _,_=>none
 | .call c=>match c.callee with
   | .builtin .append=>match c.args.toList.map ρ,(c.argTypes[0]?).bind T,(c.argTypes[1]?).bind T with
     | [x,y],some i,some j=>match i.k with
       | .slice e=>match T e with
         | some ei=>if 0<ei.size then (match j.k with
           | .int _=>match y with
             | .d (.val (.int _ m))=>if 0<m then (if m<=140737488355328 then Ik rd slot e ei.size ei.bytes x (nO m.toNat (ei.zero.map sU)) m.toNat else none) else none
             | _=>none
           | .slice _=>match uy rd ei.size y with
             | some (cells,m)=>Ik rd slot e ei.size ei.bytes x cells m
             | none=>none
           | _=>none) else none
         | none=>none
       | _=>none
     | _,_,_=>none
   | .builtin .copy=>match c.args.toList.map ρ,(c.argTypes[0]?).bind T with
     | [.sl r off n _,.sl r2 off2 m _],some i=>match i.k with
       | .slice e=>match T e with
         | some ei=>match rd r,rd r2 with
           | some (.data e' s cs true),some (.data _ s2 cs2 _)=>if s=ei.size/\s2=s/\0<s then (if 1<=n then if 1<=m then if off<=cs.length then if off2+Nat.min m n*s<=cs2.length then
 some (dG .i64 (Nat.min m n),[(r,.data e' s ((cs.drop 0).take off++(cs2.drop off2).take (Nat.min m n*s)) true)]) else none else none else none else none) else none
           | _,_=>none
         | none=>none
       | _=>none
     | _,_=>none
   | .builtin .clear=>match c.args.toList.map ρ,(c.argTypes[0]?).bind T with
     | [.sl r off n _],some i=>match i.k with
       | .slice e=>match T e with
         | some ei=>match rd r with
           | some (.data e' s cs true)=>if s=ei.size/\0<s then (if 1<=n then if off<=cs.length then some (.undef,[(r,.data e' s ((cs.drop 0).take off) true)]) else none else none) else none
           | _=>none
         | none=>none
       | _=>none
     | _,_=>none
   | _=>none
 | _=>none
def restrict (rs:List Nat) (rd:Nat->Option AO):Nat->Option AO:=fun r=>if rs.contains r then rd r else none
def eff (T:Ty) (q:Nat->Bool) (rd:Nat->Option AO) (slot:Nat) (o:Oper) (ρ:Operand->AV):Option Eff :=
 let rs:=o.op.operands.toList.flatMap fun x=>(ρ x).refs
 match zJ T q (kinds (restrict rs rd)) o ρ with
 | some v=>some ⟨v,[],[],rs⟩
 | none=>match zL T (restrict (slot::rs) rd) slot o ρ with
   | some (v,u)=>some ⟨v,u,slot::rs,[]⟩
   | none=>match Hu T (restrict (slot::rs) rd) slot o ρ with
     | some (v,u)=>some ⟨v,u,slot::rs,[]⟩
     | none=>none
structure SL where
 n:Nat
 tm:List (Nat×AV)
 hp:List (Nat×AO)
def look {α:Type} (k:Nat):List (Nat×α)->Option α
 | []=>none
 | (i,x)::l=>if i=k then some x else look k l
def SL.get (s:SL) (t:Nat):AV:=match look t s.tm with | some x=>x | none => .junk
def SL.rd (s:SL) (r:Nat):Option AO:=look r s.hp
def SL.put (s:SL) (d:Option Nat) (v:AV):SL:=match d with | some t=>{s with tm:=(t,v)::s.tm} | none=>s
def oz (ops:Array Oper) (s:SL) (o:Oper):Option Bool :=
 match o.guard with
 | none=>some true
 | some (j,want)=>match (ops[j]?).bind (·.dst) with
   | none=>some false
   | some t=>match s.get t with
     | .d (.val (.bool b))=>some (b==want)
     | .undef=>some false
     | _=>none
theorem mV {P:Program} {t:Nat} {i:TI} (h:aO P t=some i):∃inf d z,P.info? t=some inf/\P.underlying t=some d/\inf.zero=some z/\inf.size=i.size/\inf.bytes=i.bytes/\i.k=fF d/\i.zero=z.cells.toList.map .val/\(∀u∈z.cells.toList,u.oneCell'=true)/\z.cells.toList.length=i.size:=by
 unfold aO at h;split at h
 ·rename_i inf d hi hd;split at h
  ·rename_i z hz;split at h
   ·rename_i hc;simp only [Option.some.injEq] at h;subst h;simp only [Bool.and_eq_true,List.all_eq_true,beq_iff_eq] at hc;exact ⟨inf,d,z,hi,hd,hz,rfl,rfl,rfl,rfl,hc.1.1,hc.1.2⟩
   ·cases h
  ·cases h
 ·cases h
section
variable {P:Program} {w:World} {t:Nat} {i:TI}
theorem run_sizeOf (h:aO P t=some i):(sizeOf t).run P w = .ok i.size w:=by
 obtain ⟨inf,d,z,h1,h2,h3,h4,h5,h6,h7,h8,h9⟩:=mV h;simp [sizeOf,typeInfo,h1,go_sem,h4]
theorem aP (h:aO P t=some i):∃d,P.underlying t=some d/\i.k=fF d:=by
 obtain ⟨inf,d,z,h1,h2,h3,h4,h5,h6,h7,h8,h9⟩:=mV h;exact ⟨d,h2,h6⟩
theorem sV (h:aO P t=some i):(isAgg t).run P w = .ok i.k.isAgg w:=by
 obtain ⟨d,hd,hk⟩:=aP h;rw [hk];cases d<;>simp [isAgg,hd,go_sem,run_underlying,fF,AT.isAgg]
theorem LD (h:aO P t=some i):∃z,(zeroValue t).run P w = .ok z w/\i.zero=z.cells.toList.map .val/\(∀u∈z.cells.toList,u.oneCell'=true)/\z.cells.toList.length=i.size:=by
 obtain ⟨inf,d,z,h1,h2,h3,h4,h5,h6,h7,h8,h9⟩:=mV h;exact ⟨z,by simp [zeroValue,typeInfo,h1,h3,go_sem],h7,h8,h9⟩
end
theorem ku {E:En}:∀(xs ys:List AV) (us vs:List Value),aG E xs us->aG E ys vs->aG E (xs++ys) (us++vs)
 | [],ys,us,vs,h,k=>by rw [aG] at h;subst h;exact k
 | x::xs,ys,us,vs,h,k=>by
   rw [aG] at h;obtain ⟨v,vs',rfl,h1,h2⟩:=h;rw [List.cons_append,aG];exact ⟨v,vs'++vs,rfl,h1,ku xs ys vs' vs h2 k⟩
theorem EU {E:En}:∀(us vs:List Value) (xs:List AV),aG E xs (us++vs)->aG E (xs.take us.length) us/\aG E (xs.drop us.length) vs
 | [],vs,xs,h=>⟨by simp only [List.length_nil,List.take_zero];rw [aG],h⟩
 | u::us,vs,[],h=>by rw [aG] at h;cases h
 | u::us,vs,x::xs,h=>by
   rw [aG] at h;obtain ⟨v,vs',e,h1,h2⟩:=h;cases e;obtain ⟨k1,k2⟩:=EU us vs xs h2;refine ⟨?_,k2⟩;rw [List.length_cons,List.take_succ_cons,aG];exact ⟨_,_,rfl,h1,k1⟩
theorem fH {E:En}:∀(xs:List AV) (us:List Value),aG E xs us->us.length=xs.length
 | [],us,h=>by rw [aG] at h;subst h;rfl
 | x::xs,us,h=>by
   rw [aG] at h;obtain ⟨v,vs',rfl,h1,h2⟩:=h;simp [fH xs vs' h2]
theorem qp {E:En}:∀(xs:List AV) (us:List Value) (i:Nat) (x:AV),aG E xs us->xs[i]? = some x->∃u,us[i]? = some u/\Rel E x u
 | [],us,i,x,h,hx=>by simp at hx
 | y::xs,us,i,x,h,hx=>by
   rw [aG] at h;obtain ⟨v,vs',rfl,h1,h2⟩:=h;cases i with
   | zero=>simp at hx;subst hx;exact ⟨v,rfl,h1⟩
   | succ i=>exact qp xs vs' i x h2 (by simpa using hx)
theorem sW {E:En}:∀(n:Nat) (xs:List AV) (us:List Value),aG E xs us->aG E (xs.drop n) (us.drop n)
 | 0,xs,us,h=>h
 | n+1,[],us,h=>by rw [aG] at h;subst h;rw [List.drop_nil,List.drop_nil,aG]
 | n+1,x::xs,us,h=>by
   rw [aG] at h;obtain ⟨v,vs',rfl,h1,h2⟩:=h;exact sW n xs vs' h2
theorem yc {E:En}:∀(n:Nat) (xs:List AV) (us:List Value),aG E xs us->aG E (xs.take n) (us.take n)
 | 0,xs,us,h=>by rw [List.take_zero,List.take_zero,aG]
 | n+1,[],us,h=>by rw [aG] at h;subst h;rw [List.take_nil,List.take_nil,aG]
 | n+1,x::xs,us,h=>by
   rw [aG] at h;obtain ⟨v,vs',rfl,h1,h2⟩:=h;rw [List.take_succ_cons,List.take_succ_cons,aG];exact ⟨v,_,rfl,h1,yc n xs vs' h2⟩
theorem mW {E:En} (ρ:Operand->AV) (ev:Operand->Value) (h:∀x,Rel E (ρ x) (ev x)):∀(l:List Operand),aG E (l.map ρ) (l.map ev)
 | []=>by rw [List.map_nil,List.map_nil,aG]
 | x::l=>by
   rw [List.map_cons,List.map_cons,aG];exact ⟨_,_,rfl,h x,mW ρ ev h l⟩
theorem nP {E:En}:∀(l:List Value),(∀u∈l,u.oneCell'=true)->aG E ((l.map DV.val).map .d) l
 | [],_=>by rw [List.map_nil,List.map_nil,aG]
 | x::l,h=>by
   rw [List.map_cons,List.map_cons,aG];refine ⟨_,_,rfl,?_,nP l fun u hu=>h u (List.mem_cons_of_mem _ hu)⟩;rw [Rel,bZ];exact ⟨rfl,h x List.mem_cons_self⟩
theorem sZ {lk:Nat->Option AK} {r:Nat} (h:fV lk r=true):∃k,lk r=some k/\k ≠ .dead/\k ≠ .mp:=by
 unfold fV at h;cases hh:lk r with
 | none=>rw [hh] at h;cases h
 | some k =>
   rw [hh] at h;refine ⟨k,rfl,fun e => ?_,fun e => ?_⟩
   ·subst e;cases h
   ·subst e;cases h
def jV (E:En) (lk:Nat->Option AK):Prop:=∀r k,lk r=some k->∃o,E.hp r=some o/\o.kind=k
theorem zM {E:En} {lk:Nat->Option AK} (hk:jV E lk) {r off:Nat} {u:Value} (hl:fV lk r=true) (h:Rel E (.ptr r off) u):∃b z,E.m r=some (b,z)/\u = .pointer (some ⟨b,off,none⟩):=by
 obtain ⟨k,h1,h2⟩:=sZ hl;obtain ⟨o,h3,h4⟩:=hk r k h1;rw [Rel,h3] at h;cases o<;>simp [AO.kind] at h4<;>first | exact h | (exact (h2.1 h4.symm).elim) | (exact (h2.2 h4.symm).elim)
theorem OC {E:En} {lk:Nat->Option AK} (hk:jV E lk) {r off n:Nat} {cap:Option Nat} {u:Value} (hl:fV lk r=true) (h:Rel E (.sl r off n cap) u) :
 ∃A c,u = .slice A n c/\n<=c/\c<=maxLen/\((n=0/\c=0)\/∃b z,E.m r=some (b,z)/\A=some ⟨b,off,none⟩):=by
 obtain ⟨k,h1,h2⟩:=sZ hl;obtain ⟨o,h3,h4⟩:=hk r k h1;rw [Rel,h3] at h;cases o with
 | dead=>simp [AO.kind] at h4;exact (h2.1 h4.symm).elim
 | mp kk ks vs=>simp [AO.kind] at h4;exact (h2.2 h4.symm).elim
 | mix cs =>
   obtain ⟨b,z,c,g1,g2,g3,g4,g5⟩:=h;exact ⟨_,c,g2,g4,g5,.inr ⟨b,z,g1,rfl⟩⟩
 | data e s cs wr =>
   rcases h with ⟨rfl,h5,_,A,rfl⟩ | ⟨b,z,c,g1,g2,g3,g4,g5,g6⟩
   ·exact ⟨A,0,rfl,Nat.le_refl _,Nat.zero_le _,.inl ⟨rfl,rfl⟩⟩
   ·exact ⟨_,c,g2,g3,g4,.inr ⟨b,z,g1,rfl⟩⟩
theorem OD {E:En} {lk:Nat->Option AK} (hk:jV E lk) {r off n c:Nat} {u:Value} (hl:fV lk r=true) (h:Rel E (.sl r off n (some c)) u):∃A,u = .slice A n c:=by
 obtain ⟨k,h1,h2⟩:=sZ hl;obtain ⟨o,h3,h4⟩:=hk r k h1;rw [Rel,h3] at h;cases o with
 | dead=>simp [AO.kind] at h4;exact (h2.1 h4.symm).elim
 | mp kk ks vs=>simp [AO.kind] at h4;exact (h2.2 h4.symm).elim
 | mix cs =>
   obtain ⟨b,z,c',g1,g2,g3,g4,g5⟩:=h;cases g3;exact ⟨_,g2⟩
 | data e s cs wr =>
   rcases h with ⟨rfl,h5,_,A,rfl⟩ | ⟨b,z,c',g1,g2,g3,g4,g5,g6⟩
   ·rcases h5 with h5 | h5
    ·cases h5
    ·cases h5;exact ⟨A,rfl⟩
   ·have g6:c'=c:=g6;subst g6;exact ⟨_,g2⟩
theorem oneCell_cells {u:Value} (h:u.oneCell'=true):u.cells = #[u]:=by cases u<;>simp [Value.oneCell'] at h<;>rfl
theorem LG {h:Array Obj} {X:Nat->Prop} {x:DV} {u:Value} (hr:bZ h X x u):u.oneCell'=true:=by
 cases x with
 | val v=>rw [bZ] at hr;rw [hr.1];exact hr.2
 | dl cells n cap=>rw [bZ] at hr;obtain ⟨A,c,rfl,_⟩:=hr;rfl
theorem Rw {E:En} {lk:Nat->Option AK} (hk:jV E lk) {x:AV} {u:Value} (hv:sS lk x=true) (hx:∀cs,x ≠ .agg cs) (h:Rel E x u):u.oneCell'=true:=by
 cases x with
 | agg cs=>exact (hx cs rfl).elim
 | d x=>rw [Rel] at h;exact LG h
 | dptr cells off=>rw [Rel] at h;obtain ⟨b,o,rfl,_⟩:=h;rfl
 | clo f caps=>rw [Rel] at h;obtain ⟨vs,⟨rfl,_⟩,_⟩:=h;rfl
 | ptr r off=>obtain ⟨b,z,_,rfl⟩:=zM hk hv h;rfl
 | sl r off n cap=>obtain ⟨A,c,rfl,_⟩:=OC hk hv h;rfl
 | tup vs=>cases hv
 | undef=>cases hv
 | ab=>cases hv
 | junk=>cases hv
theorem yg {E:En} {lk:Nat->Option AK} (hk:jV E lk) {x:AV} {u:Value} (hv:sS lk x=true) (h:Rel E x u):aG E x.cellsOf u.cells.toList:=by
 by_cases hx:∀cs,x ≠ .agg cs
 ·rw [oneCell_cells (Rw hk hv hx h)];have:x.cellsOf=[x]:=by cases x<;>first | rfl | exact (hx _ rfl).elim
  rw [this,aG];exact ⟨u,[],rfl,h,by rw [aG]⟩
 ·have:∃cs,x = .agg cs:=by
   cases x<;>first | exact ⟨_,rfl⟩ | (exfalso;apply hx;intro cs;simp)
  obtain ⟨cs,rfl⟩:=this;rw [Rel] at h;obtain ⟨vs,rfl,h⟩:=h;exact h
theorem oD {α:Type}:∀(l:List α) (o:Nat) (new:List α),o+new.length<=l.length->(splice l o new).length=l.length
 | l,0,new,h=>by cases l<;>simp [splice] at h ⊢ <;> omega
 | [],o+1,new,h=>by simp at h
 | x::l,o+1,new,h=>by
   rw [splice,List.length_cons,oD l o new (by simp at h;omega),List.length_cons]
theorem uD {α:Type}:∀(l:List α) (o:Nat),splice l o []=l
 | l,0=>by cases l<;>simp [splice]
 | [],o+1=>rfl
 | x::l,o+1=>by rw [splice,uD l o]
theorem Dn {α:Type}:∀(l:List α) (o:Nat) (x:α) (new:List α),o+(new.length+1)<=l.length->splice l o (x::new)=splice (l.set o x) (o+1) new
 | [],o,x,new,h=>by exfalso;simp at h
 | y::l,0,x,new,h=>by
   simp only [splice,List.set_cons_zero,List.cons_append,List.length_cons,List.drop_succ_cons]
   try rfl
 | y::l,o+1,x,new,h=>by
   rw [splice,List.set_cons_succ,splice,Dn l o x new (by simp at h;omega)]
theorem Dp:∀(new:List Value) (j off:Nat) (cells:Array Value),off+j+new.length<=cells.size ->
 ((new.zipIdx j).foldl (fun cs (p:Value×Nat)=>cs.setIfInBounds (off+p.2) p.1) cells).toList=splice cells.toList (off+j) new
 | [],j,off,cells,h=>by simp [uD]
 | x::new,j,off,cells,h=>by
   rw [List.zipIdx_cons,List.foldl_cons,Dp new (j+1) off _ (by simp at h ⊢;omega),Dn _ _ _ _ (by simp at h ⊢;omega)];simp only [Array.toList_setIfInBounds,Nat.add_assoc]
theorem wC {E:En}:∀(o:Nat) (cs:List AV) (us:List Value) (new:List AV) (vs:List Value),aG E cs us->aG E new vs->aG E (splice cs o new) (splice us o vs)
 | 0,cs,us,new,vs,h,k=>by
   have hl:=fH new vs k;have e1:splice cs 0 new=new++cs.drop new.length:=by cases cs<;>rfl
   have e2:splice us 0 vs=vs++us.drop vs.length:=by cases us<;>rfl
   rw [e1,e2,hl];exact ku _ _ _ _ k (sW _ _ _ h)
 | o+1,[],us,new,vs,h,k=>by rw [aG] at h;subst h;rw [splice,splice,aG]
 | o+1,x::cs,us,new,vs,h,k=>by
   rw [aG] at h;obtain ⟨v,vs',rfl,h1,h2⟩:=h;rw [splice,splice,aG];exact ⟨v,_,rfl,h1,wC o cs vs' new vs h2 k⟩
theorem zN {E:En} {lk:Nat->Option AK} (hk:jV E lk) {pa:Nat->Option (Nat×Nat)}:∀(parts:List (Nat×Operand)) (ρ:Operand->AV) (ev:Operand->Value) (cs cs':List AV) (cells:Array Value),
 (∀x,Rel E (ρ x) (ev x))->(∀p∈parts,sS lk (ρ p.2)=true)->aG E cs cells.toList->l7 pa cs (parts.map fun p=>(p.1,ρ p.2))=some cs' ->
 ∃cells',Instr.fill pa cells (parts.map fun p=>(p.1,ev p.2))=some cells'/\aG E cs' cells'.toList
 | [],ρ,ev,cs,cs',cells,hρ,hv,hc,h=>by
   simp only [List.map_nil,l7,Option.some.injEq] at h;subst h;exact ⟨cells,rfl,hc⟩
 | (i,x)::parts,ρ,ev,cs,cs',cells,hρ,hv,hc,h=>by
   simp only [List.map_cons,l7] at h;split at h
   ·cases h
   ·rename_i off size hp;split at h
    ·rename_i hcond;have hx:=yg hk (hv (i,x) List.mem_cons_self) (hρ x);have hl1:=fH _ _ hx;have hl2:=fH _ _ hc;have hsz:(ev x).cells.size=size:=by rw [<-Array.length_toList,hl1];exact hcond.1
     have hsz2:cells.size=cs.length:=by rw [<-Array.length_toList,hl2]
     have hf:=Dp (ev x).cells.toList 0 off cells (by rw [Array.length_toList];omega);have hfold:(ev x).cells.zipIdx.foldl (fun cs (p:Value×Nat)=>cs.setIfInBounds (off+p.2) p.1) cells=((ev x).cells.toList.zipIdx 0).foldl (fun cs (p:Value×Nat)=>cs.setIfInBounds (off+p.2) p.1) cells:=by
      rw [<-Array.foldl_toList,Array.toList_zipIdx]
     obtain ⟨cells',h1,h2⟩:=zN hk parts ρ ev (splice cs off (ρ x).cellsOf) cs' _ hρ (fun p hp=>hv p (List.mem_cons_of_mem _ hp)) (by rw [hf];exact wC _ _ _ _ _ hc hx) h;refine ⟨cells',?_,h2⟩;simp only [List.map_cons,Instr.fill,hp];rw [if_neg (by simp [hsz];omega)];rw [<-h1,<-hfold]
    ·cases h
section
variable {P:Program} {E:En} {lk:Nat->Option AK} {ρ:Operand->AV} {ev:Operand->Value} {w:World}
theorem wE:∀(fields:List Field) (pl:List (Nat×Nat)),rD (aO P) (fields.map fun f=>(f.offset,f.type))=some pl ->
 (fields.mapM fun (f:Field)=>Prod.mk f.offset <$> sizeOf f.type).run P w = .ok pl w
 | [],pl,h=>by
   simp only [List.map_nil,rD,Option.some.injEq] at h;subst h;simp [go_sem]
 | f::fields,pl,h=>by
   simp only [List.map_cons,rD] at h;split at h
   ·rename_i fi r h1 h2;simp only [Option.some.injEq] at h;subst h;have ih:=wE fields r h2;simp only [List.mapM_cons];simp [go_sem,run_sizeOf h1,ih]
   ·cases h
theorem Un (hk:jV E lk) (hρ:∀x,Rel E (ρ x) (ev x)) {t:Nat} {i:TI} (ht:aO P t=some i) {fs:List (Nat×Nat)} (hf:i.k = .agg fs) {pl:List (Nat×Nat)} (hpl:rD (aO P) fs=some pl)
 (parts:Array (Nat×Operand)) (hv:∀p∈parts.toList,sS lk (ρ p.2)=true) {cs:List AV} (h:l7 (fun j:Nat=>pl[j]?) (i.zero.map .d) (parts.toList.map fun p=>(p.1,ρ p.2))=some cs) :
 ∃u,(Instr.build t (parts.map fun p=>(p.1,ev p.2))).run P w = .ok u w/\Rel E (.agg cs) u:=by
 obtain ⟨inf,d,z,h1,h2,h3,h4,h5,h6,h7,h8,h9⟩:=mV ht;rw [hf] at h6;cases d<;>simp only [fF] at h6<;>try (cases h6;done)
 rename_i fields;simp only [AT.agg.injEq] at h6;subst h6;obtain ⟨cells',g1,g2⟩:=zN hk parts.toList ρ ev _ cs z.cells hρ hv (by rw [h7];exact nP _ h8) h;have hm:=wE (P:=P) (w:=w) fields.toList pl hpl;have hpp:(fun j=>pl.toArray[j]?)=(fun j:Nat=>pl[j]?):=by funext j;simp
 refine ⟨.agg cells',?_,by rw [Rel];exact ⟨_,rfl,g2⟩⟩;have hz:(zeroValue t).run P w = .ok z w:=by simp [zeroValue,typeInfo,h1,h3,go_sem]
 simp only [Instr.build];simp [go_sem,hz,run_underlying h2,Array.mapM_eq_mapM_toList];rw [hm];show (match Instr.fill (fun j:Nat=>pl[j]?) z.cells (List.map (fun p:Nat×Operand=>(p.fst,ev p.snd)) parts.toList) with | some cells=>(pure (Value.agg cells):Sem Value) | _=>stuck _).run P w=_;rw [g1];rfl
theorem Hw (hk:jV E lk) (hρ:∀x,Rel E (ρ x) (ev x)) {t:Nat} {i:TI} (ht:aO P t=some i) {n e:Nat} (hf:i.k = .arr n e) {ei:TI} (hei:aO P e=some ei)
 (parts:Array (Nat×Operand)) (hv:∀p∈parts.toList,sS lk (ρ p.2)=true) {cs:List AV} (h:l7 (fun j=>some (j*ei.size,ei.size)) (i.zero.map .d) (parts.toList.map fun p=>(p.1,ρ p.2))=some cs) :
 ∃u,(Instr.build t (parts.map fun p=>(p.1,ev p.2))).run P w = .ok u w/\Rel E (.agg cs) u:=by
 obtain ⟨inf,d,z,h1,h2,h3,h4,h5,h6,h7,h8,h9⟩:=mV ht;rw [hf] at h6;cases d<;>simp only [fF] at h6<;>try (cases h6;done)
 simp only [AT.arr.injEq] at h6;obtain ⟨rfl,rfl⟩:=h6;obtain ⟨cells',g1,g2⟩:=zN hk parts.toList ρ ev _ cs z.cells hρ hv (by rw [h7];exact nP _ h8) h;refine ⟨.agg cells',?_,by rw [Rel];exact ⟨_,rfl,g2⟩⟩;have hz:(zeroValue t).run P w = .ok z w:=by simp [zeroValue,typeInfo,h1,h3,go_sem]
 simp only [Instr.build,Sem.run_bind,hz,run_underlying h2,Result.andThen_ok,run_sizeOf hei,Array.toList_map,g1,Sem.run_pure]
theorem zO {t:Nat} {i:TI} (ht:aO P t=some i) {cs:List AV} {vs:Array Value} (hc:aG E cs vs.toList) {off:Nat} {v:AV} (h:fQ i cs off=some v) :
 ∃u,(part t vs off).run P w = .ok u w/\Rel E v u:=by
 unfold fQ at h;split at h
 ·rename_i ha;split at h
  ·rename_i hl;simp only [Option.some.injEq] at h;subst h;refine ⟨.agg (vs.extract off (off+i.size)),?_,?_⟩
   ·simp [part,go_sem,sV ht,ha,run_sizeOf ht]
   ·rw [Rel];refine ⟨_,rfl,?_⟩;rw [Array.toList_extract,List.extract_eq_take_drop];have:=yc i.size _ _ (sW off _ _ hc);simpa using this
  ·cases h
 ·rename_i ha;obtain ⟨u,hu,hr⟩:=qp _ _ _ _ hc h;refine ⟨u,?_,hr⟩;have hu':vs[off]? = some u:=by simpa using hu
  simp [part,go_sem,sV ht,ha,hu']
theorem Uo {t j:Nat} {i fi:TI} (ht:aO P t=some i) {fs:List (Nat×Nat)} (hf:i.k = .agg fs) {o ft:Nat} (hj:fs[j]? = some (o,ft)) (hft:aO P ft=some fi) {cs:List AV} {vs:Array Value} (hc:aG E cs vs.toList) {v:AV} (h:fQ fi cs o=some v) :
 ∃u,(Instr.field t (.agg vs) j).run P w = .ok u w/\Rel E v u:=by
 obtain ⟨d,hd,hk⟩:=aP ht;rw [hf] at hk;cases d<;>simp only [fF] at hk<;>try (cases hk;done)
 rename_i fields;simp only [AT.agg.injEq] at hk;subst hk;simp only [List.getElem?_map,Option.map_eq_some_iff,Array.getElem?_toList] at hj;obtain ⟨f,hf1,hf2⟩:=hj;simp only [Prod.mk.injEq] at hf2;obtain ⟨rfl,rfl⟩:=hf2;obtain ⟨u,hu,hr⟩:=zO (w:=w) hft hc h;exact ⟨u,by simp [Instr.field,go_sem,run_underlying hd,hf1,asAgg];simpa [part,go_sem] using hu,hr⟩
theorem Dq {t j:Nat} {i fi:TI} (ht:aO P t=some i) {fs:List (Nat×Nat)} (hf:i.k = .agg fs) {o ft:Nat} (hj:fs[j]? = some (o,ft)) (hft:aO P ft=some fi) (hn:fi.size≠0) (b off:Nat) :
 (Instr.fieldAt t (.pointer (some ⟨b,off,none⟩)) j).run P w = .ok (.pointer (some ⟨b,off+o,none⟩)) w:=by
 obtain ⟨d,hd,hk⟩:=aP ht;rw [hf] at hk;cases d<;>simp only [fF] at hk<;>try (cases hk;done)
 rename_i fields;simp only [AT.agg.injEq] at hk;subst hk;simp only [List.getElem?_map,Option.map_eq_some_iff,Array.getElem?_toList] at hj;obtain ⟨f,hf1,hf2⟩:=hj;simp only [Prod.mk.injEq] at hf2;obtain ⟨rfl,rfl⟩:=hf2;have ha:(⟨b,off,none⟩:Addr).add f.offset=⟨b,off+f.offset,none⟩:=by unfold Addr.add;split<;>simp_all
 simp [Instr.fieldAt,go_sem,run_underlying hd,hf1,Instr.sureAddr,run_sizeOf hft,hn,ha]
theorem zQ {x:AV} {n j:Nat} (h:idx? x n=some j):∃k,x = .d (.val (.int k j))/\j<n:=by
 unfold idx? at h;split at h
 ·rename_i k i;split at h
  ·rename_i hc;simp only [Option.some.injEq] at h;subst h;obtain ⟨m,rfl⟩:=Int.eq_ofNat_of_zero_le hc.1;exact ⟨k,by simp,by simp;omega⟩
  ·cases h
 ·cases h
theorem yZ {x:AV} {n j:Nat} (h:idxLe? x n=some j):∃k,x = .d (.val (.int k j))/\j<=n:=by
 unfold idxLe? at h;split at h
 ·rename_i k i;split at h
  ·rename_i hc;simp only [Option.some.injEq] at h;subst h;obtain ⟨m,rfl⟩:=Int.eq_ofNat_of_zero_le hc.1;exact ⟨k,by simp,by simp;omega⟩
  ·cases h
 ·cases h
theorem aQ {v u:Value} (h:Rel E (.d (.val v)) u):u=v:=by
 rw [Rel,bZ] at h;exact h.1
theorem addr_add (b off n:Nat):(⟨b,off,none⟩:Addr).add n=⟨b,off+n,none⟩:=by unfold Addr.add;split<;>simp_all
theorem Dt {t n e:Nat} {i ei:TI} (ht:aO P t=some i) (hk:i.k = .arr n e) (hei:aO P e=some ei) (b off j:Nat) (k:IntKind) (hj:j<n) :
 (Instr.indexAt t (.pointer (some ⟨b,off,none⟩)) (.int k j)).run P w = .ok (.pointer (some ⟨b,off+j*ei.size,none⟩)) w:=by
 obtain ⟨d,hd,hk'⟩:=aP ht;rw [hk] at hk';cases d<;>simp only [fF] at hk'<;>try (cases hk';done)
 simp only [AT.arr.injEq] at hk';obtain ⟨rfl,rfl⟩:=hk';have h1:(j:Int)<n:=by omega
 simp [Instr.indexAt,go_sem,run_underlying hd,asIntOf,Instr.sureAddr,h1,run_sizeOf hei,addr_add,Nat.not_le.2 hj]
theorem EW {t e:Nat} {i ei:TI} (ht:aO P t=some i) (hk:i.k = .slice e) (hei:aO P e=some ei) (b off n c j:Nat) (k:IntKind) (hj:j<n) :
 (Instr.indexAt t (.slice (some ⟨b,off,none⟩) n c) (.int k j)).run P w = .ok (.pointer (some ⟨b,off+j*ei.size,none⟩)) w:=by
 obtain ⟨d,hd,hk'⟩:=aP ht;rw [hk] at hk';cases d<;>simp only [fF] at hk'<;>try (cases hk';done)
 simp only [AT.slice.injEq] at hk';subst hk';have h1:(j:Int)<n:=by omega
 simp [Instr.indexAt,go_sem,run_underlying hd,asIntOf,h1,run_sizeOf hei,addr_add,Nat.not_le.2 hj]
end
section
variable {P:Program} {E:En} {lk:Nat->Option AK} {ρ:Operand->AV} {ev:Operand->Value} {w:World}
set_option maxHeartbeats 1000000 in
theorem XA {op:BinOp} {t:Nat} {x y v:Value} (h:sF op x y=some v):(binOp op t x y).run P w = .ok v w/\v.oneCell'=true:=by
 unfold sF at h;split at h
 all_goals first
  | (cases h;done)
  | (split at h
     ·rename_i hc
      first
       | (simp only [Option.some.injEq] at h;subst h;refine ⟨?_,rfl⟩
          have h1:=Int.not_lt.2 hc;simp [binOp,Op.shift,go_sem,h1];done)
       | (subst hc;simp only [Option.some.injEq] at h;subst h
          refine ⟨?_,rfl⟩;simp [binOp,Op.intArith,Op.intBits,Op.intCmp,go_sem];done)
       | (subst hc;split at h
          ·cases h
          ·rename_i hn;simp only [Option.some.injEq] at h;subst h;refine ⟨?_,rfl⟩;simp [binOp,Op.intDiv,go_sem,hn];done)
       | (simp only [Option.some.injEq] at h;subst h;refine ⟨?_,rfl⟩
          simp [binOp,Op.stringOp,go_sem];omega)
     ·cases h)
  | (simp only [Option.some.injEq] at h;subst h;refine ⟨?_,rfl⟩
     simp [binOp,Op.stringOp,Op.equal,Op.equalIn,go_sem];done)
  | skip
 ·split at h
  ·rename_i hc;simp only [Option.some.injEq] at h;subst h;refine ⟨?_,rfl⟩;simp only [binOp,Op.stringOp];rw [if_neg (Int.not_lt.2 hc)];rfl
  ·cases h
theorem LH {op:BinOp} {t:Nat} {xo yo:Operand} {x y v:Value} (h:sF op x y=some v):(eqGuard op t xo yo x y).run P w = .ok () w:=by
 unfold eqGuard;unfold sF at h;split at h<;>first | (cases h;done) | simp [go_sem]
theorem Jz {t:Nat} (hd:P.underlying t=some .bool) (n:Nat) (a b:Bool):(Op.equalIn (n+1) t (.bool a) (.bool b)).run P w = .ok (a==b) w:=by
 rw [Op.equalIn];simp [go_sem,run_underlying hd]
theorem Du {t:Nat} {i:TI} (ht:aO P t=some i) (hk:i.k = .bool) (a b:Bool):(binOp .eql t (.bool a) (.bool b)).run P w = .ok (.bool (a==b)) w/\(binOp .neq t (.bool a) (.bool b)).run P w = .ok (.bool (a != b)) w:=by
 obtain ⟨d,hd,hk'⟩:=aP ht;rw [hk] at hk';cases d<;>simp only [fF] at hk'<;>try (cases hk';done)
 have h2:(Op.equal t (.bool a) (.bool b)).run P w = .ok (a==b) w:=Jz hd 9999 a b;have e1:binOp .eql t (.bool a) (.bool b)=(do pure (.bool (<-Op.equal t (.bool a) (.bool b)))):=rfl;have e2:binOp .neq t (.bool a) (.bool b)=(do pure (.bool (!(<-Op.equal t (.bool a) (.bool b))))):=rfl;rw [e1,e2];generalize Op.equal t (.bool a) (.bool b)=e at *
 constructor<;>simp [go_sem,h2,bne]
theorem EX {t e:Nat} {i:TI} (ht:aO P t=some i) (hk:i.k = .slice e) (A:Option Addr) (n c:Nat):(binOp .eql t (.slice A n c) (.slice none 0 0)).run P w = .ok (.bool A.isNone) w/\(binOp .neq t (.slice A n c) (.slice none 0 0)).run P w = .ok (.bool (!A.isNone)) w:=by
 obtain ⟨d,hd,hk'⟩:=aP ht;rw [hk] at hk';cases d<;>simp only [fF] at hk'<;>try (cases hk';done)
 have h2:(Op.equal t (.slice A n c) (.slice none 0 0)).run P w = .ok A.isNone w:=by
  unfold Op.equal;rw [show Op.maxDepth=9999+1 from rfl];unfold Op.equalIn;cases A<;>simp [go_sem,run_underlying hd]
 have e1:binOp .eql t (.slice A n c) (.slice none 0 0)=(do pure (.bool (<-Op.equal t (.slice A n c) (.slice none 0 0)))):=rfl;have e2:binOp .neq t (.slice A n c) (.slice none 0 0)=(do pure (.bool (!(<-Op.equal t (.slice A n c) (.slice none 0 0))))):=rfl;rw [e1,e2];generalize Op.equal t (.slice A n c) (.slice none 0 0)=e at *
 constructor<;>simp [go_sem,h2]
theorem Dv {t e:Nat} {i:TI} (ht:aO P t=some i) (hk:i.k = .ptr e) (A:Option Addr):(binOp .eql t (.pointer A) (.pointer none)).run P w = .ok (.bool A.isNone) w/\(binOp .neq t (.pointer A) (.pointer none)).run P w = .ok (.bool (!A.isNone)) w:=by
 obtain ⟨d,hd,hk'⟩:=aP ht;rw [hk] at hk';cases d<;>simp only [fF] at hk'<;>try (cases hk';done)
 have h2:(Op.equal t (.pointer A) (.pointer none)).run P w = .ok A.isNone w:=by
  unfold Op.equal;rw [show Op.maxDepth=9999+1 from rfl];unfold Op.equalIn;cases A<;>simp [go_sem,run_underlying hd]
 have e1:binOp .eql t (.pointer A) (.pointer none)=(do pure (.bool (<-Op.equal t (.pointer A) (.pointer none)))):=by cases A<;>rfl
 have e2:binOp .neq t (.pointer A) (.pointer none)=(do pure (.bool (!(<-Op.equal t (.pointer A) (.pointer none))))):=by cases A<;>rfl
 rw [e1,e2];generalize Op.equal t (.pointer A) (.pointer none)=e at *
 constructor<;>simp [go_sem,h2]
theorem Dw {op:BinOp} {t:Nat} {xo yo:Operand} {A B:Option Addr}:(eqGuard op t xo yo (.pointer A) (.pointer B)).run P w = .ok () w:=by
 unfold eqGuard;cases op<;>simp [go_sem]
theorem yU {op:BinOp} {t:Nat} {xo yo:Operand} {A B:Option Addr} {n c n' c':Nat}:(eqGuard op t xo yo (.slice A n c) (.slice B n' c')).run P w = .ok () w:=by
 unfold eqGuard;cases op<;>simp [go_sem]
theorem zS {op:BinOp} {t:Nat} {xo yo:Operand} (a b:Bool):(eqGuard op t xo yo (.bool a) (.bool b)).run P w = .ok () w:=by
 unfold eqGuard;cases op<;>simp [go_sem]
theorem aaZ {op:UnOp} {x v:Value} (h:unV op x=some v):(Op.unary op x).run P w = .ok v w/\v.oneCell'=true:=by
 unfold unV at h;split at h
 ·simp only [Option.some.injEq] at h;subst h;exact ⟨by simp [Op.unary,Op.intArith,go_sem],rfl⟩
 ·simp only [Option.some.injEq] at h;subst h;exact ⟨by simp [Op.unary,go_sem],rfl⟩
 ·simp only [Option.some.injEq] at h;subst h;exact ⟨by simp [Op.unary,Op.intBits,go_sem],rfl⟩
 ·cases h
theorem LJ {src dst:Nat} {si di:TI} (hs:aO P src=some si) (hd:aO P dst=some di) {k:IntKind} (hk:di.k = .int k) (k0 k1:IntKind) (n:Int):(convert src dst (.int k0 n)).run P w = .ok (.int k (k.wrap n)) w:=by
 obtain ⟨d,hdd,hk'⟩:=aP hd;obtain ⟨e,hee,_⟩:=aP hs;rw [hk] at hk';cases d<;>simp only [fF] at hk'<;>try (cases hk';done)
 simp only [AT.int.injEq] at hk';subst hk';simp [convert,go_sem,run_underlying hdd,run_underlying hee,Conv.intToInt]
theorem LK {src dst:Nat} {si di:TI} (hs:aO P src=some si) (hd:aO P dst=some di) (hk0:si.k = .str) (hk:di.k = .str) (s:ByteArray):(convert src dst (.string s)).run P w = .ok (.string s) w:=by
 obtain ⟨d,hdd,hk'⟩:=aP hd;obtain ⟨e,hee,hk2⟩:=aP hs;rw [hk] at hk';rw [hk0] at hk2;cases d<;>simp only [fF] at hk'<;>try (cases hk';done)
 cases e<;>simp only [fF] at hk2<;>try (cases hk2;done)
 simp [convert,go_sem,run_underlying hdd,run_underlying hee]
theorem Ur {t:Nat} {i:TI} (ht:aO P t=some i) (hk:i.k = .str) (s:ByteArray) (k:IntKind) (j:Int) (hj:0<=j) {b:UInt8} (hb:s.data.toList[j.toNat]? = some b):(Instr.index t (.string s) (.int k j)).run P w = .ok (.int .u8 b.toNat) w:=by
 obtain ⟨d,hd,hk'⟩:=aP ht;rw [hk] at hk';cases d<;>simp only [fF] at hk'<;>try (cases hk';done)
 have hb':s[j.toNat]? = some b:=by
  rw [Array.getElem?_toList] at hb;obtain ⟨h1,h2⟩:=Array.getElem?_eq_some_iff.1 hb;rw [getElem?_pos (h:=by exact h1)];exact congrArg some h2
 simp [Instr.index,go_sem,run_underlying hd,asIntOf,hj,hb']
theorem Us {t n e:Nat} {i ei:TI} (ht:aO P t=some i) (hk:i.k = .arr n e) (hei:aO P e=some ei) (vs:Array Value) (j:Nat) (k:IntKind) (hj:j<n) {cs:List AV} (hc:aG E cs vs.toList) {v:AV} (h:fQ ei cs (j*ei.size)=some v) :
 ∃u,(Instr.index t (.agg vs) (.int k j)).run P w = .ok u w/\Rel E v u:=by
 obtain ⟨d,hd,hk'⟩:=aP ht;rw [hk] at hk';cases d<;>simp only [fF] at hk'<;>try (cases hk';done)
 simp only [AT.arr.injEq] at hk';obtain ⟨rfl,rfl⟩:=hk';obtain ⟨u,hu,hr⟩:=zO (w:=w) hei hc h;refine ⟨u,?_,hr⟩;have h1:(j:Int)<n:=by omega
 have hu':=hu;simp [part,go_sem,run_sizeOf hei] at hu';simp [Instr.index,go_sem,run_underlying hd,asIntOf,h1,hj,run_sizeOf hei,hu']
def LM (P:Program):Prop:=∀t n f,Oz t n=some f->∃inf m d,P.info? t=some inf/\inf.methods.find? (·.name==n)=some m/\m.path = #[]/\m.func=some (f,false)/\P.underlying t=some (.struct d)
def Ov (P:Program) (q:Nat→Bool):Prop:=(∀t,q t=true→P.stoodInHeld t=false∧∀f∈(P.fieldsOf t).toList,f.name ≠ "_")∧LM P
theorem OE {P:Program} {w:World} (hI:LM P) {t:Nat} {n:String} {f:Nat} (h:Oz t n=some f) (k:Nat):(method (k+1) t (.agg #[]) n).run P w = .ok (f,.agg #[]) w:=by
 obtain ⟨inf,m,d,h1,h2,h3,h4,h5⟩:=hI _ _ _ h;simp [method,typeInfo,h1,h2,h3,h4,follow,receiverAt,run_underlying h5,Place.get,go_sem]
theorem Ut {P:Program} {w:World} (hI:LM P) {t:Nat} {n:String} {f:Nat} (h:Oz t n=some f) (k:Nat):(nilAhead (k+1) t (.agg #[]) n).run P w = .ok (some false) w:=by
 obtain ⟨inf,m,d,h1,h2,h3,h4,h5⟩:=hI _ _ _ h;simp [nilAhead,typeInfo,h1,h2,h3,h4,followBlind,run_underlying h5,go_sem]
theorem Uu {P:Program} {w:World} (hI:LM P) {v:Value} (h:invV v=true):∃n fs cp t x,v = .func (.method n) fs cp/\fs[0]? = some (.iface t x)/\(nilAhead (P.types.size+Made.depth) t x n).run P w = .ok (some false) w:=by
 unfold invV at h;split at h
 ·rename_i n fs cp;split at h
  ·rename_i t cs hl;rw [Bool.and_eq_true] at h;obtain ⟨f,hf⟩:=Option.isSome_iff_exists.1 h.2;have hc:cs = #[]:=by
    have:=List.isEmpty_iff.1 h.1;exact Array.toList_inj.1 (by rw [this])
   subst hc;refine ⟨n,fs,cp,t,_,rfl,?_,Ut hI hf _⟩;rw [<-Array.getElem?_toList,hl];rfl
  ·cases h
 ·cases h
theorem OG {ft:Nat} {fi:TI} (hft:aO P ft=some fi) {x y:AV} {b:Bool} (h:vZ fi.k x y=some b) {u v:Value} (hx:Rel E x u) (hy:Rel E y v) (n:Nat):(Op.equalIn (n+1) ft u v).run P w = .ok b w:=by
 obtain ⟨d,hd,hk⟩:=aP hft;unfold vZ at h;split at h
 ·rename_i k1 k a k' c hk1;split at h
  ·rename_i hkk;subst hkk;simp only [Option.some.injEq] at h;subst h;rw [aQ hx,aQ hy];rw [hk1] at hk;cases d<;>simp only [fF] at hk<;>try (cases hk;done)
   exact run_equalIn_int w n ft _ _ _ _ hd
  ·cases h
 ·rename_i a c hk1;simp only [Option.some.injEq] at h;subst h;rw [aQ hx,aQ hy];rw [hk1] at hk;cases d<;>simp only [fF] at hk<;>try (cases hk;done)
  exact run_equalIn_bool' w n ft _ _ hd
 ·rename_i a c hk1;simp only [Option.some.injEq] at h;subst h;rw [aQ hx,aQ hy];rw [hk1] at hk;cases d<;>simp only [fF] at hk<;>try (cases hk;done)
  exact run_equalIn_string w n ft _ _ hd
 ·cases h
theorem zT {k:AT} (h:k.leaf=true):k.isAgg=false:=by cases k<;>simp [AT.leaf] at h<;>rfl
theorem Rx {q:Nat->Bool} {sub:Nat->List AV->List AV->Option Bool} (d:Nat)
 (hsub:∀t xs ys b,sub t xs ys=some b->∀us vs:Array Value,aG E xs us.toList->aG E ys vs.toList->(Op.equalIn (d+1) t (.agg us) (.agg vs)).run P w = .ok b w)
 (hagg:∀t xs ys b,sub t xs ys=some b->∃i,aO P t=some i/\i.k.isAgg=true) :
 ∀(fs:List Field),(∀f∈fs,f.name ≠ "_")→∀(xs ys:List AV) (us vs:Array Value) (b:Bool),aG E xs us.toList→aG E ys vs.toList →
  zG.eqF (aO P) q sub (fs.map fun f=>(f.offset,f.type)) xs ys=some b->(Op.eqFields (d+1) us vs fs).run P w = .ok b w
 | [],_,xs,ys,us,vs,b,hx,hy,h=>by
   simp only [List.map_nil,zG.eqF,Option.some.injEq] at h;subst h;simp [Op.eqFields]
 | f::fs,hn,xs,ys,us,vs,b,hx,hy,h=>by
   have hn1:=hn f List.mem_cons_self;simp only [List.map_cons,zG.eqF] at h;split at h
   ·cases h
   ·rename_i fi hft;split at h
    ·rename_i a c ha hc;simp only [Option.some.injEq] at h;subst h;have ih:=Rx d hsub hagg fs (fun g hg=>hn g (List.mem_cons_of_mem _ hg)) xs ys us vs c hx hy hc;have key:∃u v,(part f.type us f.offset).run P w = .ok u w/\(part f.type vs f.offset).run P w = .ok v w/\(Op.equalIn (d+1) f.type u v).run P w = .ok a w:=by
      by_cases hl:fi.k.leaf=true
      ·rw [if_pos hl] at ha;split at ha
       ·rename_i x y hx1 hy1;have p1:fQ fi xs f.offset=some x:=by unfold fQ;rw [zT hl];exact hx1
        have p2:fQ fi ys f.offset=some y:=by unfold fQ;rw [zT hl];exact hy1
        obtain ⟨u,hu,hru⟩:=zO (w:=w) hft hx p1;obtain ⟨v,hv,hrv⟩:=zO (w:=w) hft hy p2;exact ⟨u,v,hu,hv,OG hft ha hru hrv d⟩
       ·cases ha
      ·rw [if_neg hl] at ha;obtain ⟨i,hi,hia⟩:=hagg _ _ _ _ ha;obtain rfl:i=fi:=by rw [hft] at hi;exact (Option.some.inj hi).symm
       have ex:∀zs:Array Value,(part f.type zs f.offset).run P w = .ok (.agg (zs.extract f.offset (f.offset+i.size))) w:=fun zs=>by
        simp [part,go_sem,sV hft,hia,run_sizeOf hft]
       have dt:∀(l:List AV) (zs:Array Value),aG E l zs.toList->aG E ((l.drop f.offset).take i.size) (zs.extract f.offset (f.offset+i.size)).toList:=fun l zs hz=>by
        rw [Array.toList_extract,List.extract_eq_take_drop];have:=yc i.size _ _ (sW f.offset _ _ hz);simpa using this
       exact ⟨_,_,ex us,ex vs,hsub _ _ _ _ ha _ _ (dt xs us hx) (dt ys vs hy)⟩
     obtain ⟨u,v,k1,k2,k3⟩:=key;simp only [Op.eqFields,hn1,ne_eq,not_false_eq_true,if_true,Sem.run_bind,k1,k2,k3,Result.andThen_ok];cases a
     ·simp
     ·simp [ih]
    ·cases h
theorem aa0 {q:Nat->Bool} {n t:Nat} {xs ys:List AV} {b:Bool} (h:zG (aO P) q n t xs ys=some b):∃i,aO P t=some i/\i.k.isAgg=true:=by
 cases n with
 | zero=>cases h
 | succ n =>
   simp only [zG] at h;split at h
   ·cases h
   ·rename_i i hi;split at h
    ·rename_i fs hfs;exact ⟨i,hi,by rw [hfs];rfl⟩
    ·cases h
theorem JA {q:Nat->Bool} (hq:Ov P q):∀(n t:Nat) (xs ys:List AV) (b:Bool),zG (aO P) q n t xs ys=some b->∀us vs:Array Value,aG E xs us.toList->aG E ys vs.toList->∀d,n<=d->(Op.equalIn (d+1) t (.agg us) (.agg vs)).run P w = .ok b w
 | 0,_,_,_,_,h=>by cases h
 | n+1,t,xs,ys,b,h=>by
   intro us vs hx hy d hd;simp only [zG] at h;split at h
   ·cases h
   ·rename_i i hi;split at h
    ·rename_i fs hfs;split at h
     ·rename_i hqt;obtain ⟨d0,hd0,hk⟩:=aP hi;rw [hfs] at hk;cases d0<;>simp only [fF] at hk<;>try (cases hk;done)
      rename_i fields;simp only [AT.agg.injEq] at hk;subst hk;have hfo:P.fieldsOf t=fields:=by simp [Program.fieldsOf,hd0]
      obtain ⟨e,rfl⟩:∃e,d=e+1:=⟨d-1,by omega⟩
      rw [run_equalIn_struct w (e+1) t us vs (by rw [hfo];exact hd0) (hq.1 t hqt).1,hfo];exact Rx e (fun t xs ys b hb us vs hx hy=>JA hq n t xs ys b hb us vs hx hy e (by omega)) (fun t xs ys b hb=>aa0 hb) fields.toList (by have:=(hq.1 t hqt).2;rw [hfo] at this;exact this) xs ys us vs b hx hy h
     ·cases h
    ·cases h
theorem Il {q:Nat->Bool} {sub:Nat->List AV->List AV->Option Bool} (d:Nat) (hsub:∀t xs ys b,sub t xs ys=some b->P.eqGuardType d t=false):∀(fs:List Field) (xs ys:List AV) (b:Bool),
 zG.eqF (aO P) q sub (fs.map fun f=>(f.offset,f.type)) xs ys=some b->0<d->∀f∈fs,P.eqGuardType d f.type=false
 | [],_,_,_,_,_,f,hf=>by cases hf
 | g::fs,xs,ys,b,h,hd,f,hf=>by
   simp only [List.map_cons,zG.eqF] at h;split at h
   ·cases h
   ·rename_i fi hft;split at h
    ·rename_i a c ha hc;rcases List.mem_cons.1 hf with rfl | hf
     ·by_cases hl:fi.k.leaf=true
      ·obtain ⟨d0,hd0,hk⟩:=aP hft;rw [hk] at hl;obtain ⟨e,rfl⟩:∃e,d=e+1:=⟨d-1,by omega⟩
       unfold Program.eqGuardType;rw [hd0];cases d0<;>simp [fF,AT.leaf] at hl ⊢
      ·rw [if_neg hl] at ha;exact hsub _ _ _ _ ha
     ·exact Il d hsub fs xs ys c hc hd f hf
    ·cases h
theorem Io {q:Nat->Bool}:∀(n t:Nat) (xs ys:List AV) (b:Bool),zG (aO P) q n t xs ys=some b->∀d,n<d->P.eqGuardType d t=false
 | 0,_,_,_,_,h=>by cases h
 | n+1,t,xs,ys,b,h=>by
   intro d hd;simp only [zG] at h;split at h
   ·cases h
   ·rename_i i hi;split at h
    ·rename_i fs hfs;split at h
     ·rename_i hqt;obtain ⟨d0,hd0,hk⟩:=aP hi;rw [hfs] at hk;cases d0<;>simp only [fF] at hk<;>try (cases hk;done)
      rename_i fields;simp only [AT.agg.injEq] at hk;subst hk;obtain ⟨e,rfl⟩:∃e,d=e+1:=⟨d-1,by omega⟩
      have hg:=Il e (fun t xs ys b hb=>Io n t xs ys b hb e (by omega)) fields.toList xs ys b h (by omega);unfold Program.eqGuardType;rw [hd0];simp only [Array.any_eq_false'];intro f hf;simp [hg f (Array.mem_toList_iff.2 hf)]
     ·cases h
    ·cases h
end
theorem jR {h:Array Obj} {X:Nat->Prop}:∀(n:Nat) (cells:List DV) (b o:Nat),eu h X cells b o->eu h X (cells.drop n) b (o+n)
 | 0,cells,b,o,hr=>by simpa using hr
 | n+1,[],b,o,hr=>by rw [List.drop_nil,eu];trivial
 | n+1,x::cells,b,o,hr=>by
   rw [eu] at hr;have:=jR n cells b (o+1) hr.2;rw [List.drop_succ_cons];rw [show o+(n+1)=o+1+n from by omega];exact this
theorem jf {h:Array Obj} {X:Nat->Prop}:∀(n:Nat) (cells:List DV) (b o:Nat),eu h X cells b o->eu h X (cells.take n) b o
 | 0,cells,b,o,hr=>by rw [List.take_zero,eu];trivial
 | n+1,[],b,o,hr=>by rw [List.take_nil,eu];trivial
 | n+1,x::cells,b,o,hr=>by
   rw [eu] at hr;rw [List.take_succ_cons,eu];exact ⟨hr.1,jf n cells b (o+1) hr.2⟩
theorem oN {h:Array Obj} {X:Nat->Prop}:∀(cells:List DV) (b o i:Nat) (x:DV),eu h X cells b o->cells[i]? = some x->∃u,je h b (o+i)=some u/\bZ h X x u
 | [],b,o,i,x,hr,hx=>by simp at hx
 | y::cells,b,o,0,x,hr,hx=>by
   rw [eu] at hr;simp at hx;subst hx;exact hr.1
 | y::cells,b,o,i+1,x,hr,hx=>by
   rw [eu] at hr;have:=oN cells b (o+1) i x hr.2 (by simpa using hx);rw [show o+(i+1)=o+1+i from by omega];exact this
section
variable {P:Program} {E:En} {lk:Nat->Option AK} {ρ:Operand->AV} {ev:Operand->Value} {w:World}
theorem qw (k:IntKind) (j y:Nat) (c:BoundsCode) (h:j<=y):(Instr.sliceBound (.int k j) y c).run P w = .ok j w:=by
 have h1:(j:Int)<=y:=by omega
 simp [Instr.sliceBound,go_sem,asIntOf,h1,h]
theorem uF (hρ:∀x,Rel E (ρ x) (ev x)) {x:Option Operand} {dflt n N h:Nat} (hb:zI (x.map ρ) dflt n=some h) (hn:n<=N) (c:BoundsCode) :
 (match x.map ev with | some v=>Instr.sliceBound v N c | none=>pure dflt).run P w = .ok h w/\(h<=n\/h=dflt):=by
 cases x with
 | none =>
   simp only [Option.map_none,zI,Option.some.injEq] at hb;subst hb;exact ⟨by simp [go_sem],.inr rfl⟩
 | some x =>
   simp only [Option.map_some,zI] at hb;obtain ⟨k,h1,h2⟩:=yZ hb;have:=hρ x;rw [h1] at this;rw [Option.map_some,aQ this];exact ⟨qw k h N c (by omega),.inl h2⟩
theorem Ry (hρ:∀x,Rel E (ρ x) (ev x)) {lo hi:Option Operand} {b:Bool} {n c h l:Nat} (hn:n<=c) (hh:zI (hi.map ρ) n n=some h) (hl:zI (lo.map ρ) 0 h=some l) :
 (Instr.sliceBounds b n c (lo.map ev) (hi.map ev) none).run P w = .ok (l,h,c) w/\l<=h/\h<=n:=by
 obtain ⟨r1,p1⟩:=uF (P:=P) (w:=w) hρ hh hn (if b then .sliceAcap else .sliceAlen);obtain ⟨r2,p2⟩:=uF (P:=P) (w:=w) hρ hl (Nat.le_refl _) .sliceB;refine ⟨?_,by omega,by omega⟩;cases lo<;>cases hi<;>simp [Instr.sliceBounds,go_sem] at r1 r2 ⊢ <;> simp [r1,r2]
theorem aa1 (hρ:∀x,Rel E (ρ x) (ev x)) {lo:Option Operand} {hi mx:Operand} {n c m h l:Nat} (hn:n<=c) (hm:idxLe? (ρ mx) n=some m) (hh:idxLe? (ρ hi) m=some h) (hl:zI (lo.map ρ) 0 h=some l) :
 (Instr.sliceBounds true n c (lo.map ev) (some (ev hi)) (some (ev mx))).run P w = .ok (l,h,m) w/\l<=h/\h<=m/\m<=n:=by
 obtain ⟨k1,e1,q1⟩:=yZ hm;obtain ⟨k2,e2,q2⟩:=yZ hh;have a1:=hρ mx;have a2:=hρ hi;rw [e1] at a1;rw [e2] at a2;obtain ⟨r2,p2⟩:=uF (P:=P) (w:=w) hρ hl (Nat.le_refl _) .slice3C;refine ⟨?_,by omega,q2,q1⟩;rw [aQ a1,aQ a2];have s1:=qw (P:=P) (w:=w) k1 m c .slice3Acap (by omega);have s2:=qw (P:=P) (w:=w) k2 h m .slice3B q2;have z1:m<=c:=by omega
 cases lo<;>simp [Instr.sliceBounds,go_sem] at r2 s1 s2 ⊢ <;> simp [r2,z1,q2]
theorem zU (hρ:∀x,Rel E (ρ x) (ev x)) {lo hi mx:Option Operand} {n c l h:Nat} {m:Option Nat} (hn:n<=c) (hb:Hr n (lo.map ρ) (hi.map ρ) (mx.map ρ)=some (l,h,m)) :
 (Instr.sliceBounds true n c (lo.map ev) (hi.map ev) (mx.map ev)).run P w = .ok (l,h,m.getD c) w/\l<=h/\h<=n/\(∀k,m=some k->h<=k/\k<=n):=by
 unfold Hr at hb;cases mx with
 | none =>
   simp only [Option.map_none] at hb;split at hb
   ·cases hb
   ·rename_i h1 hh;split at hb
    ·cases hb
    ·rename_i l1 hl;simp only [Option.some.injEq,Prod.mk.injEq] at hb;obtain ⟨rfl,rfl,rfl⟩:=hb;obtain ⟨b1,b2,b3⟩:=Ry (P:=P) (w:=w) (b:=true) hρ hn hh hl;exact ⟨b1,b2,b3,fun k hk=>by cases hk⟩
 | some mx =>
   cases hi with
   | none=>simp at hb
   | some hi =>
     simp only [Option.map_some] at hb;split at hb
     ·cases hb
     ·rename_i m1 hm;split at hb
      ·cases hb
      ·rename_i h1 hh;split at hb
       ·cases hb
       ·rename_i l1 hl;simp only [Option.some.injEq,Prod.mk.injEq] at hb;obtain ⟨rfl,rfl,rfl⟩:=hb;obtain ⟨b1,b2,b3,b4⟩:=aa1 (P:=P) (w:=w) hρ hn hm hh hl;exact ⟨b1,b2,by omega,fun k hk=>by cases hk;exact ⟨b3,b4⟩⟩
theorem slice_form {t e:Nat} {i ei:TI} (ht:aO P t=some i) (hk:i.k = .slice e) (hei:aO P e=some ei) (A:Option Addr) (n c:Nat) (lo hi mx:Option Value) {l h m:Nat} (hb:(Instr.sliceBounds true n c lo hi mx).run P w = .ok (l,h,m) w) :
 (Instr.sliceAt t (.slice A n c) lo hi mx).run P w = .ok (.slice (if m=l then A else A.map (·.add (l*ei.size))) (h-l) (m-l)) w:=by
 obtain ⟨d,hd,hk'⟩:=aP ht;rw [hk] at hk';cases d<;>simp only [fF] at hk'<;>try (cases hk';done)
 simp only [AT.slice.injEq] at hk';subst hk';simp only [Instr.sliceAt,Instr.slice,Sem.run_bind,run_underlying hd,Result.andThen_ok,hb,run_sizeOf hei,Sem.run_pure]
theorem Uw {t:Nat} {i:TI} (ht:aO P t=some i) (hk:i.k = .str) (s:ByteArray) (lo hi:Option Value) {l h c:Nat} (hb:(Instr.sliceBounds false s.size s.size lo hi none).run P w = .ok (l,h,c) w) :
 (Instr.sliceAt t (.string s) lo hi none).run P w = .ok (.string (s.extract l h)) w:=by
 obtain ⟨d,hd,hk'⟩:=aP ht;rw [hk] at hk';cases d<;>simp only [fF] at hk'<;>try (cases hk';done)
 simp [Instr.sliceAt,Instr.slice,Sem.run_bind,run_underlying hd,Result.andThen_ok,hb,Sem.run_pure]
theorem yh (b off n:Nat):(some (⟨b,off,none⟩:Addr)).map (·.add n)=some ⟨b,off+n,none⟩:=by simp [addr_add]
theorem aa2 {cells:List DV} {n:Nat} {cap:Option Nat} {A:Option Addr} {c l h m size:Nat} (hr:bZ E.h E.X (.dl cells n cap) (.slice A n c)) (h1:l<=h) (h2:h<=m) (h3:m<=c) (cap':Option Nat) (hc:∀k,cap'=some k->m-l=k) :
 bZ E.h E.X (.dl ((cells.drop (l*size)).take ((h-l)*size)) (h-l) cap') (.slice (if m=l then A else A.map (·.add (l*size))) (h-l) (m-l)):=by
 rw [bZ] at hr ⊢;obtain ⟨A',c',e,g1,g2,g3,g4⟩:=hr;simp only [Value.slice.injEq,true_and] at e;obtain ⟨rfl,rfl⟩:=e;refine ⟨_,_,rfl,by omega,by omega,hc,?_⟩;by_cases hz:h-l=0
 ·rw [hz];simp
 ·rw [if_neg (by omega)];rcases g4 with g4 | ⟨b,o,rfl,g5,g6⟩
  ·subst g4;simp
  ·rw [yh];exact .inr ⟨b,_,rfl,g5,jf _ _ _ _ (jR _ _ _ _ g6)⟩
theorem Rz {r off n:Nat} {cap:Option Nat} {u:Value} {e s:Nat} {cs:List DV} {wr:Bool} (ho:E.hp r=some (.data e s cs wr)) (hr:Rel E (.sl r off n cap) u) {lo hi mx:Option Operand} {l h:Nat}
 (h1:l<=h) (h2:h<=n):∃A c,u = .slice A n c/\n<=c /\
   (Rel E (.sl r (off+l*s) (h-l) (cap.map (· - l))) (.slice (if c=l then A else A.map (·.add (l*s))) (h-l) (c-l))) /\
   (∀m,h<=m->m<=n->Rel E (.sl r (off+l*s) (h-l) (some (m-l))) (.slice (if m=l then A else A.map (·.add (l*s))) (h-l) (m-l))):=by
 rw [Rel,ho] at hr;rcases hr with ⟨rfl,hc,hz,A,rfl⟩ | ⟨b,z,c,g1,rfl,g3,g4,g5,g6⟩
 ·refine ⟨A,0,rfl,Nat.le_refl _,?_,fun m hm1 hm2 => ?_⟩
  ·obtain rfl:h=0:=by omega
   obtain rfl:l=0:=by omega
   rw [Rel,ho];refine .inl ⟨rfl,?_,fun h1 h2 => ?_,A,by simp⟩
   ·rcases hc with rfl | rfl<;>simp
   ·rcases hc with rfl | rfl
    ·exact hz rfl (by omega)
    ·simp at h1
  ·obtain rfl:m=0:=by omega
   obtain rfl:h=0:=by omega
   obtain rfl:l=0:=by omega
   rw [Rel,ho];exact .inl ⟨rfl,by simp,fun h1=>by simp at h1,A,by simp⟩
 ·refine ⟨_,c,rfl,g3,?_,fun m hm1 hm2 => ?_⟩
  ·rw [Rel,ho];by_cases hcl:c=l
   ·subst hcl;refine .inl ⟨by omega,?_,fun h1 h2 b' z' hb => ?_,_,by rw [show h-c=0 from by omega,Nat.sub_self]⟩
    ·cases cap with
     | none=>exact .inl rfl
     | some k=>right;simp at g6;simp;omega
    ·cases cap with
     | none =>
       rw [g1] at hb;cases hb;simp only at g6;omega
     | some k=>simp at h1
   ·rw [if_neg hcl,yh];refine .inr ⟨b,z,c-l,g1,rfl,by omega,by omega,?_,?_⟩
    ·rw [Nat.add_assoc,<-Nat.add_mul,Nat.add_sub_cancel' (by omega)];exact g5
    ·cases cap with
     | none =>
       simp only [Option.map_none] at g6 ⊢;rw [Nat.add_assoc,<-Nat.add_mul,Nat.add_sub_cancel' (by omega)];exact g6
     | some k=>simp only [Option.map_some] at g6 ⊢;omega
  ·rw [Rel,ho];by_cases hml:m=l
   ·subst hml;exact .inl ⟨by omega,.inr (by simp),fun h1=>by simp at h1,_,by rw [show h-m=0 from by omega,Nat.sub_self]⟩
   ·rw [if_neg hml,yh];refine .inr ⟨b,z,m-l,g1,rfl,by omega,by omega,?_,rfl⟩;rw [Nat.add_assoc,<-Nat.add_mul,Nat.add_sub_cancel' (by omega)];have:=Nat.mul_le_mul_right s (show m<=c by omega);omega
theorem Ux {r off n c:Nat} {u:Value} {e s:Nat} {cs:List DV} {wr:Bool} (ho:E.hp r=some (.data e s cs wr)) (hr:Rel E (.sl r off n (some c)) u) {l h:Nat} (h1:l<=h) (h2:h<=c) :
 ∃A,u = .slice A n c/\Rel E (.sl r (off+l*s) (h-l) (some (c-l))) (.slice (if c=l then A else A.map (·.add (l*s))) (h-l) (c-l)):=by
 rw [Rel,ho] at hr;rcases hr with ⟨rfl,hc,hz,A,rfl⟩ | ⟨b,z,c',g1,rfl,g3,g4,g5,g6⟩
 ·rcases hc with hc | hc
  ·cases hc
  ·cases hc;obtain rfl:h=0:=by omega
   obtain rfl:l=0:=by omega
   refine ⟨A,rfl,?_⟩;rw [Rel,ho];exact .inl ⟨rfl,.inr (by simp),fun h1=>by simp at h1,A,by simp⟩
 ·have g6:c'=c:=g6;subst g6;refine ⟨_,rfl,?_⟩;rw [Rel,ho];by_cases hcl:c'=l
  ·subst hcl;exact .inl ⟨by omega,.inr (by simp),fun h1=>by simp at h1,_,by rw [show h-c'=0 from by omega,Nat.sub_self]⟩
  ·rw [if_neg hcl,yh];refine .inr ⟨b,z,c'-l,g1,rfl,by omega,by omega,?_,rfl⟩;rw [Nat.add_assoc,<-Nat.add_mul,Nat.add_sub_cancel' (by omega)];exact g5
theorem Uy (hρ:∀x,Rel E (ρ x) (ev x)) {t e:Nat} {i ei:TI} (ht:aO P t=some i) (hk:i.k = .slice e) (hei:aO P e=some ei) (x:Operand) (lo hi mx:Option Operand)
 (hx:∀r off n cap,ρ x = .sl r off n cap->∃e' cs wr,E.hp r=some (.data e' ei.size cs wr)) (hs:∀s,ρ x ≠ .d (.val (.string s))) {v:AV} (h:jU ei.size (ρ x) (lo.map ρ) (hi.map ρ) (mx.map ρ)=some v) :
 ∃u,(Instr.sliceAt t (ev x) (lo.map ev) (hi.map ev) (mx.map ev)).run P w = .ok u w/\Rel E v u:=by
 have hr:=hρ x;unfold jU at h;split at h
 ·rename_i s hx1;exact absurd hx1 (hs s)
 ·rename_i hx1;rw [hx1] at hr;rw [aQ hr];split at h
  ·rename_i q hb;obtain ⟨l,h1,m⟩:=q;simp only [Option.some.injEq] at h;subst h;obtain ⟨b1,b2,b3,b4⟩:=zU (P:=P) (w:=w) hρ (Nat.le_refl 0) hb;refine ⟨_,slice_form ht hk hei none 0 0 _ _ _ b1,?_⟩;obtain rfl:h1=0:=by omega
   obtain rfl:l=0:=by omega
   have hm:m.getD 0=0:=by cases m with | none=>rfl | some k=>have:=b4 k rfl;simp;omega
   rw [hm,Rel,bZ];exact ⟨rfl,rfl⟩
  ·cases h
 ·rename_i cells n cap hx1;rw [hx1] at hr;split at h
  ·rename_i l h1 m hb;simp only [Option.some.injEq] at h;subst h;rw [Rel] at hr;have hr':=hr;rw [bZ] at hr;obtain ⟨A,c,e1,g1,g2,g3,g4⟩:=hr;rw [e1] at hr' ⊢;obtain ⟨b1,b2,b3,b4⟩:=zU (P:=P) (w:=w) hρ g1 hb;refine ⟨_,slice_form ht hk hei A n c _ _ _ b1,?_⟩;rw [Rel];refine aa2 hr' b2 ?_ ?_ _ ?_
   ·cases m with | none=>simp;omega | some k=>have:=b4 k rfl;simp;omega
   ·cases m with | none=>simp | some k=>have:=b4 k rfl;simp;omega
   ·intro k hk2;cases m with
    | none =>
      cases cap with
      | none=>cases hk2
      | some c'=>simp [capD] at hk2 ⊢;rw [g3 c' rfl];exact hk2
    | some k'=>cases hk2
  ·cases h
 ·rename_i r off n cap hx1;rw [hx1] at hr;obtain ⟨e',cs,wr,ho⟩:=hx r off n cap hx1;split at h
  ·rename_i l h1 m hb;simp only [Option.some.injEq] at h;subst h;have hpre:l<=h1/\h1<=n:=by
    obtain ⟨A,c,e1,g1,_⟩:=Rz (lo:=lo) (hi:=hi) (mx:=mx) ho hr (Nat.le_refl 0) (Nat.zero_le n);obtain ⟨b1,b2,b3,b4⟩:=zU (P:=P) (w:=w) hρ g1 hb;exact ⟨b2,b3⟩
   obtain ⟨A,c,e1,g1,g2,g3⟩:=Rz (lo:=lo) (hi:=hi) (mx:=mx) ho hr hpre.1 hpre.2;obtain ⟨b1,b2,b3,b4⟩:=zU (P:=P) (w:=w) hρ g1 hb;rw [e1];refine ⟨_,slice_form ht hk hei A n c _ _ _ b1,?_⟩;cases m with
   | none=>exact g2
   | some k=>exact g3 k (b4 k rfl).1 (b4 k rfl).2
  ·split at h
   ·rename_i c hv hhi hmx;split at h
    ·cases h
    ·rename_i h1 hh;split at h
     ·cases h
     ·rename_i l hl;simp only [Option.some.injEq] at h;subst h;cases mx with
      | some _=>cases hmx
      | none =>
      rw [<-hhi] at hh;have hlh:l<=h1/\h1<=c:=by
       obtain ⟨r1,p1⟩:=uF (P:=P) (w:=w) hρ hh (Nat.le_refl _) .sliceAcap;obtain ⟨r2,p2⟩:=uF (P:=P) (w:=w) hρ hl (Nat.le_refl _) .sliceB;constructor<;>omega
      obtain ⟨A,e1,g2⟩:=Ux ho hr hlh.1 hlh.2;rw [e1];refine ⟨_,slice_form ht hk hei A n c _ _ _ (m:=c) ?_,g2⟩;obtain ⟨r1,p1⟩:=uF (P:=P) (w:=w) hρ hh (Nat.le_refl _) .sliceAcap;obtain ⟨r2,p2⟩:=uF (P:=P) (w:=w) hρ hl (Nat.le_refl _) .sliceB;cases hi with
      | none=>cases hhi
      | some hv'=>cases lo<;>simp [Instr.sliceBounds,go_sem] at r1 r2 ⊢ <;> simp [r1,r2]
   ·cases h
 ·cases h
theorem aa3 (hρ:∀x,Rel E (ρ x) (ev x)) {t:Nat} {i:TI} (ht:aO P t=some i) (hk:i.k = .str) (x:Operand) (lo hi mx:Option Operand) {s:ByteArray} (hx:ρ x = .d (.val (.string s))) {v:AV} (h:jU 0 (.d (.val (.string s))) (lo.map ρ) (hi.map ρ) (mx.map ρ)=some v) :
 ∃u,(Instr.sliceAt t (ev x) (lo.map ev) (hi.map ev) (mx.map ev)).run P w = .ok u w/\Rel E v u:=by
 have hr:=hρ x;rw [hx] at hr;rw [aQ hr];simp only [jU] at h;cases mx with
 | some mx=>simp at h
 | none =>
   simp only [Option.map_none] at h;split at h
   ·rename_i l h1 m hb;simp only [Option.some.injEq] at h;subst h;simp only [Hr] at hb;split at hb
    ·cases hb
    ·rename_i h2 hh;split at hb
     ·cases hb
     ·rename_i l2 hl;simp only [Option.some.injEq,Prod.mk.injEq] at hb;obtain ⟨rfl,rfl,rfl⟩:=hb;obtain ⟨b1,b2,b3⟩:=Ry (P:=P) (w:=w) (b:=false) hρ (Nat.le_refl _) hh hl;refine ⟨_,Uw ht hk s _ _ b1,?_⟩;rw [Rel,bZ];exact ⟨rfl,rfl⟩
   ·cases h
end
section
variable {P:Program} {E:En} {lk:Nat->Option AK} {ρ:Operand->AV} {ev:Operand->Value} {w:World}
theorem EY (f:Int->Int->Int) (g:Value->Value->Sem Value) (hg:∀k x k' y,g (.int k x) (.int k' y)=Pure.pure (.int k (f x y))) (k:IntKind):∀(l:List AV) (vs:List Value) (a n:Int),aG E l vs->wo f k a l=some n ->
 (vs.foldlM g (.int k a)).run P w = .ok (.int k n) w
 | [],vs,a,n,hl,h=>by
   rw [aG] at hl;subst hl;simp only [wo,Option.some.injEq] at h;subst h;simp [go_sem]
 | x::l,vs,a,n,hl,h=>by
   rw [aG] at hl;obtain ⟨v,vs',rfl,h1,h2⟩:=hl;unfold wo at h;split at h
   ·rename_i hh;cases hh
   ·rename_i k' b l' hh;simp only [List.cons.injEq] at hh;obtain ⟨rfl,rfl⟩:=hh;rw [aQ h1];have ih:=EY f g hg k l vs' (f a b) n h2 h;simp [List.foldlM_cons,go_sem,hg,ih]
   ·cases h
theorem XB (hk:jV E lk) {b:Builtin} {c:Call} {ty:Nat} {consts:Array Bool} (hρ:∀x,Rel E (ρ x) (ev x)) (hl:c.args.toList.all (fun x=>wu lk (ρ x))=true) {v:AV} (h:Um (aO P) b c.argTypes.toList (c.args.toList.map ρ)=some v) :
 ∃u,(builtin b c.argTypes ty consts (c.args.map ev)).run P w = .ok (.value u) w/\Rel E v u:=by
 have hL:=mW ρ ev hρ c.args.toList;unfold Um at h;split at h
 ·rename_i x harg;split at h
  ·rename_i t ts hts;split at h
   ·rename_i i hi;obtain ⟨d,hd,hkd⟩:=aP hi;have ht0:c.argTypes[0]? = some t:=by rw [<-Array.getElem?_toList,hts];rfl
    rw [harg,aG] at hL;obtain ⟨u0,r0,e0,hx,hr0⟩:=hL;rw [aG] at hr0;subst hr0;have ha0:(c.args.map ev)[0]? = some u0:=by rw [<-Array.getElem?_toList,Array.toList_map,e0];rfl
    have hlen:∀y,(Builtin.len_ c.argTypes ty (c.args.map ev)).run P w = .ok y w->(builtin .len c.argTypes ty consts (c.args.map ev)).run P w = .ok (.value y) w:=fun y hy=>by
     simp only [builtin,Sem.run_bind,hy,Result.andThen_ok,Sem.run_pure]
    split at h
    ·rename_i s hks;simp only [Option.some.injEq] at h;subst h;rw [hks] at hkd;cases d<;>simp only [fF] at hkd<;>try (cases hkd;done)
     rw [aQ hx] at ha0;refine ⟨.int .i64 s.size,hlen _ ?_,by rw [dG,Rel,bZ];exact ⟨rfl,rfl⟩⟩;simp [Builtin.len_,ht0,ha0,go_sem,run_underlying hd,goInt]
    ·rename_i e cells n cap hks;simp only [Option.some.injEq] at h;subst h;rw [hks] at hkd;cases d<;>simp only [fF] at hkd<;>try (cases hkd;done)
     rw [Rel,bZ] at hx;obtain ⟨A,cc,rfl,_⟩:=hx;refine ⟨.int .i64 n,hlen _ ?_,by rw [dG,Rel,bZ];exact ⟨rfl,rfl⟩⟩;simp [Builtin.len_,ht0,ha0,go_sem,run_underlying hd,goInt]
    ·rename_i e hks;simp only [Option.some.injEq] at h;subst h;rw [hks] at hkd;cases d<;>simp only [fF] at hkd<;>try (cases hkd;done)
     rw [aQ hx] at ha0;refine ⟨.int .i64 0,hlen _ ?_,by rw [dG,Rel,bZ];exact ⟨rfl,rfl⟩⟩;simp [Builtin.len_,ht0,ha0,go_sem,run_underlying hd,goInt]
    ·rename_i e r off n cap hks;simp only [Option.some.injEq] at h;subst h;rw [hks] at hkd;cases d<;>simp only [fF] at hkd<;>try (cases hkd;done)
     have hlv:fV lk r=true:=by
      cases hcl:c.args.toList with
      | nil=>rw [hcl] at harg;simp at harg
      | cons y l =>
        rw [hcl] at harg hl;simp only [List.map_cons,List.cons.injEq] at harg;simp only [List.all_cons,Bool.and_eq_true] at hl;have:=hl.1;rw [harg.1] at this;exact this
     obtain ⟨A,cc,rfl,_⟩:=OC hk hlv hx;refine ⟨.int .i64 n,hlen _ ?_,by rw [dG,Rel,bZ];exact ⟨rfl,rfl⟩⟩;simp [Builtin.len_,ht0,ha0,go_sem,run_underlying hd,goInt]
    ·cases h
   ·cases h
  ·cases h
 ·rename_i k a l harg;rw [harg,aG] at hL;obtain ⟨u0,us,e0,hx,hr0⟩:=hL;simp only [Option.map_eq_some_iff] at h;obtain ⟨n,hn,rfl⟩:=h;have:=EY (P:=P) (w:=w) eU Builtin.min2 (fun k x k' y=>rfl) k l us a n hr0 hn;refine ⟨.int k n,?_,by rw [dG,Rel,bZ];exact ⟨rfl,rfl⟩⟩;have e1:Builtin.min_ c.argTypes ty (c.args.map ev)=us.foldlM Builtin.min2 (.int k a):=by
   unfold Builtin.min_;rw [Array.toList_map,e0,aQ hx]
  simp only [builtin,Sem.run_bind,e1,this,Result.andThen_ok,Sem.run_pure]
 ·rename_i k a l harg;rw [harg,aG] at hL;obtain ⟨u0,us,e0,hx,hr0⟩:=hL;simp only [Option.map_eq_some_iff] at h;obtain ⟨n,hn,rfl⟩:=h;have:=EY (P:=P) (w:=w) bf Builtin.max2 (fun k x k' y=>rfl) k l us a n hr0 hn;refine ⟨.int k n,?_,by rw [dG,Rel,bZ];exact ⟨rfl,rfl⟩⟩;have e1:Builtin.max_ c.argTypes ty (c.args.map ev)=us.foldlM Builtin.max2 (.int k a):=by
   unfold Builtin.max_;rw [Array.toList_map,e0,aQ hx]
  simp only [builtin,Sem.run_bind,e1,this,Result.andThen_ok,Sem.run_pure]
 ·rename_i x harg;split at h
  ·rename_i t ts hts;split at h
   ·rename_i i hi;obtain ⟨d,hd,hkd⟩:=aP hi;have ht0:c.argTypes[0]? = some t:=by rw [<-Array.getElem?_toList,hts];rfl
    rw [harg,aG] at hL;obtain ⟨u0,r0,e0,hx,hr0⟩:=hL;rw [aG] at hr0;subst hr0;have ha0:(c.args.map ev)[0]? = some u0:=by rw [<-Array.getElem?_toList,Array.toList_map,e0];rfl
    have hcap:∀y,(Builtin.cap_ c.argTypes ty (c.args.map ev)).run P w = .ok y w->(builtin .cap c.argTypes ty consts (c.args.map ev)).run P w = .ok (.value y) w:=fun y hy=>by
     simp only [builtin,Sem.run_bind,hy,Result.andThen_ok,Sem.run_pure]
    split at h
    ·rename_i e hks;simp only [Option.some.injEq] at h;subst h;rw [hks] at hkd;cases d<;>simp only [fF] at hkd<;>try (cases hkd;done)
     rw [aQ hx] at ha0;refine ⟨.int .i64 0,hcap _ ?_,by rw [dG,Rel,bZ];exact ⟨rfl,rfl⟩⟩;simp [Builtin.cap_,ht0,ha0,go_sem,run_underlying hd,goInt]
    ·rename_i e r off n cap hks;simp only [Option.some.injEq] at h;subst h;rw [hks] at hkd;cases d<;>simp only [fF] at hkd<;>try (cases hkd;done)
     have hlv:fV lk r=true:=by
      cases hcl:c.args.toList with
      | nil=>rw [hcl] at harg;simp at harg
      | cons y l =>
        rw [hcl] at harg hl;simp only [List.map_cons,List.cons.injEq] at harg;simp only [List.all_cons,Bool.and_eq_true] at hl;have:=hl.1;rw [harg.1] at this;exact this
     obtain ⟨A,rfl⟩:=OD hk hlv hx;refine ⟨.int .i64 cap,hcap _ ?_,by rw [dG,Rel,bZ];exact ⟨rfl,rfl⟩⟩;simp [Builtin.cap_,ht0,ha0,go_sem,run_underlying hd,goInt]
    ·cases h
   ·cases h
  ·cases h
 ·cases h
theorem iy {o:Oper} {s:Sem Value} (he:execOp ev o=(do pure (Next.value (<-s)))) {u:Value} (h:s.run P w = .ok u w):(execOp ev o).run P w = .ok (.value u) w:=by
 rw [he];simp only [Sem.run_bind,h,Result.andThen_ok,Sem.run_pure]
theorem kC (b:Bool):Rel E (bJ b) (.bool b):=by rw [bJ,Rel,bZ];exact ⟨rfl,rfl⟩
theorem XC (hk:jV E lk) {v:AV} {b:Option Bool} (h:Ht lk v=some b) {u:Value} (hr:Rel E v u):∃A n c,u = .slice A n c/\(b=none\/b=some A.isNone):=by
 unfold Ht at h;split at h
 ·cases h;exact ⟨none,0,0,aQ hr,.inr rfl⟩
 ·rename_i cells n cap;rw [Rel,bZ] at hr;obtain ⟨A,c,h1,_,_,_,h5⟩:=hr;split at h
  ·cases h;exact ⟨A,n,c,h1,.inl rfl⟩
  ·rename_i hc;cases h;rcases h5 with h5 | ⟨b,o,h5,_⟩
   ·subst h5;exact (hc rfl).elim
   ·exact ⟨A,n,c,h1,.inr (by rw [h5];rfl)⟩
 ·rename_i r off n cap;split at h
  ·rename_i s hl;obtain ⟨o,k1,k2⟩:=hk r _ hl;cases o with
   | dead=>cases k2
   | mix cs=>cases k2
   | mp kk ks vs=>cases k2
   | data e s' cs wr =>
     rw [Rel,k1] at hr;split at h
     ·cases h;rcases hr with ⟨hn0,_,_,A,g2⟩ | ⟨b,z,c,_,g2,_⟩
      ·exact ⟨A,0,0,g2,.inl rfl⟩
      ·exact ⟨_,n,c,g2,.inl rfl⟩
     ·rename_i hn;cases h;rcases hr with ⟨hn0,_⟩ | ⟨b,z,c,_,g2,_⟩
      ·exact (hn hn0).elim
      ·exact ⟨_,n,c,g2,.inr rfl⟩
  ·cases h
 ·cases h
theorem Uz (hk:jV E lk) {v:AV} {b:Bool} (h:Dl lk v=some b) {u:Value} (hr:Rel E v u):∃A,u = .pointer A/\A.isNone=b:=by
 unfold Dl at h;split at h
 ·cases h;exact ⟨none,aQ hr,rfl⟩
 ·rename_i r off;split at h
  ·rename_i hl;cases h;obtain ⟨b,z,_,e⟩:=zM hk hl hr;exact ⟨_,e,rfl⟩
  ·cases h
 ·cases h;rw [Rel] at hr;obtain ⟨b,o,e,_⟩:=hr;exact ⟨_,e,rfl⟩
 ·cases h
theorem RD {E:En} {b:Option Bool} {x:Bool} (h:b=none\/b=some x):Rel E (Xt b) (.bool x):=by
 rcases h with rfl | rfl
 ·rw [Xt,Rel];exact ⟨x,rfl⟩
 ·exact kC _
set_option maxHeartbeats 2000000 in
theorem XD {q:Nat->Bool} (hq:Ov P q) (hdp:30<=P.depth) (hk:jV E lk) (hρ:∀x,Rel E (ρ x) (ev x)) {o:Oper} {v:AV} (h:zJ (aO P) q lk o ρ=some v) :
 ∃u,(execOp ev o).run P w = .ok (.value u) w/\Rel E v u:=by
 obtain ⟨dst,op,type,pos,after,guard⟩:=o;unfold zJ at h;cases op<;>simp only at h<;>try (cases h;done)
 case move x =>
  simp only [Option.some.injEq] at h;subst h;exact ⟨ev x,rfl,hρ x⟩
 case assign x =>
  simp only [Option.some.injEq] at h;subst h;exact ⟨ev x,rfl,hρ x⟩
 case pick c a b =>
  split at h
  ·rename_i x hc;have h1:=hρ c;rw [hc] at h1;have h1:=aQ h1;split at h
   ·rename_i y z ha hb;simp only [Option.some.injEq] at h;subst h;have h2:=hρ a;have h3:=hρ b;rw [ha] at h2;rw [hb] at h3;have h2:=aQ h2;have h3:=aQ h3;refine ⟨.bool (bif x then y else z),?_,kC _⟩;cases x<;>simp [execOp,go_sem,h1,h2,h3,asBool]
   ·simp only [Option.some.injEq] at h;subst h;refine ⟨if x then ev a else ev b,?_,?_⟩
    ·cases x<;>simp [execOp,go_sem,h1,asBool]
    ·cases x
     ·exact hρ b
     ·exact hρ a
  ·cases h
 case build t parts =>
  split at h
  ·cases h
  ·rename_i i hi;split at h
   ·cases h
   ·rename_i hall;have hv:∀p∈parts.toList,sS lk (ρ p.2)=true:=by
     simp only [Bool.not_eq_false,List.all_eq_true] at hall;exact fun p hp=>hall p hp
    split at h
    ·rename_i fs hfs;split at h
     ·rename_i pl hpl;simp only [Option.map_eq_some_iff] at h;obtain ⟨cs,hcs,rfl⟩:=h;obtain ⟨u,hu,hr⟩:=Un (w:=w) hk hρ hi hfs hpl parts hv hcs;exact ⟨u,iy rfl hu,hr⟩
     ·cases h
    ·rename_i n e hfs;split at h
     ·rename_i ei hei;simp only [Option.map_eq_some_iff] at h;obtain ⟨cs,hcs,rfl⟩:=h;obtain ⟨u,hu,hr⟩:=Hw (w:=w) hk hρ hi hfs hei parts hv hcs;exact ⟨u,iy rfl hu,hr⟩
     ·cases h
    ·cases h
 case nilCheck x =>
  split at h
  ·rename_i r off hx;split at h
   ·rename_i hl;simp only [Option.some.injEq] at h;subst h;have h1:=hρ x;rw [hx] at h1;obtain ⟨b,z,g1,g2⟩:=zM hk hl h1;exact ⟨ev x,by simp [execOp,go_sem,g2],h1⟩
   ·cases h
  ·rename_i cells off hx;simp only [Option.some.injEq] at h;subst h;have h1:=hρ x;rw [hx] at h1;have h2:=h1;rw [Rel] at h2;obtain ⟨b,o,g2,_⟩:=h2;exact ⟨ev x,by simp [execOp,go_sem,g2],h1⟩
  ·rename_i f caps hx;simp only [Option.some.injEq] at h;subst h;have h1:=hρ x;rw [hx] at h1;have h2:=h1;rw [Rel] at h2;obtain ⟨vs,g2,_⟩:=h2;exact ⟨ev x,by simp [execOp,go_sem,g2],h1⟩
  ·rename_i v hx;split at h
   ·rename_i hv;simp only [Option.some.injEq] at h;subst h;have h1:=hρ x;rw [hx] at h1;obtain ⟨n,fs,cp,t,y,q1,q2,q3⟩:=Uu (P:=P) (w:=w) hq.2 hv;have g2:=aQ h1;rw [q1] at g2;have q4:(nilAhead (P.types.size+100) t y n).run P w = .ok (some false) w:=q3;exact ⟨ev x,by simp [execOp,go_sem,g2,q2,q4],h1⟩
   ·cases h
  ·cases h
 case makeInterface t x =>
  unfold ifA at h;split at h
  ·rename_i i hi hx;split at h
   ·rename_i fs hk;simp only [Option.some.injEq] at h;subst h;have h1:=hρ x;rw [hx,Rel] at h1;obtain ⟨vs,g1,g2⟩:=h1;rw [aG] at g2;have hvs:vs = #[]:=Array.toList_inj.1 (by rw [g2]);subst hvs;obtain ⟨d,hd,hk'⟩:=aP hi;refine ⟨.iface t (.agg #[]),iy (s:=Instr.makeInterface t (ev x)) rfl ?_,by rw [Rel,bZ];exact ⟨rfl,rfl⟩⟩;rw [hk] at hk';cases d<;>simp [fF] at hk'<;>simp [Instr.makeInterface,run_underlying hd,go_sem,g1]
   ·cases h
  ·cases h
 case binOp op t x y yt =>
  have hx:=hρ x;have hy:=hρ y;have key:∀ {a b u:Value},ev x=a->ev y=b->(eqGuard op t x y a b).run P w = .ok () w->(binOp op t a b).run P w = .ok u w->(execOp ev ⟨dst,.binOp op t x y yt,type,pos,after,guard⟩).run P w = .ok (.value u) w:=fun e1 e2 g1 g2=>by
   subst e1;subst e2;show (do pure (Next.value (<-(do eqGuard op t x y (ev x) (ev y);binOp op t (ev x) (ev y)))):Sem Next).run P w=_;simp only [Sem.run_bind,g1,g2,Result.andThen_ok,Sem.run_pure]
  split at h
  ·rename_i a b e1 e2;rw [e1] at hx;rw [e2] at hy;split at h
   ·rename_i i hi;split at h
    ·rename_i hk1;simp only [Option.some.injEq] at h;subst h;exact ⟨.bool (a==b),key (aQ hx) (aQ hy) (zS a b) (Du hi hk1 a b).1,kC _⟩
    ·rename_i hk1;simp only [Option.some.injEq] at h;subst h;exact ⟨.bool (a != b),key (aQ hx) (aQ hy) (zS a b) (Du hi hk1 a b).2,kC _⟩
    ·cases h
   ·cases h
  ·rename_i v hn e1;rw [e1] at hy;split at h
   ·rename_i b i hb hi;obtain ⟨A,n,c,q1,q2⟩:=XC hk hb hx;split at h
    ·rename_i e hke;simp only [Option.some.injEq] at h;subst h;exact ⟨.bool A.isNone,key q1 (aQ hy) (yU) (EX hi hke A n c).1,RD q2⟩
    ·rename_i e hke;simp only [Option.some.injEq] at h;subst h;exact ⟨.bool (!A.isNone),key q1 (aQ hy) (yU) (EX hi hke A n c).2,RD (by rcases q2 with rfl | rfl<;>simp)⟩
    ·cases h
   ·cases h
  ·rename_i v e1;rw [e1] at hy;split at h
   ·rename_i b i hb hi;obtain ⟨A,q1,q2⟩:=Uz hk hb hx;split at h
    ·rename_i e hke;simp only [Option.some.injEq] at h;subst h;exact ⟨.bool b,key q1 (aQ hy) (Dw) (by rw [<-q2];exact (Dv hi hke A).1),kC _⟩
    ·rename_i e hke;simp only [Option.some.injEq] at h;subst h;exact ⟨.bool (!b),key q1 (aQ hy) (Dw) (by rw [<-q2];exact (Dv hi hke A).2),kC _⟩
    ·cases h
   ·cases h
  ·rename_i a b hn hn2 hn3 e1 e2;rw [e1] at hx;rw [e2] at hy;simp only [Option.map_eq_some_iff] at h;obtain ⟨u,hu,rfl⟩:=h;obtain ⟨g1,g2⟩:=XA (P:=P) (w:=w) (t:=t) hu;exact ⟨u,key (aQ hx) (aQ hy) (LH hu) g1,by rw [Rel,bZ];exact ⟨rfl,g2⟩⟩
  ·rename_i xs ys e1 e2;rw [e1] at hx;rw [e2] at hy;rw [Rel] at hx hy;obtain ⟨us,f1,hx⟩:=hx;obtain ⟨vs,f2,hy⟩:=hy;have hg:∀b,zG (aO P) q 20 t xs ys=some b->(op = .eql\/op = .neq)->(eqGuard op t x y (.agg us) (.agg vs)).run P w = .ok () w:=fun b hb hop=>by
    have hgt:=Io 20 t xs ys b hb P.depth (by omega);unfold eqGuard;rcases hop with rfl | rfl<;>simp [go_sem,hgt]
   split at h
   ·simp only [Option.map_eq_some_iff] at h;obtain ⟨b,hb,rfl⟩:=h;have h2:(Op.equal t (.agg us) (.agg vs)).run P w = .ok b w:=JA hq 20 t xs ys b hb us vs hx hy 9999 (by omega);refine ⟨.bool b,key f1 f2 (hg b hb (.inl rfl)) ?_,kC _⟩;have e1:binOp .eql t (.agg us) (.agg vs)=(do pure (.bool (<-Op.equal t (.agg us) (.agg vs)))):=rfl;rw [e1];simp only [Sem.run_bind,h2,Result.andThen_ok,Sem.run_pure]
   ·simp only [Option.map_eq_some_iff] at h;obtain ⟨b,hb,rfl⟩:=h;have h2:(Op.equal t (.agg us) (.agg vs)).run P w = .ok b w:=JA hq 20 t xs ys b hb us vs hx hy 9999 (by omega);refine ⟨.bool !b,key f1 f2 (hg b hb (.inr rfl)) ?_,kC _⟩;have e1:binOp .neq t (.agg us) (.agg vs)=(do pure (.bool (!(<-Op.equal t (.agg us) (.agg vs))))):=rfl;rw [e1];simp only [Sem.run_bind,h2,Result.andThen_ok,Sem.run_pure]
   ·cases h
  ·cases h
 case unOp op t x =>
  have hx:=hρ x;split at h
  ·rename_i a e1;rw [e1] at hx;simp only [Option.map_eq_some_iff] at h;obtain ⟨u,hu,rfl⟩:=h;obtain ⟨g1,g2⟩:=aaZ (P:=P) (w:=w) hu;refine ⟨u,iy (s:=Op.unary op (ev x)) rfl (by rw [aQ hx];exact g1),by rw [Rel,bZ];exact ⟨rfl,g2⟩⟩
  ·cases h
 case convert src tgt x =>
  have hx:=hρ x;split at h
  ·rename_i si di hsi hdi;split at h
   ·rename_i k0 k k1 n e1 e2 e3;simp only [Option.some.injEq] at h;subst h;rw [e3] at hx;exact ⟨_,iy (s:=convert src tgt (ev x)) rfl (by rw [aQ hx];exact LJ hsi hdi e2 k1 k1 n),by rw [dG,Rel,bZ];exact ⟨rfl,rfl⟩⟩
   ·rename_i s e1 e2 e3;simp only [Option.some.injEq] at h;subst h;rw [e3] at hx;exact ⟨_,iy (s:=convert src tgt (ev x)) rfl (by rw [aQ hx];exact LK hsi hdi e1 e2 s),by rw [Rel,bZ];exact ⟨rfl,rfl⟩⟩
   ·cases h
  ·cases h
 case makeFunc fn first caps =>
  split at h
  ·rename_i f;split at h
   ·rename_i hz;simp only [Option.some.injEq] at h;subst h;have hlt:f<1048576:=Nat.le_of_ble_eq_true hz;refine ⟨.func (.func f) (first.map ev) (caps.map ev),iy (s:=Instr.makeFunc (.func f) (first.map ev) (caps.map ev)) rfl (by simp [Instr.makeFunc,go_sem]),?_⟩;rw [Rel];refine ⟨(first.map ev,caps.map ev),⟨?_,?_⟩,?_⟩
    ·rw [show (f+1048576*first.size) % 1048576=f from by rw [Nat.add_mul_mod_self_left];exact Nat.mod_eq_of_lt hlt]
    ·rw [Array.size_map,Nat.add_mul_div_left _ _ (by omega),Nat.div_eq_of_lt hlt,Nat.zero_add]
    ·simp only [Array.toList_map];exact ku _ _ _ _ (mW ρ ev hρ _) (mW ρ ev hρ _)
   ·cases h
  ·rename_i n;split at h
   ·rename_i hc;unfold Xz at h;split at h
    ·rename_i t v hl;simp only [Option.some.injEq] at h;subst h;have hr:=mW ρ ev hρ first.toList;rw [hl,aG] at hr;obtain ⟨u,us,e1,e2,e3⟩:=hr;rw [aG] at e3;subst e3;have e2:=aQ e2;subst e2;have hf:first.map ev = #[.iface t v]:=Array.toList_inj.1 (by rw [Array.toList_map,e1]);have hc':caps = #[]:=Array.toList_inj.1 (by rw [List.isEmpty_iff.1 hc]);subst hc';refine ⟨.func (.method n) #[.iface t v] #[],iy (s:=Instr.makeFunc (.method n) (first.map ev) (#[].map ev)) rfl (by rw [hf];simp [Instr.makeFunc,go_sem]),by rw [Rel,bZ];exact ⟨rfl,rfl⟩⟩
    ·cases h
   ·cases h
  ·cases h
 case fieldAddr t x j =>
  have hx:=hρ x;split at h
  ·rename_i i hi;split at h
   ·rename_i fs hfs;split at h
    ·rename_i fo ft hj;split at h
     ·rename_i fi hfi;split at h
      ·cases h
      ·rename_i hn;split at h
       ·rename_i r off e1;split at h
        ·rename_i hl;simp only [Option.some.injEq] at h;subst h;rw [e1] at hx;obtain ⟨b,z,g1,g2⟩:=zM hk hl hx;refine ⟨_,iy (s:=Instr.fieldAt t (ev x) j) rfl (by rw [g2];exact Dq hi hfs hj hfi hn b off),?_⟩;obtain ⟨k,q1,q2⟩:=sZ hl;obtain ⟨ob,q3,q4⟩:=hk r k q1;rw [Rel,q3];cases ob<;>simp [AO.kind] at q4<;>first | exact ⟨b,z,g1,rfl⟩ | trivial | exact (q2.2 q4.symm).elim
        ·cases h
       ·rename_i cells off e1;simp only [Option.some.injEq] at h;subst h;rw [e1,Rel] at hx;obtain ⟨b,o,g1,g2⟩:=hx;refine ⟨_,iy (s:=Instr.fieldAt t (ev x) j) rfl (by rw [g1];exact Dq hi hfs hj hfi hn b (o+off)),?_⟩;rw [Rel];exact ⟨b,o,by rw [Nat.add_assoc],g2⟩
       ·cases h
     ·cases h
    ·cases h
   ·cases h
  ·cases h
 case field t x j =>
  have hx:=hρ x;split at h
  ·rename_i i hi;split at h
   ·rename_i fs hfs;split at h
    ·rename_i fo ft hj;split at h
     ·rename_i fi hfi;split at h
      ·rename_i cs e1;rw [e1,Rel] at hx;obtain ⟨vs,g1,g2⟩:=hx;obtain ⟨u,hu,hr⟩:=Uo (w:=w) hi hfs hj hfi g2 h;exact ⟨u,iy (s:=Instr.field t (ev x) j) rfl (by rw [g1];exact hu),hr⟩
      ·cases h
     ·cases h
    ·cases h
   ·cases h
  ·cases h
 case indexAddr t x ix =>
  have hx:=hρ x;have hix:=hρ ix;have ptr:∀ {r off b z:Nat},fV lk r=true->E.m r=some (b,z)->Rel E (.ptr r off) (.pointer (some ⟨b,off,none⟩)):=fun {r off b z} hl g1=>by
   obtain ⟨k,q1,q2⟩:=sZ hl;obtain ⟨ob,q3,q4⟩:=hk r k q1;rw [Rel,q3];cases ob<;>simp [AO.kind] at q4<;>first | exact ⟨b,z,g1,rfl⟩ | trivial | exact (q2.2 q4.symm).elim
  split at h
  ·rename_i i hi;split at h
   ·rename_i n e hke;split at h
    ·rename_i ei hei;split at h
     ·rename_i j hj;obtain ⟨k,e2,hlt⟩:=zQ hj;rw [e2] at hix;split at h
      ·rename_i r off e1;split at h
       ·rename_i hl;simp only [Option.some.injEq] at h;subst h;rw [e1] at hx;obtain ⟨b,z,g1,g2⟩:=zM hk hl hx;exact ⟨_,iy (s:=Instr.indexAt t (ev x) (ev ix)) rfl (by rw [g2,aQ hix];exact Dt hi hke hei b off j k hlt),ptr hl g1⟩
       ·cases h
      ·rename_i cells off e1;simp only [Option.some.injEq] at h;subst h;rw [e1,Rel] at hx;obtain ⟨b,o,g1,g2⟩:=hx;refine ⟨_,iy (s:=Instr.indexAt t (ev x) (ev ix)) rfl (by rw [g1,aQ hix];exact Dt hi hke hei b (o+off) j k hlt),?_⟩;rw [Rel];exact ⟨b,o,by rw [Nat.add_assoc],g2⟩
      ·cases h
     ·cases h
    ·cases h
   ·rename_i e hke;split at h
    ·rename_i ei hei;split at h
     ·rename_i r off n cap e1;split at h
      ·rename_i j hj;obtain ⟨k,e2,hlt⟩:=zQ hj;rw [e2] at hix;split at h
       ·rename_i hl;simp only [Option.some.injEq] at h;subst h;rw [e1] at hx;obtain ⟨A,c,g1,g2,g3,g4⟩:=OC hk hl hx;rcases g4 with g4 | ⟨b,z,g4,rfl⟩
        ·omega
        ·exact ⟨_,iy (s:=Instr.indexAt t (ev x) (ev ix)) rfl (by rw [g1,aQ hix];exact EW hi hke hei b off n c j k hlt),ptr hl g4⟩
       ·cases h
      ·cases h
     ·rename_i cells n cap e1;split at h
      ·rename_i j hj;obtain ⟨k,e2,hlt⟩:=zQ hj;rw [e2] at hix;split at h
       ·cases h
       ·rename_i hne;simp only [Option.some.injEq] at h;subst h;rw [e1,Rel,bZ] at hx;obtain ⟨A,c,g1,g2,g3,g4,g5⟩:=hx;rcases g5 with g5 | ⟨b,o,rfl,g5,g6⟩
        ·rw [g5] at hne;simp at hne
        ·refine ⟨_,iy (s:=Instr.indexAt t (ev x) (ev ix)) rfl (by rw [g1,aQ hix];exact EW hi hke hei b o n c j k hlt),?_⟩;rw [Rel];exact ⟨b,o,rfl,.inr ⟨g5,g6⟩⟩
      ·cases h
     ·cases h
    ·cases h
   ·cases h
  ·cases h
 case index t x ix =>
  have hx:=hρ x;have hix:=hρ ix;split at h
  ·rename_i i hi;split at h
   ·rename_i n e hke;split at h
    ·rename_i ei hei;split at h
     ·rename_i j cs hj e1;obtain ⟨k,e2,hlt⟩:=zQ hj;rw [e2] at hix;rw [e1,Rel] at hx;obtain ⟨vs,g1,g2⟩:=hx;obtain ⟨u,hu,hr⟩:=Us (w:=w) hi hke hei vs j k hlt g2 h;exact ⟨u,iy (s:=Instr.index t (ev x) (ev ix)) rfl (by rw [g1,aQ hix];exact hu),hr⟩
     ·cases h
    ·cases h
   ·rename_i hke;split at h
    ·rename_i s k j e1 e2;rw [e1] at hx;rw [e2] at hix;split at h
     ·rename_i hj;split at h
      ·rename_i b hb;simp only [Option.some.injEq] at h;subst h;exact ⟨_,iy (s:=Instr.index t (ev x) (ev ix)) rfl (by rw [aQ hx,aQ hix];exact Ur hi hke s k j hj hb),by rw [dG,Rel,bZ];exact ⟨rfl,rfl⟩⟩
      ·cases h
     ·cases h
    ·cases h
   ·cases h
  ·cases h
 case slice t x lo hi mx =>
  split at h
  ·rename_i i hti;split at h
   ·rename_i e hke;split at h
    ·rename_i ei hei
     have go:(∀r off n cap,ρ x = .sl r off n cap->∃e' cs wr,E.hp r=some (.data e' ei.size cs wr))->(∀s,ρ x ≠ .d (.val (.string s)))->jU ei.size (ρ x) (lo.map ρ) (hi.map ρ) (mx.map ρ)=some v ->
      ∃u,(execOp ev ⟨dst,.slice t x lo hi mx,type,pos,after,guard⟩).run P w = .ok (.value u) w/\Rel E v u:=fun a1 a2 a3=>by
      obtain ⟨u,hu,hr⟩:=Uy (w:=w) hρ hti hke hei x lo hi mx a1 a2 a3;exact ⟨u,iy (s:=Instr.sliceAt t (ev x) (lo.map ev) (hi.map ev) (mx.map ev)) rfl hu,hr⟩
     split at h
     ·rename_i r off n cap e1;split at h
      ·rename_i s hl;split at h
       ·rename_i hs;subst hs;obtain ⟨ob,q3,q4⟩:=hk r _ hl;refine go (fun r' off' n' cap' e2 => ?_) (fun s e2=>by rw [e1] at e2;cases e2) (by rw [e1];exact h);rw [e1] at e2;cases e2;cases ob<;>simp [AO.kind] at q4
        subst q4;exact ⟨_,_,_,q3⟩
       ·cases h
      ·cases h
     ·rename_i e1;exact go (fun r' off' n' cap' e2=>by rw [e1] at e2;cases e2) (fun s e2=>by rw [e1] at e2;cases e2) (by rw [e1];exact h)
     ·rename_i cells n cap e1;exact go (fun r' off' n' cap' e2=>by rw [e1] at e2;cases e2) (fun s e2=>by rw [e1] at e2;cases e2) (by rw [e1];exact h)
     ·cases h
    ·cases h
   ·rename_i hke;split at h
    ·rename_i s e1;obtain ⟨u,hu,hr⟩:=aa3 (w:=w) hρ hti hke x lo hi mx e1 h;exact ⟨u,iy (s:=Instr.sliceAt t (ev x) (lo.map ev) (hi.map ev) (mx.map ev)) rfl hu,hr⟩
    ·cases h
   ·cases h
  ·cases h
 case extract x j =>
  have hx:=hρ x;split at h
  ·rename_i vs e1;rw [e1,Rel] at hx;obtain ⟨us,g1,g2⟩:=hx;obtain ⟨u,hu,hr⟩:=qp _ _ _ _ g2 h;refine ⟨u,iy (s:=Instr.extract (ev x) j) rfl ?_,hr⟩;have hu':us[j]? = some u:=by simpa using hu
   rw [g1];simp [Instr.extract,hu',go_sem]
  ·cases h
 case call c =>
  split at h
  ·rename_i b hb;split at h
   ·rename_i hl;obtain ⟨u,hu,hr⟩:=XB (w:=w) (ty:=type) (consts:=c.args.map fun | .const _=>true | _=>false) hk hρ hl h;refine ⟨u,?_,hr⟩;simp only [execOp,resolve,hb,Sem.run_bind,Sem.run_pure,Result.andThen_ok,invoke];exact hu
   ·cases h
  ·cases h
end
def dH (hp:Nat->Option AO) (us:List (Nat×AO)):Nat->Option AO:=fun r=>match look r us with | some o=>some o | none=>hp r
theorem bI {α:Type} (k:Nat):∀(a b:List (Nat×α)),look k (a++b)=match look k a with | some x=>some x | none=>look k b
 | [],b=>rfl
 | (i,x)::a,b=>by
   simp only [List.cons_append,look];split
   ·rfl
   ·exact bI k a b
theorem aU {α:Type} {k:Nat} {x:α}:∀ {l:List (Nat×α)},look k l=some x->(k,x)∈l
 | [],h=>by cases h
 | (i,y)::l,h=>by
   simp only [look] at h;split at h
   ·rename_i hi;subst hi;cases h;exact List.mem_cons_self
   ·exact List.mem_cons_of_mem _ (aU h)
theorem nR {α:Type} {k:Nat}:∀ {l:List (Nat×α)},look k l=none->∀x,(k,x)∉l
 | [],_,x,hx=>by cases hx
 | (i,y)::l,h,x,hx=>by
   simp only [look] at h;split at h
   ·cases h
   ·rename_i hi;rcases List.mem_cons.1 hx with e | hx
    ·cases e;exact hi rfl
    ·exact nR h x hx
theorem LP (hp:Nat->Option AO) (a b:List (Nat×AO)):dH hp (a++b)=dH (dH hp b) a:=by
 funext r;simp only [dH,bI];cases look r a<;>rfl
def zV (E:En) (k:Nat):Prop:=∃r o z,E.hp r=some o/\o.mutB=true/\E.m r=some (k,z)
structure mX (E:En) (w:World) (E':En) (w':World):Prop where
 os:w'.os=w.os
 tape:w'.tape=w.tape
 output:w'.output=w.output
 size:w.heap.size<=w'.heap.size
 blk:∀k,k<w.heap.size->¬zV E k->w'.heap[k]? = w.heap[k]?
 mb:∀k,zV E' k->zV E k\/w.heap.size<=k
 xs:∀k,E'.X k->E.X k\/w.heap.size<=k
 xk:∀k,k<w.heap.size->E.X k->¬zV E k->E'.X k
theorem mX.refl (E:En) (w:World):mX E w E w:=⟨rfl,rfl,rfl,Nat.le_refl _,fun _ _ _=>rfl,fun _ h => .inl h,fun _ h => .inl h,fun _ _ h _=>h⟩
theorem mX.trans {E E' E'':En} {w w' w'':World} (h:mX E w E' w') (k:mX E' w' E'' w''):mX E w E'' w'':=by
 refine ⟨k.os.trans h.os,k.tape.trans h.tape,k.output.trans h.output,Nat.le_trans h.size k.size,fun j hj hm => ?_,fun j hj => ?_,fun j hj => ?_,fun j hj hx hm => ?_⟩
 ·rw [k.blk j (by have:=h.size;omega) (fun hm' => ?_),h.blk j hj hm];rcases h.mb j hm' with q | q
  ·exact hm q
  ·omega
 ·rcases k.mb j hj with q | q
  ·exact h.mb j q
  ·have:=h.size;exact .inr (by omega)
 ·rcases k.xs j hj with q | q
  ·exact h.xs j q
  ·have:=h.size;exact .inr (by omega)
 ·refine k.xk j (by have:=h.size;omega) (h.xk j hj hx hm) (fun hm' => ?_);rcases h.mb j hm' with q | q
  ·exact hm q
  ·omega
structure Goes (GL:Nat->Option (List DV)) (E:En) (w:World) (us:List (Nat×AO)) (E':En) (w':World):Prop where
 h:w'.heap=E'.h
 hp:E'.hp=dH E.hp us
 ext:Ext E E'
 sim:eX GL E'
 fr:mX E w E' w'
theorem Goes.refl {GL:Nat->Option (List DV)} {E:En} {w:World} (hw:w.heap=E.h) (hs:eX GL E):Goes GL E w [] E w:=⟨hw,rfl,Ext.refl _,hs,mX.refl _ _⟩
theorem Goes.trans {GL:Nat->Option (List DV)} {E E' E'':En} {w w' w'':World} {us us':List (Nat×AO)} (h:Goes GL E w us E' w') (k:Goes GL E' w' us' E'' w''):Goes GL E w (us'++us) E'' w'' :=
 ⟨k.h,by rw [k.hp,h.hp,LP],h.ext.trans k.ext,k.sim,h.fr.trans k.fr⟩
theorem eu.at_ {h:Array Obj} {X:Nat->Prop} {h':Array Obj} {X':Nat->Prop} (hs:Sub h X h' X') {b b':Nat}:∀(cells:List DV) (o o':Nat),(∀i u,i<cells.length->je h b (o+i)=some u->je h' b' (o'+i)=some u)->eu h X cells b o->eu h' X' cells b' o'
 | [],_,_,_,_=>by rw [eu];trivial
 | x::xs,o,o',hc,hr=>by
   rw [eu] at hr ⊢;obtain ⟨⟨u,h1,h2⟩,h3⟩:=hr;refine ⟨⟨u,hc 0 u (by simp) h1,bZ.mono hs x u h2⟩,eu.at_ hs xs (o+1) (o'+1) (fun i v hi hv => ?_) h3⟩;have:=hc (i+1) v (by simp;omega) (by rw [show o+(i+1)=o+1+i from by omega];exact hv);rw [show o'+1+i=o'+(i+1) from by omega];exact this
theorem qx {h h':Array Obj} {b:Nat} (e:h'[b]? = h[b]?) (o:Nat):je h' b o=je h b o:=by unfold je;rw [e]
theorem qY.ext {E E':En} (he:Ext E E') {r:Nat} {o:AO} (hr:qY E r o) (hm:o = .dead\/E'.m r=E.m r) (hb:∀b z,E.m r=some (b,z)->E'.h[b]? = E.h[b]?) (hX:∀b z,E.m r=some (b,z)->(E'.X b↔E.X b)):qY E' r o:=by
 cases o with
 | dead=>exact trivial
 | mix cs =>
   rcases hm with hm | hm
   ·cases hm
   ·obtain ⟨b,cur,t,h1,h2,h3,h4⟩:=hr;exact ⟨b,cur,t,hm.trans h1,(hb b _ h1).trans h2,aG.ext he _ _ h3,(hX b _ h1).2 h4⟩
 | mp kk ks vs =>
   rcases hm with hm | hm
   ·cases hm
   ·obtain ⟨b,es,cl,h1,h2,h3,h4⟩:=hr;exact ⟨b,es,cl,hm.trans h1,(hb b _ h1).trans h2,h3.ext he,(hX b _ h1).2 h4⟩
 | data e s cs wr =>
   rcases hm with hm | hm
   ·cases hm
   ·rcases hr with ⟨h1,h2⟩ | ⟨b,cur,h1,h2,h3,h4,h5,h6⟩
    ·exact .inl ⟨hm.trans h1,h2⟩
    ·refine .inr ⟨b,cur,hm.trans h1,(hb b _ h1).trans h2,?_,?_,h5,h6⟩
     ·exact eu.at_ he.sub cs 0 0 (fun i u _ hu=>by rw [qx (hb b _ h1)];exact hu) h3
     ·cases wr
      ·simp only [Bool.false_eq_true,if_false] at h4 ⊢;exact fun hx=>h4 ((hX b _ h1).1 hx)
      ·simp only [if_true] at h4 ⊢;exact (hX b _ h1).2 h4
def Dx (hp:Nat->Option AO) (us:List (Nat×AO)):Prop:=∀r o,(r,o)∈us->∃e s cs wr,hp r=some (.data e s cs wr)/\o = .data e s cs false
def Ls (E:En) (us:List (Nat×AO)):En:={E with hp:=dH E.hp us,X:=fun k=>E.X k/\¬ ∃r o z,(r,o)∈us/\E.m r=some (k,z)}
theorem RF {E:En} {us:List (Nat×AO)} (hf:Dx E.hp us):Ext E (Ls E us):=by
 refine ⟨fun b o u hx hc=>⟨fun hx'=>hx hx'.1,hc⟩,fun r o ho => ?_⟩;show ∃o',dH E.hp us r=some o'/\_;cases hl:look r us with
 | none=>exact ⟨o,by simp only [dH,hl];exact ho,o.like_refl,.inr rfl⟩
 | some o' =>
   obtain ⟨e,s,cs,wr,h1,h2⟩:=hf r o' (aU hl);rw [ho] at h1;cases h1;exact ⟨o',by simp only [dH,hl],by rw [h2];exact ⟨rfl,rfl⟩,.inr rfl⟩
theorem zW {GL:Nat->Option (List DV)} {E:En} {w:World} (hw:w.heap=E.h) (hs:eX GL E) {us:List (Nat×AO)} (hf:Dx E.hp us):Goes GL E w us (Ls E us) w:=by
 have hex:=RF hf;have hmut:∀r o,(Ls E us).hp r=some o->o.mutB=true->E.hp r=some o/\∀o',(r,o')∉us:=fun r o ho hm=>by
  have ho':dH E.hp us r=some o:=ho;cases hl:look r us with
  | none=>simp only [dH,hl] at ho';exact ⟨ho',nR hl⟩
  | some o' =>
    simp only [dH,hl,Option.some.injEq] at ho';subst ho';obtain ⟨e,s,cs,wr,h1,h2⟩:=hf r o' (aU hl);rw [h2] at hm;cases hm
 have hX:∀r o b z,(Ls E us).hp r=some o->o.mutB=true->E.m r=some (b,z)->E.X b->(Ls E us).X b:=fun r o b z ho hm hb hx=>by
  obtain ⟨h1,h2⟩:=hmut r o ho hm;refine ⟨hx,fun ⟨r',o',z',h3,h4⟩ => ?_⟩;obtain ⟨e,s,cs,wr,h5,h6⟩:=hf r' o' h3;cases wr with
  | true =>
    have:=hs.inj r r' o _ b z z' h1 h5 hm rfl hb h4;subst this;exact h2 _ h3
  | false =>
    have:=hs.ob r' _ h5;rcases this with ⟨g1,_⟩ | ⟨b',cur,g1,g2,g3,g4,_⟩
    ·rw [g1] at h4;cases h4
    ·rw [h4] at g1;cases g1;simp only [Bool.false_eq_true,if_false] at g4;exact g4 hx
 refine ⟨hw,rfl,hex,⟨fun r o ho => ?_,fun r r' o o' b z z' h1 h2 h3 h4 h5 h6 => ?_,fun g cells hg => ?_⟩,⟨rfl,rfl,rfl,Nat.le_refl _,fun _ _ _=>rfl,fun k ⟨r,o,z,h1,h2,h3⟩ => .inl ⟨r,o,z,(hmut r o h1 h2).1,h2,h3⟩,fun k hk => .inl hk.1,fun k _ hx hm=>⟨hx,fun ⟨r,o,z,h3,h4⟩ => ?_⟩⟩⟩
 ·have ho':dH E.hp us r=some o:=ho;cases hl:look r us with
  | none =>
    simp only [dH,hl] at ho';have hr:=hs.ob r o ho';cases o with
    | dead=>exact trivial
    | mix cs =>
      obtain ⟨b,cur,t,g1,g2,g3,g4⟩:=hr;exact ⟨b,cur,t,g1,g2,aG.ext hex _ _ g3,hX r _ b _ ho rfl g1 g4⟩
    | mp kk ks vs =>
      obtain ⟨b,es,cl,g1,g2,g3,g4⟩:=hr;exact ⟨b,es,cl,g1,g2,g3.ext hex,hX r _ b _ ho rfl g1 g4⟩
    | data e s cs wr =>
      rcases hr with ⟨g1,g2⟩ | ⟨b,cur,g1,g2,g3,g4,g5⟩
      ·exact .inl ⟨g1,g2⟩
      ·refine .inr ⟨b,cur,g1,g2,eu.at_ hex.sub cs 0 0 (fun _ _ _ h=>h) g3,?_,g5⟩;cases wr with
       | false=>simp only [Bool.false_eq_true,if_false] at g4 ⊢;exact fun h=>g4 h.1
       | true=>simp only [if_true] at g4 ⊢;exact hX r _ b _ ho rfl g1 g4
  | some o' =>
    simp only [dH,hl,Option.some.injEq] at ho';subst ho';obtain ⟨e,s,cs,wr,h1,h2⟩:=hf r o' (aU hl);subst h2;rcases hs.ob r _ h1 with ⟨g1,g2⟩ | ⟨b,cur,g1,g2,g3,g4,g5⟩
    ·exact .inl ⟨g1,g2⟩
    ·refine .inr ⟨b,cur,g1,g2,eu.at_ hex.sub cs 0 0 (fun _ _ _ h=>h) g3,?_,g5⟩;simp only [Bool.false_eq_true,if_false];exact fun h=>h.2 ⟨r,_,_,aU hl,g1⟩
 ·exact hs.inj r r' o o' b z z' (hmut r o h1 h3).1 (hmut r' o' h2 h4).1 h3 h4 h5 h6
 ·rcases hs.gl g cells hg with g0 | ⟨g1,g2⟩
  ·exact .inl g0
  ·exact .inr ⟨fun h=>g1 h.1,eu.mono hex.sub cells g 0 g1 g2⟩
 ·obtain ⟨e,s,cs,wr,h5,h6⟩:=hf r o h3;cases wr with
  | true=>exact hm ⟨r,_,z,h5,rfl,h4⟩
  | false =>
    rcases hs.ob r _ h5 with ⟨g1,_⟩ | ⟨b',cur,g1,g2,g3,g4,_⟩
    ·rw [g1] at h4;cases h4
    ·rw [h4] at g1;cases g1;simp only [Bool.false_eq_true,if_false] at g4;exact g4 hx
theorem XE {rd:Nat->Option AO} {hp:Nat->Option AO} (hrd:∀r o,rd r=some o->hp r=some o) {x:AV} {y:DV} {us:List (Nat×AO)} (h:zK rd x=some (y,us)):Dx hp us:=by
 unfold zK at h;split at h
 ·simp only [Option.some.injEq,Prod.mk.injEq] at h;obtain ⟨_,rfl⟩:=h;intro r o hm;cases hm
 ·split at h
  ·rename_i r off n cap e s cs wr hr;simp only [Option.some.injEq,Prod.mk.injEq] at h;obtain ⟨_,rfl⟩:=h;intro r' o hm;rcases List.mem_singleton.1 hm with hm;cases hm;exact ⟨e,s,cs,wr,hrd _ _ hr,rfl⟩
  ·cases h
 ·cases h
theorem Bv {rd:Nat->Option AO} {hp:Nat->Option AO} (hrd:∀r o,rd r=some o->hp r=some o):∀ {xs:List AV} {ys:List DV} {us:List (Nat×AO)},fG rd xs=some (ys,us)->Dx hp us
 | [],ys,us,h=>by
   simp only [fG,Option.some.injEq,Prod.mk.injEq] at h;obtain ⟨_,rfl⟩:=h;intro r o hm;cases hm
 | x::xs,ys,us,h=>by
   simp only [fG] at h;split at h
   ·rename_i y u ys' us' h1 h2;simp only [Option.some.injEq,Prod.mk.injEq] at h;obtain ⟨_,rfl⟩:=h;intro r o hm;rcases List.mem_append.1 hm with hm | hm
    ·exact XE hrd h1 r o hm
    ·exact Bv hrd h2 r o hm
   ·cases h
def dV (h:Array Obj) (X:Nat->Prop):List DV->List Value->Prop
 | [],vs=>vs=[]
 | x::xs,vs=>∃v vs',vs=v::vs'/\bZ h X x v/\dV h X xs vs'
theorem Bz {h:Array Obj} {X:Nat->Prop} {x:DV} {u:Value} (hr:bZ h X x u):bZ h X (sU x) u:=by
 cases x with
 | dl cs n cap =>
   rw [bZ] at hr;obtain ⟨A,c,h1,h2,h3,h4,h5⟩:=hr;rw [sU,bZ];exact ⟨A,c,h1,h2,h3,fun k hk=>(by cases hk),h5⟩
 | val v =>
   unfold sU;split
   ·rename_i e;cases e;rw [bZ] at hr;obtain ⟨rfl,_⟩:=hr;rw [bZ];exact ⟨none,0,rfl,Nat.le_refl _,Nat.zero_le _,fun k hk=>(by cases hk),.inl rfl⟩
   ·rename_i e;cases e
   ·exact hr
theorem XF {E:En} {rd:Nat->Option AO} (hrd:∀r o,rd r=some o->E.hp r=some o) {GL:Nat->Option (List DV)} (hs:eX GL E) {x:AV} {y:DV} {us all:List (Nat×AO)} (h:zK rd x=some (y,us)) (ha:Dx E.hp all) (hsub:∀p∈us,p∈all) {u:Value} (hr:Rel E x u) :
 bZ (Ls E all).h (Ls E all).X y u:=by
 have hex:=RF ha;unfold zK at h;split at h
 ·simp only [Option.some.injEq,Prod.mk.injEq] at h;obtain ⟨rfl,_⟩:=h;rw [Rel] at hr;exact Bz (bZ.mono hex.sub _ _ hr)
 ·rename_i r off n cap;split at h
  ·rename_i e s cs wr hr0;simp only [Option.some.injEq,Prod.mk.injEq] at h;obtain ⟨rfl,rfl⟩:=h;have ho:=hrd _ _ hr0;rw [Rel,ho] at hr;rw [bZ];rcases hr with ⟨rfl,hc,_,A,rfl⟩ | ⟨b,z,c,g1,rfl,g3,g4,g5,g6⟩
   ·refine ⟨A,0,rfl,Nat.le_refl _,Nat.zero_le _,fun k hk => ?_,.inl (by simp)⟩;cases hk
   ·refine ⟨_,c,rfl,g3,g4,fun k hk => ?_,?_⟩
    ·cases hk
    ·rcases hs.ob r _ ho with ⟨q1,q2⟩ | ⟨b',cur,q1,q2,q3,q4,q5⟩
     ·rw [q1] at g1;cases g1
     ·rw [q1] at g1;cases g1;refine .inr ⟨b,off,rfl,fun hx=>hx.2 ⟨r,_,_,hsub _ (List.mem_singleton.2 rfl),q1⟩,?_⟩;have:=jf (n*s) _ _ _ (jR off _ _ _ q3);rw [Nat.zero_add] at this;exact eu.at_ hex.sub _ _ _ (fun _ _ _ h=>h) this
  ·cases h
 ·cases h
theorem BA {E:En} {rd:Nat->Option AO} (hrd:∀r o,rd r=some o->E.hp r=some o) {GL:Nat->Option (List DV)} (hs:eX GL E) {all:List (Nat×AO)} (ha:Dx E.hp all):∀ {xs:List AV} {ys:List DV} {us:List (Nat×AO)},fG rd xs=some (ys,us)->(∀p∈us,p∈all)->∀ {vs:List Value},aG E xs vs ->
 dV (Ls E all).h (Ls E all).X ys vs
 | [],ys,us,h,hsub,vs,hr=>by
   simp only [fG,Option.some.injEq,Prod.mk.injEq] at h;obtain ⟨rfl,_⟩:=h;rw [aG] at hr;exact hr
 | x::xs,ys,us,h,hsub,vs,hr=>by
   simp only [fG] at h;split at h
   ·rename_i y u ys' us' h1 h2;simp only [Option.some.injEq,Prod.mk.injEq] at h;obtain ⟨rfl,rfl⟩:=h;rw [aG] at hr;obtain ⟨v,vs',rfl,k1,k2⟩:=hr;exact ⟨v,vs',rfl,XF hrd hs h1 ha (fun p hp=>hsub p (List.mem_append_left _ hp)) k1,BA hrd hs ha h2 (fun p hp=>hsub p (List.mem_append_right _ hp)) k2⟩
   ·cases h
theorem eF {α:Type} (k i:Nat) (x:α):look k [(i,x)]=if i=k then some x else none:=rfl
def akL (E:En) (cur:Array Value) (t:TypeId):AO->Prop
 | .mix cs=>aG E cs cur.toList
 | .data e s cs wr=>e=t/\wr=true/\(∀(i:Nat) (x:DV),cs[i]? = some x->∃u,cur[i]? = some u/\bZ E.h E.X x u)/\(∃c,cur.size=c*s/\c<=maxLen)/\0<s
 | .mp _ _ _=>False
 | .dead=>False
theorem EC {h h':Array Obj} {X X':Nat->Prop} (hs:Sub h X h' X') {b:Nat}:∀(cs:List DV) (o:Nat),(∀i x,cs[i]? = some x->∃u,je h' b (o+i)=some u/\bZ h X x u)->eu h' X' cs b o
 | [],_,_=>by rw [eu];trivial
 | x::cs,o,hc=>by
   rw [eu];obtain ⟨u,h1,h2⟩:=hc 0 x rfl;refine ⟨⟨u,h1,bZ.mono hs x u h2⟩,EC hs cs (o+1) fun i y hy => ?_⟩;obtain ⟨v,h3,h4⟩:=hc (i+1) y (by simpa using hy);exact ⟨v,by rw [show o+1+i=o+(i+1) from by omega];exact h3,h4⟩
theorem jk {h:Array Obj} {b:Nat} {cur:Array Value} {t:TypeId} {fz:Nat×Nat} (e:h[b]? = some (.cells cur t fz)) (o:Nat):je h b o=cur[o]? := by unfold je;rw [e]
def newE (E:En) (slot:Nat) (o:AO) (cur:Array Value) (t:TypeId):En :=
 {m:=fun r=>if r=slot then some (E.h.size,cur.size) else E.m r,hp:=dH E.hp [(slot,o)],X:=fun k=>E.X k\/k=E.h.size,h:=E.h.push (.cells cur t)}
theorem wF {GL:Nat->Option (List DV)} {E:En} {w w':World} (hw:w.heap=E.h) (hs:eX GL E) {slot:Nat} (hn:E.hp slot=none) {o:AO} {cur:Array Value} {t:TypeId} (ho:akL E cur t o)
 (h1:w'.heap=w.heap.push (.cells cur t)) (h2:w'.os=w.os) (h3:w'.tape=w.tape) (h4:w'.output=w.output):Goes GL E w [(slot,o)] (newE E slot o cur t) w':=by
 have hnew:(newE E slot o cur t).h[E.h.size]? = some (.cells cur t):=by simp [newE]
 have hold:∀k,k<E.h.size->(newE E slot o cur t).h[k]? = E.h[k]? := fun k hk=>by simp only [newE];rw [Array.getElem?_push,if_neg (by omega)]
 have hhp:∀r,r≠slot->(newE E slot o cur t).hp r=E.hp r:=fun r hr=>by simp only [newE,dH,eF];rw [if_neg (fun e=>hr e.symm)]
 have hm:∀r,r≠slot->(newE E slot o cur t).m r=E.m r:=fun r hr=>by simp only [newE];rw [if_neg hr]
 have hslot:∀r ob,E.hp r=some ob->r≠slot:=fun r ob he e=>by rw [e,hn] at he;cases he
 have hblk:∀r ob b z,E.hp r=some ob->ob ≠ .dead->E.m r=some (b,z)->b<E.h.size:=fun r ob b z he hd hb=>by
  have:=hs.ob r ob he;cases ob with
  | dead=>exact (hd rfl).elim
  | mix cs=>obtain ⟨b',cur',t',g1,g2,_⟩:=this;rw [hb] at g1;cases g1;exact (Array.getElem?_eq_some_iff.1 g2).1
  | mp kk ks vs=>obtain ⟨b',es,cl,g1,g2,_⟩:=this;rw [hb] at g1;cases g1;exact (Array.getElem?_eq_some_iff.1 g2).1
  | data e s cs wr =>
    rcases this with ⟨g1,_⟩ | ⟨b',cur',g1,g2,_⟩
    ·rw [hb] at g1;cases g1
    ·rw [hb] at g1;cases g1;exact (Array.getElem?_eq_some_iff.1 g2).1
 have hex:Ext E (newE E slot o cur t):=by
  refine ⟨fun b ofs u hx hc => ?_,fun r ob he=>⟨ob,(hhp r (hslot r ob he)).trans he,ob.like_refl,.inr (hm r (hslot r ob he))⟩⟩;have hlt:=zH hc;exact ⟨fun hx'=>hx'.elim hx (fun e=>by omega),by rw [qx (hold b hlt)];exact hc⟩
 have hmutnew:o.mutB=true:=by
  cases o with
  | dead=>exact ho.elim
  | mp kk ks vs=>exact ho.elim
  | mix cs=>rfl
  | data e s cs wr=>exact ho.2.1
 have hself:qY (newE E slot o cur t) slot o:=by
  have e1:(newE E slot o cur t).m slot=some (E.h.size,cur.size):=by simp [newE]
  cases o with
  | dead=>exact trivial
  | mp kk ks vs=>exact ho.elim
  | mix cs=>exact ⟨E.h.size,cur,t,e1,hnew,aG.ext hex _ _ ho,.inr rfl⟩
  | data e s cs wr =>
    obtain ⟨rfl,rfl,g3,g4,g5⟩:=ho;refine .inr ⟨E.h.size,cur,e1,hnew,EC hex.sub cs 0 fun i x hx => ?_,by simp only [if_true];exact .inr rfl,g4,g5⟩;obtain ⟨u,k1,k2⟩:=g3 i x hx;exact ⟨u,by rw [jk hnew,Nat.zero_add];exact k1,k2⟩
 have hmm:∀r ob,(newE E slot o cur t).hp r=some ob->(r=slot/\ob=o)\/(r≠slot/\E.hp r=some ob):=fun r ob he=>by
  by_cases hr:r=slot
  ·subst hr;simp only [newE,dH,eF,if_true,Option.some.injEq] at he;exact .inl ⟨rfl,he.symm⟩
  ·exact .inr ⟨hr,(hhp r hr).symm.trans he⟩
 refine ⟨by rw [h1,hw];rfl,rfl,hex,⟨fun r ob he => ?_,fun r r' ob ob' b z z' e1 e2 e3 e4 e5 e6 => ?_,fun g cells hg => ?_⟩,⟨h2,h3,h4,by rw [h1];simp,fun k hk _ => ?_,fun k ⟨r,ob,z,e1,e2,e3⟩ => ?_,fun k hk => ?_,fun k _ hx _ => .inl hx⟩⟩
 ·rcases hmm r ob he with ⟨rfl,rfl⟩ | ⟨hr,he'⟩
  ·exact hself
  ·by_cases hd:ob = .dead
   ·subst hd;exact trivial
   ·refine qY.ext hex (hs.ob r ob he') (.inr (hm r hr)) (fun b z hb=>hold b (hblk r ob b z he' hd hb)) (fun b z hb=>⟨fun h=>h.elim id (fun e => ?_),fun h => .inl h⟩);have:=hblk r ob b z he' hd hb;omega
 ·have nd:∀ob:AO,ob.mutB=true->ob ≠ .dead:=fun ob h e=>by rw [e] at h;cases h
  rcases hmm r ob e1 with ⟨rfl,rfl⟩ | ⟨hr,e1'⟩
  ·rcases hmm r' ob' e2 with ⟨rfl,rfl⟩ | ⟨hr',e2'⟩
   ·rfl
   ·rw [hm r' hr'] at e6;have:=hblk r' ob' b z' e2' (nd _ e4) e6;simp only [newE,if_true,Option.some.injEq,Prod.mk.injEq] at e5;omega
  ·rcases hmm r' ob' e2 with ⟨rfl,rfl⟩ | ⟨hr',e2'⟩
   ·rw [hm r hr] at e5;have:=hblk r ob b z e1' (nd _ e3) e5;simp only [newE,if_true,Option.some.injEq,Prod.mk.injEq] at e6;omega
   ·rw [hm r hr] at e5;rw [hm r' hr'] at e6;exact hs.inj r r' ob ob' b z z' e1' e2' e3 e4 e5 e6
 ·rcases hs.gl g cells hg with g0 | ⟨g1,g2⟩
  ·exact .inl g0
  ·exact jQ hex.sub cells g 0 g1 g2
 ·rw [h1,hw];exact hold k (by rw [<-hw];exact hk)
 ·rcases hmm r ob e1 with ⟨rfl,rfl⟩ | ⟨hr,e1'⟩
  ·simp only [newE,if_true,Option.some.injEq,Prod.mk.injEq] at e3;exact .inr (by rw [hw];omega)
  ·rw [hm r hr] at e3;exact .inl ⟨r,ob,z,e1',e2,e3⟩
 ·rcases hk with hk | hk
  ·exact .inl hk
  ·exact .inr (by rw [hw];omega)
def vX (E:En) (slot:Nat) (kk:IntKind):En :=
 {m:=fun r=>if r=slot then some (E.h.size,0) else E.m r,hp:=dH E.hp [(slot,.mp kk [] [])],X:=fun k=>E.X k\/k=E.h.size,h:=E.h.push (.map #[] 0)}
theorem UA {GL:Nat->Option (List DV)} {E:En} {w w':World} (hw:w.heap=E.h) (hs:eX GL E) {slot:Nat} (kk:IntKind) (hn:E.hp slot=none)
 (h1:w'.heap=w.heap.push (.map #[] 0)) (h2:w'.os=w.os) (h3:w'.tape=w.tape) (h4:w'.output=w.output):Goes GL E w [(slot,.mp kk [] [])] (vX E slot kk) w':=by
 have hnew:(vX E slot kk).h[E.h.size]? = some (.map #[] 0):=by simp [vX]
 have hold:∀k,k<E.h.size->(vX E slot kk).h[k]? = E.h[k]? := fun k hk=>by simp only [vX];rw [Array.getElem?_push,if_neg (by omega)]
 have hhp:∀r,r≠slot->(vX E slot kk).hp r=E.hp r:=fun r hr=>by simp only [vX,dH,eF];rw [if_neg (fun e=>hr e.symm)]
 have hm:∀r,r≠slot->(vX E slot kk).m r=E.m r:=fun r hr=>by simp only [vX];rw [if_neg hr]
 have hslot:∀r ob,E.hp r=some ob->r≠slot:=fun r ob he e=>by rw [e,hn] at he;cases he
 have hblk:∀r ob b z,E.hp r=some ob->ob ≠ .dead->E.m r=some (b,z)->b<E.h.size:=fun r ob b z he hd hb=>by
  have:=hs.ob r ob he;cases ob with
  | dead=>exact (hd rfl).elim
  | mix cs=>obtain ⟨b',cur',t',g1,g2,_⟩:=this;rw [hb] at g1;cases g1;exact (Array.getElem?_eq_some_iff.1 g2).1
  | mp kk ks vs=>obtain ⟨b',es,cl,g1,g2,_⟩:=this;rw [hb] at g1;cases g1;exact (Array.getElem?_eq_some_iff.1 g2).1
  | data e s cs wr =>
    rcases this with ⟨g1,_⟩ | ⟨b',cur',g1,g2,_⟩
    ·rw [hb] at g1;cases g1
    ·rw [hb] at g1;cases g1;exact (Array.getElem?_eq_some_iff.1 g2).1
 have hex:Ext E (vX E slot kk):=by
  refine ⟨fun b ofs u hx hc => ?_,fun r ob he=>⟨ob,(hhp r (hslot r ob he)).trans he,ob.like_refl,.inr (hm r (hslot r ob he))⟩⟩;have hlt:=zH hc;exact ⟨fun hx'=>hx'.elim hx (fun e=>by omega),by rw [qx (hold b hlt)];exact hc⟩
 have hself:qY (vX E slot kk) slot (.mp kk [] []):=⟨E.h.size,#[],0,by simp [vX],hnew,⟨rfl,rfl⟩,.inr rfl⟩
 have hmm:∀r ob,(vX E slot kk).hp r=some ob->(r=slot/\ob = .mp kk [] [])\/(r≠slot/\E.hp r=some ob):=fun r ob he=>by
  by_cases hr:r=slot
  ·subst hr;simp only [vX,dH,eF,if_true,Option.some.injEq] at he;exact .inl ⟨rfl,he.symm⟩
  ·exact .inr ⟨hr,(hhp r hr).symm.trans he⟩
 refine ⟨by rw [h1,hw];rfl,rfl,hex,⟨fun r ob he => ?_,fun r r' ob ob' b z z' e1 e2 e3 e4 e5 e6 => ?_,fun g cells hg => ?_⟩,⟨h2,h3,h4,by rw [h1];simp,fun k hk _ => ?_,fun k ⟨r,ob,z,e1,e2,e3⟩ => ?_,fun k hk => ?_,fun k _ hx _ => .inl hx⟩⟩
 ·rcases hmm r ob he with ⟨rfl,rfl⟩ | ⟨hr,he'⟩
  ·exact hself
  ·by_cases hd:ob = .dead
   ·subst hd;exact trivial
   ·refine qY.ext hex (hs.ob r ob he') (.inr (hm r hr)) (fun b z hb=>hold b (hblk r ob b z he' hd hb)) (fun b z hb=>⟨fun h=>h.elim id (fun e => ?_),fun h => .inl h⟩);have:=hblk r ob b z he' hd hb;omega
 ·have nd:∀ob:AO,ob.mutB=true->ob ≠ .dead:=fun ob h e=>by rw [e] at h;cases h
  rcases hmm r ob e1 with ⟨rfl,rfl⟩ | ⟨hr,e1'⟩
  ·rcases hmm r' ob' e2 with ⟨rfl,rfl⟩ | ⟨hr',e2'⟩
   ·rfl
   ·rw [hm r' hr'] at e6;have:=hblk r' ob' b z' e2' (nd _ e4) e6;simp only [vX,if_true,Option.some.injEq,Prod.mk.injEq] at e5;omega
  ·rcases hmm r' ob' e2 with ⟨rfl,rfl⟩ | ⟨hr',e2'⟩
   ·rw [hm r hr] at e5;have:=hblk r ob b z e1' (nd _ e3) e5;simp only [vX,if_true,Option.some.injEq,Prod.mk.injEq] at e6;omega
   ·rw [hm r hr] at e5;rw [hm r' hr'] at e6;exact hs.inj r r' ob ob' b z z' e1' e2' e3 e4 e5 e6
 ·rcases hs.gl g cells hg with g0 | ⟨g1,g2⟩
  ·exact .inl g0
  ·exact jQ hex.sub cells g 0 g1 g2
 ·rw [h1,hw];exact hold k (by rw [<-hw];exact hk)
 ·rcases hmm r ob e1 with ⟨rfl,rfl⟩ | ⟨hr,e1'⟩
  ·simp only [vX,if_true,Option.some.injEq,Prod.mk.injEq] at e3;exact .inr (by rw [hw];omega)
  ·rw [hm r hr] at e3;exact .inl ⟨r,ob,z,e1',e2,e3⟩
 ·rcases hk with hk | hk
  ·exact .inl hk
  ·exact .inr (by rw [hw];omega)
def akM (E:En) (cur:Array Value):AO->Prop
 | .mix cs=>aG E cs cur.toList
 | .data e s cs wr=>wr=true/\(∀(i:Nat) (x:DV),cs[i]? = some x->∃u,cur[i]? = some u/\bZ E.h E.X x u)
 | .mp _ _ _=>False
 | .dead=>False
def nS (E:En) (r:Nat) (o:AO) (h':Array Obj):En:={E with hp:=dH E.hp [(r,o)],h:=h'}
theorem wG {GL:Nat->Option (List DV)} {E:En} {w w':World} (hw:w.heap=E.h) (hs:eX GL E) {r b z:Nat} {o o':AO} (hr:E.hp r=some o) (hmu:o.mutB=true) (hmr:E.m r=some (b,z)) (hl:o.like o')
 {cur cur':Array Value} {t:TypeId} (hb:E.h[b]? = some (.cells cur t)) (hsz:cur'.size=cur.size) (ho:akM E cur' o') (hb':w'.heap[b]? = some (.cells cur' t)) (hoth:∀k,k≠b->w'.heap[k]? = w.heap[k]?)
 (hsize:w'.heap.size=w.heap.size) (h2:w'.os=w.os) (h3:w'.tape=w.tape) (h4:w'.output=w.output):Goes GL E w [(r,o')] (nS E r o' w'.heap) w':=by
 have hself:=hs.ob r o hr;have hXb:E.X b:=by
  cases o with
  | dead=>cases hmu
  | mp kk ks vs=>obtain ⟨b',es,cl,g1,g2,g3,g4⟩:=hself;rw [hmr] at g1;cases g1;exact g4
  | mix cs=>obtain ⟨b',cur0,t0,g1,g2,g3,g4⟩:=hself;rw [hmr] at g1;cases g1;exact g4
  | data e s cs wr =>
    rcases hself with ⟨g1,_⟩ | ⟨b',cur0,g1,g2,g3,g4,_⟩
    ·rw [hmr] at g1;cases g1
    ·rw [hmr] at g1;cases g1;have:wr=true:=hmu;subst this;simpa using g4
 have hz:z=cur.size:=by
  cases o with
  | dead=>cases hmu
  | mp kk ks vs=>obtain ⟨b',es,cl,g1,g2,g3,g4⟩:=hself;rw [hmr] at g1;cases g1;rw [hb] at g2;cases g2
  | mix cs=>obtain ⟨b',cur0,t0,g1,g2,g3,g4⟩:=hself;rw [hmr] at g1;cases g1;rw [hb] at g2;cases g2;rfl
  | data e s cs wr =>
    rcases hself with ⟨g1,_⟩ | ⟨b',cur0,g1,g2,g3,g4,_⟩
    ·rw [hmr] at g1;cases g1
    ·rw [hmr] at g1;cases g1;rw [hb] at g2;cases g2;rfl
 have hothE:∀k,k≠b->(nS E r o' w'.heap).h[k]? = E.h[k]? := fun k hk=>by rw [<-hw];exact hoth k hk
 have hhp:∀q,q≠r->(nS E r o' w'.heap).hp q=E.hp q:=fun q hq=>by simp only [nS,dH,eF];rw [if_neg (fun e=>hq e.symm)]
 have hhr:(nS E r o' w'.heap).hp r=some o':=by simp [nS,dH,eF]
 have hnd:o' ≠ .dead:=fun e=>by rw [e] at ho;exact ho
 have hex:Ext E (nS E r o' w'.heap):=by
  refine ⟨fun k ofs u hx hc=>⟨hx,?_⟩,fun q ob he => ?_⟩
  ·have:k≠b:=fun e=>hx (by rw [e];exact hXb);rw [qx (hothE k this)];exact hc
  ·by_cases hq:q=r
   ·subst hq;rw [hr] at he;cases he;exact ⟨o',hhr,hl,.inr rfl⟩
   ·exact ⟨ob,(hhp q hq).trans he,ob.like_refl,.inr rfl⟩
 have hmu':o'.mutB=true:=by
  cases o' with
  | dead=>exact ho.elim
  | mp kk ks vs=>exact ho.elim
  | mix cs=>rfl
  | data e s cs wr=>exact ho.1
 have hmm:∀q ob,(nS E r o' w'.heap).hp q=some ob->(q=r/\ob=o')\/(q≠r/\E.hp q=some ob):=fun q ob he=>by
  by_cases hq:q=r
  ·subst hq;rw [hhr] at he;cases he;exact .inl ⟨rfl,rfl⟩
  ·exact .inr ⟨hq,(hhp q hq).symm.trans he⟩
 have hbne:∀q ob b' z',q≠r->E.hp q=some ob->ob ≠ .dead->E.m q=some (b',z')->b'≠b:=fun q ob b' z' hq he hd hb2 e=>by
  subst e;by_cases hm2:ob.mutB=true
  ·exact hq (hs.inj q r ob o b' z' z he hr hm2 hmu hb2 hmr)
  ·have:=hs.ob q ob he;cases ob with
   | dead=>exact hd rfl
   | mp kk ks vs=>exact hm2 rfl
   | mix cs=>exact hm2 rfl
   | data e s cs wr =>
     cases wr with
     | true=>exact hm2 rfl
     | false =>
       rcases this with ⟨g1,_⟩ | ⟨b1,cur1,g1,g2,g3,g4,_⟩
       ·rw [hb2] at g1;cases g1
       ·rw [hb2] at g1;cases g1;simp only [Bool.false_eq_true,if_false] at g4;exact g4 hXb
 refine ⟨rfl,rfl,hex,⟨fun q ob he => ?_,fun q q' ob ob' b1 z1 z2 e1 e2 e3 e4 e5 e6 => ?_,fun g cells hg => ?_⟩,⟨h2,h3,h4,by omega,fun k hk hm => ?_,fun k ⟨q,ob,z1,e1,e2,e3⟩ => ?_,fun k hk => .inl hk,fun k _ hx _=>hx⟩⟩
 ·rcases hmm q ob he with ⟨rfl,rfl⟩ | ⟨hq,he'⟩
  ·cases ob with
   | dead=>exact trivial
   | mp kk ks vs=>exact ho.elim
   | mix cs=>exact ⟨b,cur',t,by rw [show (nS E q (.mix cs) w'.heap).m q=E.m q from rfl,hmr,hz,hsz],hb',aG.ext hex _ _ ho,hXb⟩
   | data e s cs wr =>
     obtain ⟨rfl,ho2⟩:=ho;cases o with
     | dead=>cases hmu
     | mp kk ks vs=>exact hl.elim
     | mix cs=>exact hl.elim
     | data e0 s0 cs0 wr0 =>
       obtain ⟨rfl,rfl⟩:=hl;rcases hself with ⟨g1,_⟩ | ⟨b',cur0,g1,g2,g3,g4,g5,g6⟩
       ·rw [hmr] at g1;cases g1
       ·rw [hmr] at g1;cases g1;rw [hb] at g2;cases g2;refine .inr ⟨b,cur',by rw [hsz];exact hmr,hb',EC hex.sub cs 0 fun i x hx => ?_,by simp only [if_true];exact hXb,by rw [hsz];exact g5,g6⟩;obtain ⟨u,k1,k2⟩:=ho2 i x hx;exact ⟨u,by rw [Nat.zero_add];exact (jk hb' i).trans k1,k2⟩
  ·by_cases hd:ob = .dead
   ·subst hd;exact trivial
   ·exact qY.ext hex (hs.ob q ob he') (.inr rfl) (fun b' z' hb2=>hothE b' (hbne q ob b' z' hq he' hd hb2)) (fun b' z' hb2=>Iff.rfl)
 ·rcases hmm q ob e1 with ⟨rfl,rfl⟩ | ⟨hq,e1'⟩
  ·rcases hmm q' ob' e2 with ⟨rfl,rfl⟩ | ⟨hq',e2'⟩
   ·rfl
   ·exact hs.inj q q' o ob' b1 z1 z2 hr e2' hmu e4 e5 e6
  ·rcases hmm q' ob' e2 with ⟨rfl,rfl⟩ | ⟨hq',e2'⟩
   ·exact hs.inj q q' ob o b1 z1 z2 e1' hr e3 hmu e5 e6
   ·exact hs.inj q q' ob ob' b1 z1 z2 e1' e2' e3 e4 e5 e6
 ·rcases hs.gl g cells hg with g0 | ⟨g1,g2⟩
  ·exact .inl g0
  ·exact jQ hex.sub cells g 0 g1 g2
 ·exact hoth k (fun e=>hm (by subst e;exact ⟨r,o,z,hr,hmu,hmr⟩))
 ·rcases hmm q ob e1 with ⟨rfl,rfl⟩ | ⟨hq,e1'⟩
  ·exact .inl ⟨q,o,z1,hr,hmu,e3⟩
  ·exact .inl ⟨q,ob,z1,e1',e2,e3⟩
theorem UC {GL:Nat->Option (List DV)} {E:En} {w w':World} (hw:w.heap=E.h) (hs:eX GL E) {r b:Nat} {kk kk':IntKind} {ks ks':List Int} {vs vs':List AV} (hr:E.hp r=some (.mp kk ks vs)) (hmr:E.m r=some (b,0)) (hXb:E.X b)
 {es':Array MapEntry} {cl':Nat} (ho:Dk E kk' ks' vs' es') (hb':w'.heap[b]? = some (.map es' cl')) (hoth:∀k,k≠b->w'.heap[k]? = w.heap[k]?)
 (hsize:w'.heap.size=w.heap.size) (h2:w'.os=w.os) (h3:w'.tape=w.tape) (h4:w'.output=w.output):Goes GL E w [(r,.mp kk' ks' vs')] (nS E r (.mp kk' ks' vs') w'.heap) w':=by
 have hothE:∀k,k≠b->(nS E r (.mp kk' ks' vs') w'.heap).h[k]? = E.h[k]? := fun k hk=>by rw [<-hw];exact hoth k hk
 have hhp:∀q,q≠r->(nS E r (.mp kk' ks' vs') w'.heap).hp q=E.hp q:=fun q hq=>by simp only [nS,dH,eF];rw [if_neg (fun e=>hq e.symm)]
 have hhr:(nS E r (.mp kk' ks' vs') w'.heap).hp r=some (.mp kk' ks' vs'):=by simp [nS,dH,eF]
 have hex:Ext E (nS E r (.mp kk' ks' vs') w'.heap):=by
  refine ⟨fun k ofs u hx hc=>⟨hx,?_⟩,fun q ob he => ?_⟩
  ·have:k≠b:=fun e=>hx (by rw [e];exact hXb);rw [qx (hothE k this)];exact hc
  ·by_cases hq:q=r
   ·subst hq;rw [hr] at he;cases he;exact ⟨.mp kk' ks' vs',hhr,trivial,.inr rfl⟩
   ·exact ⟨ob,(hhp q hq).trans he,ob.like_refl,.inr rfl⟩
 have hmm:∀q ob,(nS E r (.mp kk' ks' vs') w'.heap).hp q=some ob->(q=r/\ob = .mp kk' ks' vs')\/(q≠r/\E.hp q=some ob):=fun q ob he=>by
  by_cases hq:q=r
  ·subst hq;rw [hhr] at he;cases he;exact .inl ⟨rfl,rfl⟩
  ·exact .inr ⟨hq,(hhp q hq).symm.trans he⟩
 have hbne:∀q ob b' z',q≠r->E.hp q=some ob->ob ≠ .dead->E.m q=some (b',z')->b'≠b:=fun q ob b' z' hq he hd hb2 e=>by
  subst e;by_cases hm2:ob.mutB=true
  ·exact hq (hs.inj q r ob _ b' z' 0 he hr hm2 rfl hb2 hmr)
  ·have:=hs.ob q ob he;cases ob with
   | dead=>exact hd rfl
   | mp kk ks vs=>exact hm2 rfl
   | mix cs=>exact hm2 rfl
   | data e s cs wr =>
     cases wr with
     | true=>exact hm2 rfl
     | false =>
       rcases this with ⟨g1,_⟩ | ⟨b1,cur1,g1,g2,g3,g4,_⟩
       ·rw [hb2] at g1;cases g1
       ·rw [hb2] at g1;cases g1;simp only [Bool.false_eq_true,if_false] at g4;exact g4 hXb
 refine ⟨rfl,rfl,hex,⟨fun q ob he => ?_,fun q q' ob ob' b1 z1 z2 e1 e2 e3 e4 e5 e6 => ?_,fun g cells hg => ?_⟩,⟨h2,h3,h4,by omega,fun k hk hm => ?_,fun k ⟨q,ob,z1,e1,e2,e3⟩ => ?_,fun k hk => .inl hk,fun k _ hx _=>hx⟩⟩
 ·rcases hmm q ob he with ⟨rfl,rfl⟩ | ⟨hq,he'⟩
  ·exact ⟨b,es',cl',hmr,hb',ho.ext hex,hXb⟩
  ·by_cases hd:ob = .dead
   ·subst hd;exact trivial
   ·exact qY.ext hex (hs.ob q ob he') (.inr rfl) (fun b' z' hb2=>hothE b' (hbne q ob b' z' hq he' hd hb2)) (fun b' z' hb2=>Iff.rfl)
 ·rcases hmm q ob e1 with ⟨rfl,rfl⟩ | ⟨hq,e1'⟩
  ·rcases hmm q' ob' e2 with ⟨rfl,rfl⟩ | ⟨hq',e2'⟩
   ·rfl
   ·exact hs.inj q q' _ ob' b1 z1 z2 hr e2' rfl e4 e5 e6
  ·rcases hmm q' ob' e2 with ⟨rfl,rfl⟩ | ⟨hq',e2'⟩
   ·exact hs.inj q q' ob _ b1 z1 z2 e1' hr e3 rfl e5 e6
   ·exact hs.inj q q' ob ob' b1 z1 z2 e1' e2' e3 e4 e5 e6
 ·rcases hs.gl g cells hg with g0 | ⟨g1,g2⟩
  ·exact .inl g0
  ·exact jQ hex.sub cells g 0 g1 g2
 ·exact hoth k (fun e=>hm (by subst e;exact ⟨r,_,0,hr,rfl,hmr⟩))
 ·rcases hmm q ob e1 with ⟨rfl,rfl⟩ | ⟨hq,e1'⟩
  ·exact .inl ⟨q,_,z1,hr,rfl,e3⟩
  ·exact .inl ⟨q,ob,z1,e1',e2,e3⟩
def EZ (E:En) (r:Nat):En:={E with hp:=dH E.hp [(r,.dead)]}
theorem UD {GL:Nat->Option (List DV)} {E:En} {w:World} (hw:w.heap=E.h) (hs:eX GL E) {r:Nat} {o:AO} (hr:E.hp r=some o):Goes GL E w [(r,.dead)] (EZ E r) w:=by
 have hhp:∀q,q≠r->(EZ E r).hp q=E.hp q:=fun q hq=>by simp only [EZ,dH,eF];rw [if_neg (fun e=>hq e.symm)]
 have hhr:(EZ E r).hp r=some .dead:=by simp [EZ,dH,eF]
 have hex:Ext E (EZ E r):=by
  refine ⟨Sub.refl _ _,fun q ob he => ?_⟩;by_cases hq:q=r
  ·subst hq;exact ⟨.dead,hhr,by cases ob<;>exact trivial,.inl rfl⟩
  ·exact ⟨ob,(hhp q hq).trans he,ob.like_refl,.inr rfl⟩
 have hmm:∀q ob,(EZ E r).hp q=some ob->ob ≠ .dead->q≠r/\E.hp q=some ob:=fun q ob he hd=>by
  by_cases hq:q=r
  ·subst hq;rw [hhr] at he;cases he;exact (hd rfl).elim
  ·exact ⟨hq,(hhp q hq).symm.trans he⟩
 have nd:∀ob:AO,ob.mutB=true->ob ≠ .dead:=fun ob h e=>by rw [e] at h;cases h
 refine ⟨hw,rfl,hex,⟨fun q ob he => ?_,fun q q' ob ob' b1 z1 z2 e1 e2 e3 e4 e5 e6 => ?_,fun g cells hg=>hs.gl g cells hg⟩,⟨rfl,rfl,rfl,Nat.le_refl _,fun _ _ _=>rfl,fun k ⟨q,ob,z1,e1,e2,e3⟩ => ?_,fun k hk => .inl hk,fun k _ hx _=>hx⟩⟩
 ·by_cases hd:ob = .dead
  ·subst hd;exact trivial
  ·obtain ⟨hq,he'⟩:=hmm q ob he hd;exact qY.ext hex (hs.ob q ob he') (.inr rfl) (fun _ _ _=>rfl) (fun _ _ _=>Iff.rfl)
 ·exact hs.inj q q' ob ob' b1 z1 z2 (hmm q ob e1 (nd _ e3)).2 (hmm q' ob' e2 (nd _ e4)).2 e3 e4 e5 e6
 ·exact .inl ⟨q,ob,z1,(hmm q ob e1 (nd _ e2)).2,e2,e3⟩
def kZ (E:En) (r slot:Nat) (o:AO):En:={E with m:=fun q=>if q=slot then E.m r else E.m q,hp:=dH E.hp [(slot,o),(r,.dead)]}
theorem Ip {GL:Nat->Option (List DV)} {E:En} {w:World} (hw:w.heap=E.h) (hs:eX GL E) {r slot:Nat} {o:AO} (hr:E.hp r=some o) (hn:E.hp slot=none):Goes GL E w [(slot,o),(r,.dead)] (kZ E r slot o) w:=by
 have hne:r≠slot:=fun e=>by rw [e,hn] at hr;cases hr
 have h1:(kZ E r slot o).hp slot=some o:=by simp [kZ,dH,look]
 have h2:(kZ E r slot o).hp r=some .dead:=by simp [kZ,dH,look,Ne.symm hne]
 have h3:∀q,q≠r->q≠slot->(kZ E r slot o).hp q=E.hp q:=fun q a b=>by simp [kZ,dH,look,Ne.symm a,Ne.symm b]
 have m1:(kZ E r slot o).m slot=E.m r:=by simp [kZ]
 have m2:∀q,q≠slot->(kZ E r slot o).m q=E.m q:=fun q a=>by simp [kZ,a]
 have hex:Ext E (kZ E r slot o):=by
  refine ⟨Sub.refl _ _,fun q ob he => ?_⟩;have hqs:q≠slot:=fun e=>by rw [e,hn] at he;cases he
  by_cases hq:q=r
  ·subst hq;exact ⟨.dead,h2,by cases ob<;>exact trivial,.inl rfl⟩
  ·exact ⟨ob,(h3 q hq hqs).trans he,ob.like_refl,.inr (m2 q hqs)⟩
 have hmm:∀q ob,(kZ E r slot o).hp q=some ob->ob ≠ .dead->∃p,E.hp p=some ob/\(kZ E r slot o).m q=E.m p/\(q=slot/\p=r\/q≠slot/\p=q/\p≠r):=fun q ob he hd=>by
  by_cases hq:q=slot
  ·subst hq;rw [h1] at he;cases he;exact ⟨r,hr,m1,.inl ⟨rfl,rfl⟩⟩
  ·by_cases hqr:q=r
   ·subst hqr;rw [h2] at he;cases he;exact (hd rfl).elim
   ·exact ⟨q,(h3 q hqr hq).symm.trans he,m2 q hq,.inr ⟨hq,rfl,hqr⟩⟩
 have nd:∀ob:AO,ob.mutB=true->ob ≠ .dead:=fun ob h e=>by rw [e] at h;cases h
 refine ⟨hw,rfl,hex,⟨fun q ob he => ?_,fun q q' ob ob' b1 z1 z2 e1 e2 e3 e4 e5 e6 => ?_,fun g cells hg=>hs.gl g cells hg⟩,⟨rfl,rfl,rfl,Nat.le_refl _,fun _ _ _=>rfl,fun k ⟨q,ob,z1,e1,e2,e3⟩ => ?_,fun k hk => .inl hk,fun k _ hx _=>hx⟩⟩
 ·by_cases hd:ob = .dead
  ·subst hd;exact trivial
  ·obtain ⟨p,g1,g2,g3⟩:=hmm q ob he hd;have:=hs.ob p ob g1;cases ob with
   | dead=>exact trivial
   | mix cs=>obtain ⟨b,cur,t,k1,k2,k3,k4⟩:=this;exact ⟨b,cur,t,g2.trans k1,k2,aG.ext hex _ _ k3,k4⟩
   | mp kk ks vs=>obtain ⟨b,es,cl,k1,k2,k3,k4⟩:=this;exact ⟨b,es,cl,g2.trans k1,k2,k3.ext hex,k4⟩
   | data e s cs wr =>
     rcases this with ⟨k1,k2⟩ | ⟨b,cur,k1,k2⟩
     ·exact .inl ⟨g2.trans k1,k2⟩
     ·exact .inr ⟨b,cur,g2.trans k1,k2⟩
 ·obtain ⟨p,g1,g2,g3⟩:=hmm q ob e1 (nd _ e3);obtain ⟨p',g1',g2',g3'⟩:=hmm q' ob' e2 (nd _ e4);rw [g2] at e5;rw [g2'] at e6;have:=hs.inj p p' ob ob' b1 z1 z2 g1 g1' e3 e4 e5 e6;subst this;rcases g3 with ⟨rfl,rfl⟩ | ⟨a,rfl,c⟩
  ·rcases g3' with ⟨rfl,_⟩ | ⟨_,rfl,c'⟩
   ·rfl
   ·exact (c' rfl).elim
  ·rcases g3' with ⟨rfl,rfl⟩ | ⟨_,e,_⟩
   ·exact (c rfl).elim
   ·exact e
 ·obtain ⟨p,g1,g2,g3⟩:=hmm q ob e1 (nd _ e2);exact .inl ⟨p,ob,z1,g1,e2,g2.symm.trans e3⟩
theorem Iq {E:En} {b o:Nat} {cs:List DV} (hc:eu E.h E.X cs b o):∀(n off:Nat) (l:List AV),takeD cs off n=some l->∃us:List Value,us.length=n/\(∀j v,us[j]? = some v->je E.h b (o+off+j)=some v)/\aG E l us
 | 0,off,l,h=>by
   simp only [takeD,Option.some.injEq] at h;subst h;exact ⟨[],rfl,fun j v hv=>by simp at hv,by rw [aG]⟩
 | n+1,off,l,h=>by
   simp only [takeD] at h;split at h
   ·rename_i x l' h1 h2;simp only [Option.some.injEq] at h;subst h;obtain ⟨us,g1,g2,g3⟩:=Iq hc n (off+1) l' h2;obtain ⟨u,k1,k2⟩:=oN cs b o off x hc h1;refine ⟨u::us,by simp [g1],fun j v hv => ?_,by rw [aG];exact ⟨u,us,rfl,by rw [Rel];exact k2,g3⟩⟩;cases j with
    | zero=>simp at hv;subst hv;exact k1
    | succ j =>
      have:=g2 j v (by simpa using hv);rw [show o+off+(j+1)=o+(off+1)+j from by omega];exact this
   ·cases h
section
variable {P:Program} {E:En} {w:World}
theorem Dy {t:Nat} {i:TI} (ht:aO P t=some i) (ha:i.k.isAgg=true) {b o:Nat} {us:List Value} (hl:us.length=i.size) (hc:∀j v,us[j]? = some v->je w.heap b (o+j)=some v) :
 (Instr.loadAt t (.pointer (some ⟨b,o,none⟩))).run P w = .ok (.agg us.toArray) w:=by
 have h1:=run_loadCells_list (P:=P) w ⟨b,o,none⟩ us (fun j v hv=>by rw [addr_add,ou];exact hc j v hv);rw [hl] at h1;simp only [Instr.loadAt,Instr.sureAddr,Sem.run_bind,Sem.run_pure,Result.andThen_ok,loadVar,sV ht,ha,if_true,run_sizeOf ht,h1]
theorem Dz {t:Nat} {i:TI} (ht:aO P t=some i) (ha:i.k.isAgg=false) {b o:Nat} {u:Value} (hc:je w.heap b o=some u) :
 (Instr.loadAt t (.pointer (some ⟨b,o,none⟩))).run P w = .ok u w:=by
 have h1:(load ⟨b,o,none⟩).run P w = .ok u w:=by simp [go_sem,ou,hc]
 simp only [Instr.loadAt,Instr.sureAddr,Sem.run_bind,Sem.run_pure,Result.andThen_ok,loadVar,sV ht,ha,Bool.false_eq_true,if_false,h1]
theorem BD (hw:w.heap=E.h) {t:Nat} {i:TI} (ht:aO P t=some i) {b o:Nat} {cs:List DV} (hc:eu E.h E.X cs b o) {off:Nat} {v:AV} (h:wz i cs off=some v) :
 ∃u,(Instr.loadAt t (.pointer (some ⟨b,o+off,none⟩))).run P w = .ok u w/\Rel E v u:=by
 unfold wz at h;split at h
 ·rename_i ha;simp only [Option.map_eq_some_iff] at h;obtain ⟨l,hl,rfl⟩:=h;obtain ⟨us,g1,g2,g3⟩:=Iq hc _ _ _ hl;exact ⟨_,Dy ht ha g1 (by rw [hw];exact g2),by rw [Rel];exact ⟨_,rfl,g3⟩⟩
 ·rename_i ha;simp only [Option.map_eq_some_iff] at h;obtain ⟨x,hx,rfl⟩:=h;obtain ⟨u,k1,k2⟩:=oN cs b o off x hc hx;exact ⟨u,Dz ht (by simpa using ha) (by rw [hw];exact k1),by rw [Rel];exact k2⟩
theorem Ir (hw:w.heap=E.h) {t:Nat} {i:TI} (ht:aO P t=some i) {b:Nat} {cur:Array Value} {t0:TypeId} (hb:E.h[b]? = some (.cells cur t0)) {cs:List AV} (hc:aG E cs cur.toList) {off:Nat} {v:AV} (h:fQ i cs off=some v) :
 ∃u,(Instr.loadAt t (.pointer (some ⟨b,off,none⟩))).run P w = .ok u w/\Rel E v u:=by
 have hlen:=fH _ _ hc;unfold fQ at h;split at h
 ·rename_i ha;split at h
  ·rename_i hl;simp only [Option.some.injEq] at h;subst h;have g3:=yc i.size _ _ (sW off _ _ hc);refine ⟨_,Dy (us:=(cur.toList.drop off).take i.size) ht ha (by rw [List.length_take,List.length_drop];omega) (fun j u hu => ?_),by rw [Rel];exact ⟨_,rfl,g3⟩⟩;rw [hw,jk hb];rw [List.getElem?_take] at hu;split at hu
   ·rw [List.getElem?_drop] at hu;simpa using hu
   ·cases hu
  ·cases h
 ·rename_i ha;obtain ⟨u,hu,hr⟩:=qp _ _ _ _ hc h;refine ⟨u,Dz ht (by simpa using ha) ?_,hr⟩;rw [hw,jk hb];simpa using hu
end
section
variable {P:Program} {GL:Nat->Option (List DV)} {E:En} {rd:Nat->Option AO} {slot:Nat} {ρ:Operand->AV} {ev:Operand->Value} {w:World}
theorem OH {o:Oper} {s:Sem Value} (he:execOp ev o=(do pure (Next.value (<-s)))) {u:Value} {w':World} (h:s.run P w = .ok u w'):(execOp ev o).run P w = .ok (.value u) w':=by
 rw [he];simp only [Sem.run_bind,h,Result.andThen_ok,Sem.run_pure]
def Ends (P:Program) (GL:Nat->Option (List DV)) (E:En) (w:World) (s:Sem Next) (v:AV) (us:List (Nat×AO)):Prop :=
 ∃n w' E' u,s.run P w = .ok n w'/\(n = .value u\/(n = .skip/\u=undef))/\Goes GL E w us E' w'/\Rel E' v u
theorem E5 (o:Obj):(newObj o).run P w = .ok w.heap.size {w with heap:=w.heap.push o}:=rfl
theorem uG (t:TypeId) (cs:Array Value):(newRow t cs).run P w = .ok ⟨w.heap.size,0,none⟩ {w with heap:=w.heap.push (.cells cs t)}:=by
 simp only [newRow,Sem.run_bind,E5,Result.andThen_ok,Sem.run_pure]
theorem aa4 (hw:w.heap=E.h) {cs:List AV} {cur:Array Value} {t:TypeId}:Rel (newE E slot (.mix cs) cur t) (.ptr slot 0) (.pointer (some ⟨w.heap.size,0,none⟩)):=by
 rw [Rel];simp only [newE,dH,eF,if_true];exact ⟨_,_,rfl,by rw [hw]⟩
theorem LW (hw:w.heap=E.h) (hs:eX GL E) (hn:E.hp slot=none) {cs:List AV} {cur:Array Value} (hc:aG E cs cur.toList) {t:TypeId} {s:Sem Next} (he:s.run P w = .ok (.value (.pointer (some ⟨w.heap.size,0,none⟩))) {w with heap:=w.heap.push (.cells cur t)}) :
 Ends P GL E w s (.ptr slot 0) [(slot,.mix cs)] :=
 ⟨_,_,_,_,he,.inl rfl,wF hw hs hn (o := .mix cs) hc rfl rfl rfl rfl,aa4 hw⟩
theorem JB (hw:w.heap=E.h) {e s:Nat} {cs:List DV} {wr:Bool} {cur:Array Value} {t:TypeId} {n c:Nat} {cap:Option Nat} (h1:n<=c) (h2:c<=maxLen) (h3:c*s=cur.size) (h4:∀k,cap=some k->c=k) :
 Rel (newE E slot (.data e s cs wr) cur t) (.sl slot 0 n cap) (.slice (some ⟨w.heap.size,0,none⟩) n c):=by
 rw [Rel];simp only [newE,dH,eF,if_true];refine .inr ⟨_,_,c,rfl,by rw [hw],h1,h2,by omega,?_⟩;cases cap with
 | none=>simpa using h3
 | some k=>exact h4 k rfl
theorem l9 {h:Array Obj} {X:Nat->Prop}:∀(xs:List DV) (vs:List Value) (i:Nat) (x:DV),dV h X xs vs->xs[i]? = some x->∃u,vs[i]? = some u/\bZ h X x u
 | [],vs,i,x,hr,hx=>by simp at hx
 | y::xs,vs,i,x,hr,hx=>by
   obtain ⟨v,vs',rfl,h1,h2⟩:=hr;cases i with
   | zero=>simp at hx;subst hx;exact ⟨v,rfl,h1⟩
   | succ i=>exact l9 xs vs' i x h2 (by simpa using hx)
theorem dW {h:Array Obj} {X:Nat->Prop}:∀(xs:List DV) (vs:List Value),dV h X xs vs->vs.length=xs.length
 | [],vs,hr=>by rw [show vs=[] from hr];rfl
 | y::xs,vs,hr=>by
   obtain ⟨v,vs',rfl,h1,h2⟩:=hr;simp [dW xs vs' h2]
theorem qy (hrd:∀r o,rd r=some o->E.hp r=some o):jV E (kinds rd):=fun r k hk=>by
 unfold kinds at hk;simp only [Option.map_eq_some_iff] at hk;obtain ⟨o,h1,h2⟩:=hk;exact ⟨o,hrd r o h1,h2⟩
theorem rE (z:List Value):∀n,nO n (z.map .val)=(List.replicate n z).flatten.map .val
 | 0=>rfl
 | n+1=>by rw [nO,rE z n,List.replicate_succ,List.flatten_cons,List.map_append]
theorem BF (z:Array Value) (s:Nat) (hs:z.size=s) (hp:0<s):∀n,((Array.range (n*s)).map fun i=>z[i % z.size]!).toList=(List.replicate n z.toList).flatten:=by
 intro n;rw [Array.toList_map,Array.toList_range]
 induction n with
 | zero=>simp
 | succ n ih =>
   rw [List.replicate_succ',List.flatten_append,<-ih,Nat.add_mul,Nat.one_mul,List.range_add,List.map_append,List.map_map];congr 1;apply List.ext_getElem?;intro j;simp only [List.flatten_cons,List.flatten_nil,List.append_nil,List.getElem?_map,Array.getElem?_toList];by_cases hj:j<s
   ·rw [List.getElem?_range hj];simp only [Option.map_some,Function.comp,hs,Nat.mul_add_mod_of_lt,Nat.mul_comm n s,Nat.mul_add_mod,Nat.mod_eq_of_lt hj];rw [Array.getElem?_eq_getElem (by omega),getElem!_pos z j (by omega)]
   ·rw [List.getElem?_eq_none (by simp;omega),Array.getElem?_eq_none (by omega)];rfl
theorem OJ (hw:w.heap=E.h) (hs:eX GL E) (hn:E.hp slot=none) {t:Nat} {i:TI} (ht:aO P t=some i) {o:Oper} (ho:o.op = .alloc t):Ends P GL E w (execOp ev o) (.ptr slot 0) [(slot,.mix (i.zero.map .d))]:=by
 obtain ⟨z,h1,h2,h3,h4⟩:=LD (w:=w) ht;refine LW hw hs hn (cur:=z.cells) (t:=t) (by rw [h2];exact nP _ h3) ?_;obtain ⟨dst,op,type,pos,after,guard⟩:=o;simp only at ho;subst ho;simp only [execOp,Instr.alloc,Sem.run_bind,h1,Result.andThen_ok,newVar,uG,Sem.run_pure]
theorem uH {rd:Nat->Option AO}:∀ {xs:List AV} {ys:List DV} {us:List (Nat×AO)},fG rd xs=some (ys,us)->ys.length=xs.length
 | [],ys,us,h=>by simp only [fG,Option.some.injEq,Prod.mk.injEq] at h;rw [<-h.1];rfl
 | x::xs,ys,us,h=>by
   simp only [fG] at h;split at h
   ·rename_i y u ys' us' h1 h2;simp only [Option.some.injEq,Prod.mk.injEq] at h;rw [<-h.1];simp [uH h2]
   ·cases h
theorem zX {pa:Nat->Option (Nat×Nat)}:∀ {parts:List (Nat×AV)} {cs cs':List AV},l7 pa cs parts=some cs'->cs'.length=cs.length
 | [],cs,cs',h=>by simp only [l7,Option.some.injEq] at h;rw [h]
 | (i,v)::parts,cs,cs',h=>by
   simp only [l7] at h;split at h
   ·cases h
   ·split at h
    ·rename_i hc;rw [zX h,oD _ _ _ (by omega)]
    ·cases h
theorem UE {hp:Nat->Option AO} {us:List (Nat×AO)} {r:Nat} (h:hp r=none) (hf:Dx hp us):dH hp us r=none:=by
 unfold dH;cases hl:look r us with
 | none=>exact h
 | some o =>
   obtain ⟨e,s,cs,wr,h1,_⟩:=hf r o (aU hl);rw [h] at h1;cases h1
theorem OL (hw:w.heap=E.h) (hs:eX GL E) (hn:E.hp slot=none) (hrd:∀r o,rd r=some o->E.hp r=some o) (hρ:∀x,Rel E (ρ x) (ev x)) {t e n:Nat} {i ei:TI} (ht:aO P t=some i) (hk:i.k = .slice e) (hei:aO P e=some ei)
 (h1:n*ei.size<=1000) (h2:0<ei.size) (parts:Array (Nat×Operand)) (hv:∀p∈parts.toList,sS (kinds rd) (ρ p.2)=true) {cells:List AV} (hf:l7 (fun j=>some (j*ei.size,ei.size)) ((nO n ei.zero).map .d) (parts.toList.map fun p=>(p.1,ρ p.2))=some cells)
 {cs:List DV} {us:List (Nat×AO)} (ha:fG rd cells=some (cs,us)) {o:Oper} (ho:o.op = .buildSlice t n parts):Ends P GL E w (execOp ev o) (.sl slot 0 n (bsC t n)) ((slot,.data e ei.size cs true)::us):=by
 obtain ⟨d,hd,hkd⟩:=aP ht;rw [hk] at hkd;cases d<;>simp only [fF] at hkd<;>try (cases hkd;done)
 simp only [AT.slice.injEq] at hkd;subst hkd;obtain ⟨z,z1,z2,z3,z4⟩:=LD (w:=w) hei;have hzs:z.cells.size=ei.size:=by rw [<-Array.length_toList];exact z4
 have hzr:=BF z.cells ei.size hzs h2 n;have hk':=qy hrd;obtain ⟨cells',g1,g2⟩:=zN hk' parts.toList ρ ev _ cells ((Array.range (n*ei.size)).map fun i=>z.cells[i % z.cells.size]!) hρ hv (by rw [hzr,z2,rE];exact nP _ (fun u hu=>by
  simp only [List.mem_flatten,List.mem_replicate] at hu;obtain ⟨l,⟨_,rfl⟩,hu⟩:=hu;exact z3 u hu)) hf
 have hFz:=Bv hrd ha;have hgz:=zW hw hs hFz;have hds:=BA hrd hs hFz ha (fun p hp=>hp) g2;have hcl:cells'.size=n*ei.size:=by
  rw [<-Array.length_toList,fH _ _ g2,zX hf,List.length_map,z2,rE,List.length_map,List.length_flatten];simp [List.sum_replicate_nat,hzs]
 have hnew:=wF (slot:=slot) (o := .data e ei.size cs true) (cur:=cells') (t:=e) (w':={w with heap:=w.heap.push (.cells cells' e)}) hgz.h hgz.sim (UE hn hFz)
  ⟨rfl,rfl,fun j x hx=>by
    obtain ⟨u,k1,k2⟩:=l9 _ _ j x hds hx;exact ⟨u,by simpa using k1,k2⟩,⟨n,hcl,by
     have:=Nat.le_mul_of_pos_right n h2;simp only [maxLen];omega⟩,h2⟩ rfl rfl rfl rfl
 have hall:=hgz.trans hnew;refine ⟨.value (.slice (some ⟨w.heap.size,0,none⟩) n n),_,_,_,?_,.inl rfl,hall,?_⟩
 ·obtain ⟨dst,op,type,pos,after,guard⟩:=o;simp only at ho;subst ho;have hg2:¬(n*ei.size > 2 ^ 24):=by omega
  simp only [execOp,Instr.buildSlice,Sem.run_bind,run_underlying hd,Result.andThen_ok,run_sizeOf hei];rw [if_neg hg2];by_cases hz0:n*ei.size=0
  ·rw [if_pos hz0];have hc0:cells'.size=0:=by omega
   have e0:(Array.map (fun i=>z.cells[i % z.cells.size]!) (Array.range (n*ei.size))) = #[]:=by rw [hz0];simp
   rw [e0] at g1;simp only [Sem.run_pure,Result.andThen_ok,Sem.run_bind];have e1:(Array.map (fun i=>(#[]:Array Value)[i % (#[]:Array Value).size]!) (Array.range (n*ei.size))) = #[]:=by rw [hz0];simp
   rw [e1,Array.toList_map,g1];simp only [Sem.run_bind,uG,Result.andThen_ok,Sem.run_pure]
  ·rw [if_neg hz0];simp only [Sem.run_bind,z1,Sem.run_pure,Result.andThen_ok];rw [Array.toList_map,g1];simp only [Sem.run_bind,uG,Result.andThen_ok,Sem.run_pure]
 ·have:w.heap=(Ls E us).h:=hw;exact JB this (Nat.le_refl _) (by have:=Nat.le_mul_of_pos_right n h2;simp only [maxLen];omega) hcl.symm (fun k hk=>aeL hk)
theorem UF (hw:w.heap=E.h) (hs:eX GL E) (hn:E.hp slot=none) (hρ:∀x,Rel E (ρ x) (ev x)) {t e:Nat} {i ei:TI} (ht:aO P t=some i) (hk:i.k = .slice e) (hei:aO P e=some ei)
 {lo co:Operand} {k1 k2:IntKind} {n k:Int} (hl:ρ lo = .d (.val (.int k1 n))) (hc:ρ co = .d (.val (.int k2 k))) (h0:0<=n) (h1:n<=k) (h2:k*ei.bytes<=140737488355328) (h3:k<=(maxLen:Int)) (h4:0<ei.size)
 {o:Oper} (ho:o.op = .makeSlice t lo co) {cap:Option Nat} (hcap:∀j,cap=some j->k.toNat=j):Ends P GL E w (execOp ev o) (.sl slot 0 n.toNat cap) [(slot,.data e ei.size (nO k.toNat (ei.zero.map sU)) true)]:=by
 obtain ⟨d,hd,hkd⟩:=aP ht;rw [hk] at hkd;cases d<;>simp only [fF] at hkd<;>try (cases hkd;done)
 simp only [AT.slice.injEq] at hkd;subst hkd;obtain ⟨inf,de,z,q1,q2,q3,q4,q5,q6,q7,q8,q9⟩:=mV hei;have hzs:z.cells.size=ei.size:=by rw [<-Array.length_toList];exact q9
 have hzr:=BF z.cells ei.size hzs h4 k.toNat;obtain ⟨n,rfl⟩:=Int.eq_ofNat_of_zero_le h0;obtain ⟨k,rfl⟩:=Int.eq_ofNat_of_zero_le (Int.le_trans h0 h1);have hnk:n<=k:=by omega
 have hkm:k<=maxLen:=by omega
 have hb:k*ei.bytes<=140737488355328:=by
  have q:((k*ei.bytes:Nat):Int)<=140737488355328:=by rw [Int.natCast_mul];exact h2
  omega
 simp only [Int.toNat_natCast] at hzr hcap ⊢;have hm:k<=9223372036854775807:=by
  have e0:maxLen=9223372036854775807:=rfl;omega
 have w1:IntKind.i64.wrap (n:Int)=n:=IntWalk.i64_in _ ⟨by omega,by omega⟩;have w2:IntKind.i64.wrap (k:Int)=k:=IntWalk.i64_in _ ⟨by omega,by omega⟩
 let cur:Array Value:=(Array.range (k*ei.size)).map fun i=>z.cells[i % z.cells.size]!
 have hcs:cur.size=k*ei.size:=by simp [cur]
 have hnew:=wF (slot:=slot) (o := .data e ei.size (nO k (ei.zero.map sU)) true) (cur:=cur) (t:=e) (w':={w with heap:=w.heap.push (.cells cur e)}) hw hs hn
  ⟨rfl,rfl,fun j x hx=>by
    have hmap:∀(n:Nat) (l:List DV),nO n (l.map sU)=(nO n l).map sU:=fun n l=>by
     induction n with
     | zero=>rfl
     | succ n ih=>rw [nO,nO,List.map_append,ih]
    rw [hmap,q7,rE] at hx;rw [List.getElem?_map,Option.map_eq_some_iff] at hx;obtain ⟨x0,hx,rfl⟩:=hx;rw [List.getElem?_map,Option.map_eq_some_iff] at hx;obtain ⟨u,hu,rfl⟩:=hx;refine ⟨u,by rw [<-Array.getElem?_toList];show cur.toList[j]? = _;rw [show cur.toList=_ from hzr];exact hu,?_⟩;refine Bz (x := .val u) ?_;simp only [bZ,true_and];have:=List.mem_of_getElem? hu;simp only [List.mem_flatten,List.mem_replicate] at this;obtain ⟨l,⟨_,rfl⟩,hu⟩:=this;exact q8 u hu,⟨k,hcs,hkm⟩,h4⟩ rfl rfl rfl rfl
 refine ⟨.value (.slice (some ⟨w.heap.size,0,none⟩) n k),_,_,_,?_,.inl rfl,hnew,JB hw hnk hkm hcs.symm hcap⟩;obtain ⟨dst,op,type,pos,after,guard⟩:=o;simp only at ho;subst ho;have a1:=hρ lo;have a2:=hρ co;rw [hl] at a1;rw [hc] at a2;have a1:=aQ a1;have a2:=aQ a2;have hr:=run_make (P:=P) w t e inf z hd q1 q3 k1 k2 (n:Int) (k:Int) h0 h1 (by rw [q5,Int.mul_comm];omega) (by omega);simp only [Int.toNat_natCast,q4] at hr;exact OH (s:=Instr.makeSlice t (ev lo) (ev co)) rfl (by rw [a1,a2];exact hr)
theorem Iu {t:Nat} {i:TI} (ht:aO P t=some i) {b off:Nat} {cur:Array Value} {t0:TypeId} (hb:w.heap[b]? = some (.cells cur t0)) {u:Value} (h1:u.cells.size=i.size) (h2:off+i.size<=cur.size) (h3:∀v∈u.cells.toList,v.oneCell'=true) :
 (Instr.storeAt t (.pointer (some ⟨b,off,none⟩)) u).run P w = .ok () (w.setRow b (splice cur.toList off u.cells.toList).toArray):=by
 have hl:u.cells.toList.length=i.size:=by rw [Array.length_toList,h1]
 have hr:=run_storeCells_at P b off t0 u.cells.toList 0 cur w hb (by omega) h3;have hsp:∀(l:List Value) (o:Nat) (new:List Value),o+new.length<=l.length->splice l o new=l.take o++new++l.drop (o+new.length):=by
  intro l
  induction l with
  | nil=>intro o new h;cases o<;>simp at h ⊢ <;> (try subst h)<;>simp [splice]
  | cons x l ih =>
    intro o new h;cases o with
    | zero=>simp [splice]
    | succ o =>
      rw [splice,ih o new (by simp at h;omega)];simp [Nat.add_right_comm]
 rw [hsp _ _ _ (by have e0:cur.toList.length=cur.size:=Array.length_toList;omega)];simp only [Nat.add_zero] at hr;simp only [Instr.storeAt,Instr.sureAddr,Sem.run_bind,Sem.run_pure,Result.andThen_ok,storeVar,run_sizeOf ht,h1,ne_eq,not_true,if_false];exact hr
theorem OM (hs:eX GL E) {r:Nat} {cs:List AV} (hr:E.hp r=some (.mix cs)):∃b cur t,E.m r=some (b,cur.size)/\E.h[b]? = some (.cells cur t)/\aG E cs cur.toList:=by
 obtain ⟨b,cur,t,h1,h2,h3,_⟩:=hs.ob r _ hr;exact ⟨b,cur,t,h1,h2,h3⟩
theorem E8 (hk:jV E (kinds rd)):∀ {xs:List AV} {vs:List Value},aG E xs vs->xs.all (mQ rd)=true->∀v∈vs,v.oneCell'=true
 | [],vs,h,_,v,hv=>by rw [aG] at h;subst h;cases hv
 | x::xs,vs,h,ha,v,hv=>by
   rw [aG] at h;obtain ⟨u,vs',rfl,h1,h2⟩:=h;simp only [List.all_cons,Bool.and_eq_true] at ha;rcases List.mem_cons.1 hv with rfl | hv
   ·have hx:∀cs,x ≠ .agg cs:=fun cs e=>by rw [e] at ha;cases ha.1
    have:sS (kinds rd) x=true:=by
     have:=ha.1;cases x<;>first | exact this | (exact (hx _ rfl).elim)
    exact Rw hk this hx h1
   ·exact E8 hk h2 ha.2 v hv
theorem OO (hw:w.heap=E.h) (hs:eX GL E) (hrd:∀r o,rd r=some o->E.hp r=some o) (hρ:∀x,Rel E (ρ x) (ev x)) {t:Nat} {i:TI} (ht:aO P t=some i) {x y:Operand} {r off:Nat} (hx:ρ x = .ptr r off)
 {cs:List AV} (hr:rd r=some (.mix cs)) (h1:(ρ y).cellsOf.length=i.size) (h2:off+i.size<=cs.length) (h3:sS (kinds rd) (ρ y)=true) (h4:(ρ y).cellsOf.all (mQ rd)=true) {o:Oper} (ho:o.op = .store t x y) :
 Ends P GL E w (execOp ev o) .undef [(r,.mix (splice cs off (ρ y).cellsOf))]:=by
 have hk:=qy hrd;obtain ⟨b,cur,t0,g1,g2,g3⟩:=OM hs (hrd _ _ hr);have hy:=yg hk h3 (hρ y);have hl:=fH _ _ hy;have hcl:=fH _ _ g3;have hx':=hρ x;rw [hx,Rel,hrd _ _ hr] at hx';obtain ⟨b',z',e1,e2⟩:=hx';rw [g1] at e1;cases e1;have hb:w.heap[b]? = some (.cells cur t0):=by rw [hw];exact g2
 have hsz:(ev y).cells.size=i.size:=by rw [<-Array.length_toList,hl,h1]
 have hrun:=Iu (P:=P) ht hb hsz (by rw [<-Array.length_toList,hcl];exact h2) (E8 hk hy h4)
 have hgo:=wG hw hs (hrd _ _ hr) rfl g1 (o' := .mix (splice cs off (ρ y).cellsOf)) trivial g2 (cur':=(splice cur.toList off (ev y).cells.toList).toArray)
  (by simp only [List.size_toArray];rw [oD _ _ _ (by rw [Array.length_toList,Array.length_toList,hsz,<-Array.length_toList,hcl];exact h2),Array.length_toList])
  (by show aG E _ _;exact wC _ _ _ _ _ g3 hy) (w':=w.setRow b (splice cur.toList off (ev y).cells.toList).toArray) (setRow_heap w b cur _ t0 _ hb) (fun k hk=>setRow_other w b k _ hk) (setRow_size _ _ _) rfl rfl rfl
 obtain ⟨dst,op,type,pos,after,guard⟩:=o;simp only at ho;subst ho;refine ⟨.skip,_,_,undef,?_,.inr ⟨rfl,rfl⟩,hgo,by rw [Rel]⟩;show ((do Instr.storeAt t (ev x) (ev y);pure Next.skip):Sem Next).run P w=_;rw [e2];simp only [Sem.run_bind,hrun,Result.andThen_ok,Sem.run_pure]
theorem wH {α:Type}:∀(cs:List α) (off:Nat) (new:List α) (i:Nat) (x:α),off+new.length<=cs.length->(splice cs off new)[i]? = some x->(i<off\/off+new.length<=i)/\cs[i]? = some x\/off<=i/\i<off+new.length/\new[i-off]? = some x:=by
 intro cs
 induction cs with
 | nil =>
   intro off new i x h hx;have h1:new=[]:=List.eq_nil_of_length_eq_zero (by have e0:([]:List α).length=0:=rfl;omega);subst h1;cases off<;>simp [splice] at hx
 | cons c cs ih =>
   intro off new i x h hx;cases off with
   | zero =>
     have e:splice (c::cs) 0 new=new++(c::cs).drop new.length:=rfl;rw [e] at hx;by_cases hi:i<new.length
     ·rw [List.getElem?_append_left hi] at hx;exact .inr ⟨by omega,by omega,by simpa using hx⟩
     ·rw [List.getElem?_append_right (by omega),List.getElem?_drop] at hx;exact .inl ⟨by omega,by rw [show new.length+(i-new.length)=i from by omega] at hx;exact hx⟩
   | succ off =>
     rw [splice] at hx;cases i with
     | zero=>exact .inl ⟨.inl (by omega),hx⟩
     | succ i =>
       rcases ih off new i x (by simp at h;omega) (by simpa using hx) with ⟨h1,h2⟩ | ⟨h1,h2,h3⟩
       ·exact .inl ⟨by omega,by simpa using h2⟩
       ·exact .inr ⟨by omega,by omega,by rw [show i+1-(off+1)=i-off from by omega];exact h3⟩
theorem Hy {α:Type}:∀(cs:List α) (off:Nat) (new:List α) (i:Nat),off+new.length<=cs.length->(i<off\/off+new.length<=i)->(splice cs off new)[i]? = cs[i]? := by
 intro cs
 induction cs with
 | nil =>
   intro off new i h hi;have h1:new=[]:=List.eq_nil_of_length_eq_zero (by have e0:([]:List α).length=0:=rfl;omega);subst h1;rw [uD]
 | cons c cs ih =>
   intro off new i h hi;cases off with
   | zero =>
     have e:splice (c::cs) 0 new=new++(c::cs).drop new.length:=rfl;rw [e,List.getElem?_append_right (by omega),List.getElem?_drop];rw [show new.length+(i-new.length)=i from by omega]
   | succ off =>
     rw [splice];cases i with
     | zero=>rfl
     | succ i=>simpa using ih off new i (by simp at h;omega) (by omega)
theorem Hz {α:Type}:∀(cs:List α) (off:Nat) (new:List α) (j:Nat),off+new.length<=cs.length->j<new.length->(splice cs off new)[off+j]? = new[j]? := by
 intro cs
 induction cs with
 | nil=>intro off new j h hj;have e0:([]:List α).length=0:=rfl;omega
 | cons c cs ih =>
   intro off new j h hj;cases off with
   | zero =>
     have e:splice (c::cs) 0 new=new++(c::cs).drop new.length:=rfl;rw [e,Nat.zero_add,List.getElem?_append_left hj]
   | succ off =>
     rw [splice,show off+1+j=(off+j)+1 from by omega,List.getElem?_cons_succ];exact ih off new j (by simp at h;omega) hj
theorem Iw {T:Ty} {t:Nat} {kk:IntKind} {ei:TI} (hT:aO P=T) (h:vW T t=some (kk,ei)):∃k e,P.underlying t=some (.map k e)/\P.underlying k=some (.int kk)/\aO P e=some ei:=by
 subst hT;unfold vW at h;split at h
 ·rename_i i hi;split at h
  ·rename_i k e hk;split at h
   ·rename_i ki ei' hki hei;split at h
    ·rename_i kk' z1;simp only [Option.some.injEq,Prod.mk.injEq] at h;obtain ⟨rfl,rfl⟩:=h;obtain ⟨d,hd,e1⟩:=aP hi;obtain ⟨d2,hd2,e2⟩:=aP hki;rw [hk] at e1;rw [z1] at e2;cases d<;>simp only [fF] at e1<;>try (cases e1;done)
     cases d2<;>simp only [fF] at e2<;>try (cases e2;done)
     simp only [AT.map.injEq] at e1;obtain ⟨rfl,rfl⟩:=e1;simp only [AT.int.injEq] at e2;subst e2;exact ⟨k,e,hd,hd2,hei⟩
    ·cases h
   ·cases h
  ·cases h
 ·cases h
theorem XG {e:Nat} {ei:TI} (h:aO P e=some ei) {z:AV} (hz:fQ ei (ei.zero.map .d) 0=some z):∃zv,(zeroValue e).run P w = .ok zv w/\Rel E z zv:=by
 unfold aO at h;split at h
 ·rename_i inf d hi hd;split at h
  ·rename_i z0 hz0;split at h
   ·rename_i hc;simp only [Option.some.injEq] at h;subst h;simp only [Bool.and_eq_true,beq_iff_eq,List.all_eq_true] at hc;obtain ⟨⟨c1,c2⟩,c3⟩:=hc;have c2':z0.cells.size=inf.size:=by simpa using c2
    refine ⟨z0,by simp [zeroValue,typeInfo,hi,hz0,go_sem],?_⟩;unfold fQ at hz;simp only at hz;cases ha:(fF d).isAgg with
    | true =>
      rw [ha] at hz c3;simp only [if_true,List.length_map,List.drop_zero] at hz;rw [if_pos (by omega)] at hz;cases hz;rw [Rel,List.take_of_length_le (by simp;omega)];have hrel:aG E ((z0.cells.toList.map DV.val).map AV.d) z0.cells.toList:=nP _ c1;cases z0<;>simp [Value.oneCell'] at c3<;>first | exact ⟨_,rfl,hrel⟩ | (simp [Value.cells,Value.oneCell'] at c1)
    | false =>
      rw [ha] at hz c3;simp only [Bool.false_eq_true,if_false] at hz;have h1:z0.oneCell'=true:=by simpa using c3
      rw [oneCell_cells h1] at hz;cases hz;rw [Rel,bZ];exact ⟨rfl,h1⟩
   ·cases h
  ·cases h
 ·cases h
theorem wJ (kk:IntKind) (n:Int):∀(es:List MapEntry) (ks:List Int) (vs:List AV) (i:Nat),es.map (·.key)=ks.map (Value.int kk)->aG E vs (es.map (·.val)) ->
 (n∉ks/\pK n ks vs=none/\Instr.findNow (.int kk) (.int kk n) es i=some none) \/
 (n∈ks/\∃j e v,es[j]? = some e/\e.key = .int kk n/\pK n ks vs=some v/\Rel E v e.val/\Instr.findNow (.int kk) (.int kk n) es i=some (some (i+j,e.val))/\∀v' u',Rel E v' u'->aG E (OA n v' ks vs) ((es.map (·.val)).set j u'))
 | [],[],vs,i,h,hv => .inl ⟨by simp,by cases vs<;>rfl,rfl⟩
 | [],k::ks,vs,i,h,hv=>by simp at h
 | e::es,[],vs,i,h,hv=>by simp at h
 | e::es,k::ks,[],i,h,hv=>by rw [List.map_cons,aG] at hv;cases hv
 | e::es,k::ks,v::vs,i,h,hv=>by
   simp only [List.map_cons,List.cons.injEq] at h;rw [List.map_cons,aG] at hv;obtain ⟨u,us,h3,h4,h5⟩:=hv;simp only [List.cons.injEq] at h3;obtain ⟨rfl,rfl⟩:=h3;obtain ⟨h1,h2⟩:=h;simp only [Instr.findNow,h1,Instr.sameNow,if_true];by_cases hk:k=n
   ·right;subst hk;refine ⟨by simp,0,e,v,rfl,h1,by simp [pK],h4,by simp,fun v' u' hr => ?_⟩;simp only [OA,if_true,List.map_cons,List.set_cons_zero];rw [aG];exact ⟨_,_,rfl,hr,h5⟩
   ·have hb:(n==k)=false:=by simp;exact fun e=>hk e.symm
    simp only [hb];rcases wJ kk n es ks vs (i+1) h2 h5 with ⟨g1,g2,g3⟩ | ⟨g1,j,e',v',g2,g3,g4,g5,g6,g7⟩
    ·exact .inl ⟨by simp [g1];exact fun e=>hk e.symm,by simp only [pK,hk,if_false];exact g2,g3⟩
    ·refine .inr ⟨by simp [g1],j+1,e',v',by simpa using g2,g3,by simp only [pK,hk,if_false];exact g4,g5,by rw [g6,show i+1+j=i+(j+1) from by omega],fun v2 u2 hr => ?_⟩;simp only [OA,hk,if_false,List.map_cons,List.set_cons_succ];rw [aG];exact ⟨_,_,rfl,h4,g7 v2 u2 hr⟩
theorem nT {b:Nat} {es:Array MapEntry} {cl:Nat} (h:w.heap[b]? = some (.map es cl)):(getObj b).run P w = .ok (.map es cl) w:=by simp [getObj,Sem.run,h]
theorem Fa {b:Nat} {es:Array MapEntry} {cl:Nat} (o:Obj) (h:w.heap[b]? = some (.map es cl)):(setObj b o).run P w = .ok () {w with heap:=w.heap.setIfInBounds b o}:=by simp [setObj,Sem.run,h]
theorem adD (hs:eX GL E) {r:Nat} {kk:IntKind} {ks:List Int} {vs:List AV} (hr:E.hp r=some (.mp kk ks vs)):∃b es cl,E.m r=some (b,0)/\E.h[b]? = some (.map es cl)/\Dk E kk ks vs es/\E.X b:=hs.ob r _ hr
theorem HY {k:TypeId} {kk:IntKind} (hk:P.underlying k=some (.int kk)) (em:Bool) (v:Int) (n:Nat):(Instr.checkKey em (n+1) k (.int kk v)).run P w = .ok () w:=by
 simp [Instr.checkKey,run_underlying hk,go_sem]
theorem kT {k:TypeId} {kk:IntKind} (hk:P.underlying k=some (.int kk)) (em:Bool) (v:Int):(Instr.checkKey em 10000 k (.int kk v)).run P w = .ok () w:=HY hk em v 9999
theorem JC (hw:w.heap=E.h) (hs:eX GL E) (hn:E.hp slot=none) (kk:IntKind) {t:Nat} {o:Oper} (ho:o.op = .makeMap t none):Ends P GL E w (execOp ev o) (.ptr slot 0) [(slot,.mp kk [] [])]:=by
 refine ⟨_,{w with heap:=w.heap.push (.map #[] 0)},_,.map (some w.heap.size),?_,.inl rfl,UA hw hs kk hn rfl rfl rfl rfl,?_⟩
 ·obtain ⟨dst,op,type,pos,after,guard⟩:=o;simp only at ho;subst ho;simp [execOp,Instr.makeMap,E5,go_sem]
 ·rw [Rel];simp only [vX,dH,eF,if_true];exact ⟨_,_,rfl,by rw [hw]⟩
theorem OQ (hw:w.heap=E.h) (hs:eX GL E) {t:Nat} {kk:IntKind} {ei:TI} (hT:vW (aO P) t=some (kk,ei)) {z:AV} (hz:fQ ei (ei.zero.map .d) 0=some z) {r off:Nat} {ks:List Int} {vs:List AV} (hr:E.hp r=some (.mp kk ks vs)) {u:Value} (hu:Rel E (.ptr r off) u) (n:Int) (ok:Bool) :
 ∃v,(Instr.lookup t u (.int kk n) ok).run P w = .ok v w/\Rel E (Xu ok (pK n ks vs) z) v:=by
 obtain ⟨k,e,h1,h2,h3⟩:=Iw rfl hT;obtain ⟨zv,z1,z2⟩:=XG (w:=w) (E:=E) h3 hz;obtain ⟨b,es,cl,g1,g2,g3,g4⟩:=adD hs hr;rw [Rel,hr] at hu;obtain ⟨b',z',e1,rfl⟩:=hu;rw [g1] at e1;cases e1;have hb:w.heap[b]? = some (.map es cl):=by rw [hw];exact g2
 rcases wJ kk n es.toList ks vs 0 g3.1 g3.2 with ⟨k1,k2,k3⟩ | ⟨k1,j,e',v,k2,k3,k4,k5,k6,_⟩
 ·rw [k2];cases ok with
  | false =>
    refine ⟨zv,?_,z2⟩;simp [Instr.lookup,Instr.findKey,run_underlying h1,run_underlying h2,nT hb,kT h2,k3,z1,go_sem]
  | true =>
    refine ⟨.tuple #[zv,.bool false],?_,?_⟩
    ·simp [Instr.lookup,Instr.findKey,run_underlying h1,run_underlying h2,nT hb,kT h2,k3,z1,go_sem]
    ·simp only [Xu];rw [Rel];refine ⟨_,rfl,?_⟩;rw [aG];refine ⟨_,_,rfl,z2,?_⟩;rw [aG];exact ⟨_,_,rfl,kC _,by rw [aG]⟩
 ·rw [k4];cases ok with
  | false =>
    refine ⟨e'.val,?_,k5⟩;simp [Instr.lookup,Instr.findKey,run_underlying h1,run_underlying h2,nT hb,kT h2,k6,go_sem]
  | true =>
    refine ⟨.tuple #[e'.val,.bool true],?_,?_⟩
    ·simp [Instr.lookup,Instr.findKey,run_underlying h1,run_underlying h2,nT hb,kT h2,k6,go_sem]
    ·simp only [Xu];rw [Rel];refine ⟨_,rfl,?_⟩;rw [aG];refine ⟨_,_,rfl,k5,?_⟩;rw [aG];exact ⟨_,_,rfl,kC _,by rw [aG]⟩
theorem wK (hw:w.heap=E.h) (hs:eX GL E) {t:Nat} {kk:IntKind} {ei:TI} (hT:vW (aO P) t=some (kk,ei)) {x y z:Operand} {r off:Nat} {ks:List Int} {vs:List AV} (hr:E.hp r=some (.mp kk ks vs)) (hu:Rel E (.ptr r off) (ev x)) {n:Int} (hy:ev y = .int kk n) {v:AV} (hz:Rel E v (ev z))
 {o:Oper} (ho:o.op = .mapUpdate t x y z\/o.op = .insert t x y z):Ends P GL E w (execOp ev o) .undef [(r,.mp kk (uz ks n) (Eh ks n vs v))]:=by
 obtain ⟨k,e,h1,h2,h3⟩:=Iw rfl hT;obtain ⟨b,es,cl,g1,g2,g3,g4⟩:=adD hs hr;rw [Rel,hr] at hu;obtain ⟨b',z',e1,hu⟩:=hu;rw [g1] at e1;cases e1;have hb:w.heap[b]? = some (.map es cl):=by rw [hw];exact g2
 have hlt:b<w.heap.size:=(Array.getElem?_eq_some_iff.1 hb).1
 suffices hm:∃es' cl',Dk E kk (uz ks n) (Eh ks n vs v) es'/\(Instr.mapUpdate t (ev x) (ev y) (ev z)).run P w = .ok () {w with heap:=w.heap.setIfInBounds b (.map es' cl')} by
  obtain ⟨es',cl',m1,m2⟩:=hm;have hgo:=UC hw hs hr g1 g4 m1 (w':={w with heap:=w.heap.setIfInBounds b (.map es' cl')}) (cl':=cl') (by simp [hlt]) (fun k hk=>by simp only [Array.getElem?_setIfInBounds];rw [if_neg (fun e=>hk e.symm)]) (by simp) rfl rfl rfl;obtain ⟨dst,op,type,pos,after,guard⟩:=o;simp only at ho;refine ⟨.skip,_,_,undef,?_,.inr ⟨rfl,rfl⟩,hgo,by rw [Rel]⟩;rcases ho with ho | ho
  ·subst ho;show ((do Instr.mapUpdate t (ev x) (ev y) (ev z);pure Next.skip):Sem Next).run P w=_;simp only [Sem.run_bind,m2,Result.andThen_ok,Sem.run_pure]
  ·subst ho;show ((do Instr.mapUpdate t (ev x) (ev y) (ev z);pure Next.skip):Sem Next).run P w=_;simp only [Sem.run_bind,m2,Result.andThen_ok,Sem.run_pure]
 rw [hu,hy];rcases wJ kk n es.toList ks vs 0 g3.1 g3.2 with ⟨k1,k2,k3⟩ | ⟨k1,j,e',v',k2,k3,k4,k5,k6,k7⟩
 ·refine ⟨es.push ⟨.int kk n,ev z,cl⟩,cl+1,?_,?_⟩
  ·unfold uz Eh;rw [if_neg k1,if_neg k1];refine ⟨?_,?_⟩
   ·rw [Array.toList_push,List.map_append,List.map_append,g3.1];rfl
   ·rw [Array.toList_push,List.map_append];refine ku _ _ _ _ g3.2 ?_;show aG E [v] [ev z];rw [aG];exact ⟨_,_,rfl,hz,by rw [aG]⟩
  ·simp [Instr.mapUpdate,Instr.findKey,run_underlying h1,run_underlying h2,nT hb,kT h2,k3,Fa _ hb,go_sem]
 ·have q1:es[j]? = some e':=by rw [<-Array.getElem?_toList];exact k2
  have hmod:(es.modify j fun e=>{e with key := .int kk n,val:=ev z}).toList=es.toList.set j {e' with key := .int kk n,val:=ev z}:=by
   apply List.ext_getElem?;intro i;simp only [Array.getElem?_toList,Array.getElem?_modify,List.getElem?_set];by_cases hij:j=i
   ·subst hij;have hl:j<es.toList.length:=by rw [List.getElem?_eq_some_iff] at k2;exact k2.1
    simp only [if_true,q1,Option.map_some];rw [if_pos hl]
   ·simp only [hij,if_false]
  refine ⟨es.modify j fun e=>{e with key := .int kk n,val:=ev z},cl,?_,?_⟩
  ·unfold uz Eh;rw [if_pos k1,if_pos k1];refine ⟨?_,?_⟩
   ·rw [hmod,List.map_set,<-g3.1];show (es.toList.map (·.key)).set j (Value.int kk n)=_;apply List.ext_getElem?;intro i;rw [List.getElem?_set];split
    ·rename_i hij;subst hij;rw [List.getElem?_map,k2];simp only [Option.map_some,k3];have hl:j<es.toList.length:=by rw [List.getElem?_eq_some_iff] at k2;exact k2.1
     rw [if_pos (by rw [List.length_map];exact hl)]
    ·rfl
   ·rw [hmod,List.map_set];exact k7 v (ev z) hz
  ·simp [Instr.mapUpdate,Instr.findKey,run_underlying h1,run_underlying h2,nT hb,kT h2,k6,Fa _ hb,Instr.keyThatStays,q1,k3,Instr.sameBits,go_sem]
end
section
variable {P:Program} {GL:Nat->Option (List DV)} {E:En} {rd:Nat->Option AO} {slot:Nat} {ρ:Operand->AV} {ev:Operand->Value} {w:World}
theorem tq {h:Array Obj} {X:Nat->Prop}:∀ {xs:List DV} {vs:List Value},dV h X xs vs->∀v∈vs,v.oneCell'=true
 | [],vs,hr,v,hv=>by rw [show vs=[] from hr] at hv;cases hv
 | y::xs,vs,hr,v,hv=>by
   obtain ⟨u,vs',rfl,h1,h2⟩:=hr;rcases List.mem_cons.1 hv with rfl | hv
   ·exact LG h1
   ·exact tq h2 v hv
theorem iK {h:Array Obj} {X:Nat->Prop}:∀(cells:List DV) (b o:Nat),eu h X cells b o->∃vs,dV h X cells vs/\∀j v,vs[j]? = some v->je h b (o+j)=some v
 | [],b,o,_=>⟨[],rfl,fun j v hv=>by simp at hv⟩
 | x::cells,b,o,hr=>by
   rw [eu] at hr;obtain ⟨⟨u,h1,h2⟩,h3⟩:=hr;obtain ⟨vs,k1,k2⟩:=iK cells b (o+1) h3;refine ⟨u::vs,⟨u,vs,rfl,h2,k1⟩,fun j v hv => ?_⟩;cases j with
   | zero=>simp at hv;subst hv;exact h1
   | succ j=>rw [show o+(j+1)=o+1+j from by omega];exact k2 j v (by simpa using hv)
theorem Fb {h:Array Obj} {X:Nat->Prop}:∀(n:Nat) {xs:List DV} {vs:List Value},dV h X xs vs->dV h X (xs.take n) (vs.take n)
 | 0,xs,vs,_=>by rw [List.take_zero,List.take_zero];rfl
 | n+1,[],vs,hr=>by rw [show vs=[] from hr];rfl
 | n+1,x::xs,vs,hr=>by
   obtain ⟨u,vs',rfl,h1,h2⟩:=hr;exact ⟨u,_,rfl,h1,Fb n h2⟩
theorem mY {h:Array Obj} {X:Nat->Prop}:∀ {xs ys:List DV} {us vs:List Value},dV h X xs us->dV h X ys vs->dV h X (xs++ys) (us++vs)
 | [],ys,us,vs,h1,h2=>by rw [show us=[] from h1];exact h2
 | x::xs,ys,us,vs,h1,h2=>by
   obtain ⟨u,us',rfl,k1,k2⟩:=h1;exact ⟨u,us'++vs,rfl,k1,mY k2 h2⟩
theorem DC {h:Array Obj} {X:Nat->Prop}:∀(l:List UInt8),dV h X (bytesD l) (l.map fun b=>Value.int .u8 b.toNat)
 | []=>rfl
 | b::l=>⟨_,_,rfl,by rw [bZ];exact ⟨rfl,rfl⟩,DC l⟩
theorem oG (hs:eX GL E) {r e s:Nat} {cs:List DV} {wr:Bool} (hr:E.hp r=some (.data e s cs wr)):(E.m r=none/\cs=[])\/∃b cur,E.m r=some (b,cur.size)/\E.h[b]? = some (.cells cur e)/\eu E.h E.X cs b 0/\(∃c,cur.size=c*s/\c<=maxLen)/\0<s:=by
 rcases hs.ob r _ hr with h | ⟨b,cur,h1,h2,h3,h4,h5,h6⟩
 ·exact .inl h
 ·exact .inr ⟨b,cur,h1,h2,h3,h5,h6⟩
theorem wL {r e s b:Nat} {cs:List DV} {cur:Array Value} (h2:E.h[b]? = some (.cells cur e)) (h3:eu E.h E.X cs b 0):cs.length<=cur.size:=by
 rcases Nat.lt_or_ge cur.size cs.length with h | h
 ·obtain ⟨u,k1,_⟩:=oN cs b 0 cur.size _ h3 (List.getElem?_eq_getElem h);rw [jk h2] at k1;simp at k1
 ·exact h
theorem Ei (hw:w.heap=E.h) (hs:eX GL E) (hrd:∀r o,rd r=some o->E.hp r=some o) (hρ:∀x,Rel E (ρ x) (ev x)) {t:Nat} {i:TI} (ht:aO P t=some i) {x y:Operand} {r off e s:Nat} (hx:ρ x = .ptr r off)
 {cs ns:List DV} {us:List (Nat×AO)} (hr:rd r=some (.data e s cs true)) (ha:fG rd (ρ y).cellsOf=some (ns,us)) (h1:(ρ y).cellsOf.length=i.size) (h2:off+i.size<=cs.length) (h3:sS (kinds rd) (ρ y)=true) (h4:us.all (fun u=>u.1 != r)=true) {o:Oper} (ho:o.op = .store t x y) :
 Ends P GL E w (execOp ev o) .undef ((r,.data e s (splice cs off ns) true)::us):=by
 have hk:=qy hrd;have hFz:=Bv hrd ha;have hgz:=zW hw hs hFz;have hy:=yg hk h3 (hρ y);have hds:=BA hrd hs hFz ha (fun p hp=>hp) hy;have hl:=fH _ _ hy;have hnl:ns.length=i.size:=by rw [uH ha,h1]
 have hr':(Ls E us).hp r=some (.data e s cs true):=by
  show dH E.hp us r=_;unfold dH;cases hlk:look r us with
  | none=>exact hrd _ _ hr
  | some o' =>
    have:=List.all_eq_true.1 h4 _ (aU hlk);simp at this
 have hx':=hρ x;rw [hx,Rel,hrd _ _ hr] at hx';obtain ⟨b',z',e1,e2⟩:=hx';have e1':(Ls E us).m r=some (b',z'):=e1;rcases oG hgz.sim hr' with ⟨g1,_⟩ | ⟨b,cur,g1,g2,g3,g4,g5⟩
 ·rw [g1] at e1';cases e1'
 have hcl:=wL (r:=r) (s:=s) g2 g3;have hbb:b=b':=by rw [g1] at e1';cases e1';rfl
 subst hbb;have hb:w.heap[b]? = some (.cells cur e):=by rw [hgz.h];exact g2
 have hsz:(ev y).cells.size=i.size:=by rw [<-Array.length_toList,hl,h1]
 have hcu:cur.toList.length=cur.size:=Array.length_toList;have hrun:=Iu (P:=P) (i:=i) (off:=off) ht hb hsz (by omega) (tq hds);have hvl:(ev y).cells.toList.length=i.size:=by rw [Array.length_toList,hsz]
 have hgo:=wG hgz.h hgz.sim hr' rfl g1 (o' := .data e s (splice cs off ns) true) ⟨rfl,rfl⟩ g2 (cur':=(splice cur.toList off (ev y).cells.toList).toArray)
  (by simp only [List.size_toArray];rw [oD _ _ _ (by omega),Array.length_toList])
  ⟨rfl,fun j d hd=>by
    rcases wH cs off ns j d (by omega) hd with ⟨q1,q2⟩ | ⟨q1,q2,q3⟩
    ·obtain ⟨u,k1,k2⟩:=oN cs b 0 j d g3 q2;rw [Nat.zero_add,jk g2] at k1;refine ⟨u,?_,k2⟩;simp only [List.getElem?_toArray];rw [Hy _ _ _ _ (by omega) (by omega)];simpa using k1
    ·obtain ⟨u,k1,k2⟩:=l9 _ _ _ _ hds q3;refine ⟨u,?_,k2⟩;simp only [List.getElem?_toArray];rw [show j=off+(j-off) from by omega,Hz _ _ _ _ (by omega) (by omega)];exact k1⟩ (w':=w.setRow b (splice cur.toList off (ev y).cells.toList).toArray) (setRow_heap w b cur _ e _ hb) (fun k hk=>setRow_other w b k _ hk) (setRow_size _ _ _) rfl rfl rfl
 have hall:=hgz.trans hgo;obtain ⟨dst,op,type,pos,after,guard⟩:=o;simp only at ho;subst ho;refine ⟨.skip,_,_,undef,?_,.inr ⟨rfl,rfl⟩,hall,by rw [Rel]⟩;show ((do Instr.storeAt t (ev x) (ev y);pure Next.skip):Sem Next).run P w=_;rw [e2];simp only [Sem.run_bind,hrun,Result.andThen_ok,Sem.run_pure]
theorem LX (s:ByteArray):(s.data.map fun b=>Value.int .u8 b.toNat)=(s.data.toList.map fun b=>Value.int .u8 b.toNat).toArray:=by
 rw [<-Array.toList_map]
theorem zY (hw:w.heap=E.h) (hs:eX GL E) (hrd:∀r o,rd r=some o->E.hp r=some o) {s:Nat} {y:AV} {u:Value} (hr:Rel E y u) {cells:List DV} {m:Nat} (h:uy rd s y=some (cells,m)) :
 ∃news:List Value,dV E.h E.X cells news/\(Builtin.lenOf u).run P w = .ok m w/\news.length=m*s/\(∀(k:Nat) (w':World),k<=m->w'.heap=w.heap->(Builtin.firstCells s k u).run P w' = .ok (news.take (k*s)).toArray w')/\((∃A c,u = .slice A m c)\/∃b,y = .d (.val (.string b))):=by
 have key:∀(news:List Value) (b o c:Nat),news.length=m*s->(∀j v,news[j]? = some v->je E.h b (o+j)=some v)->∀(k:Nat) (w':World),k<=m->w'.heap=w.heap->(Builtin.firstCells s k (.slice (some ⟨b,o,none⟩) m c)).run P w' = .ok (news.take (k*s)).toArray w':=fun news b o c hl hc k w' hk hw'=>by
  refine run_firstCells_some w' s k _ m c (news.take (k*s)) (by rw [List.length_take,hl];exact Nat.min_eq_left (Nat.mul_le_mul_right _ hk)) (fun j v hv => ?_);rw [List.getElem?_take] at hv;split at hv
  ·rw [addr_add,ou,hw',hw];exact hc j v hv
  ·cases hv
 have zero:∀(A:Option Addr) (w':World),(Builtin.firstCells s 0 (.slice A 0 0)).run P w' = .ok #[] w':=fun A w'=>by
  cases A<;>simp [Builtin.firstCells,loadCells,loadCellsFrom,go_sem]
 unfold uy at h;split at h
 ·simp only [Option.some.injEq,Prod.mk.injEq] at h;obtain ⟨rfl,rfl⟩:=h;rw [aQ hr];refine ⟨[],rfl,by simp [Builtin.lenOf,go_sem],by simp,fun k w' hk hw' => ?_,.inl ⟨_,_,rfl⟩⟩
  ·obtain rfl:k=0:=by omega
   rw [zero];simp
 ·rename_i cs n cap;split at h
  ·rename_i hlen;simp only [Option.some.injEq,Prod.mk.injEq] at h;obtain ⟨rfl,rfl⟩:=h;rw [Rel,bZ] at hr;obtain ⟨A,c,rfl,g1,g2,g3,g4⟩:=hr;by_cases hc:cs=[]
   ·subst hc;refine ⟨[],rfl,by simp [Builtin.lenOf,go_sem],by simpa using hlen,fun k w' hk hw' => ?_,.inl ⟨_,_,rfl⟩⟩;have hz:k*s=0:=by
     have h1:=Nat.mul_le_mul_right s hk;have h2:0=n*s:=hlen;omega
    simp only [List.take_nil];cases A with
    | none=>simp [Builtin.firstCells,go_sem]
    | some a=>simp [Builtin.firstCells,hz,loadCells,loadCellsFrom,go_sem]
   ·rcases g4 with g4 | ⟨b,o,rfl,g5,g6⟩
    ·exact (hc g4).elim
    ·obtain ⟨vs,k1,k2⟩:=iK cs b o g6;have hvl:vs.length=n*s:=by rw [dW _ _ k1];exact hlen
     exact ⟨vs,k1,by simp [Builtin.lenOf,go_sem],hvl,key vs b o c hvl k2,.inl ⟨_,_,rfl⟩⟩
  ·cases h
 ·rename_i r off n cap;split at h
  ·rename_i e s' cs wr ho;split at h
   ·rename_i hc;obtain ⟨rfl,hc⟩:=hc;simp only [Option.some.injEq,Prod.mk.injEq] at h;obtain ⟨rfl,rfl⟩:=h;rw [Rel,hrd _ _ ho] at hr;rcases hr with ⟨rfl,_,_,A,rfl⟩ | ⟨b,z,c,g1,rfl,g3,g4,g5,g6⟩
    ·refine ⟨[],by simp [dV],by simp [Builtin.lenOf,go_sem],by simp,fun k w' hk hw' => ?_,.inl ⟨_,_,rfl⟩⟩;obtain rfl:k=0:=by omega
     rw [zero];simp
    ·rcases oG hs (hrd _ _ ho) with ⟨q1,_⟩ | ⟨b',cur,q1,q2,q3,q4,q5⟩
     ·rw [q1] at g1;cases g1
     ·have hbb:b=b':=by rw [q1] at g1;cases g1;rfl
      subst hbb;have hd:=jf (n*s') _ _ _ (jR off _ _ _ q3);rw [Nat.zero_add] at hd;obtain ⟨vs,k1,k2⟩:=iK _ b off hd;have hvl:vs.length=n*s':=by rw [dW _ _ k1,List.length_take,List.length_drop];omega
      exact ⟨vs,k1,by simp [Builtin.lenOf,go_sem],hvl,key vs b off c hvl k2,.inl ⟨_,_,rfl⟩⟩
   ·cases h
  ·cases h
 ·rename_i b;split at h
  ·rename_i hs1;subst hs1;simp only [Option.some.injEq,Prod.mk.injEq] at h;obtain ⟨rfl,rfl⟩:=h;rw [aQ hr];refine ⟨_,DC _,by simp [Builtin.lenOf,go_sem],by simp,fun k w' hk hw' => ?_,.inr ⟨_,rfl⟩⟩;simp only [Builtin.firstCells,Sem.run_pure,Nat.mul_one];rw [LX];congr 2;rw [<-List.map_take];congr 1;simp [ByteArray.data_extract]
  ·cases h
 ·cases h
end
section
variable {P:Program} {GL:Nat->Option (List DV)} {E:En} {rd:Nat->Option AO} {slot:Nat} {ρ:Operand->AV} {ev:Operand->Value} {w:World}
structure uJ (P:Program) (ats:Array TypeId) (args:Array Value) (t u e:TypeId) (ei:TI) (A:Option Addr) (n c:Nat) (xv:Value):Prop where
 a0:ats[0]? = some t
 a1:ats[1]? = some u
 b0:args[0]? = some (.slice A n c)
 b1:args[1]? = some xv
 ht:P.underlying t=some (.slice e)
 hu:∃du,P.underlying u=some du/\(fF du).srcOk=true
 he:aO P e=some ei
theorem vK {ats:Array TypeId} {ty:Nat} {args:Array Value} {t u e:TypeId} {ei:TI} {A:Option Addr} {n c m:Nat} {xv:Value} (H:uJ P ats args t u e ei A n c xv) {news:List Value} (hlen:(Builtin.lenOf xv).run P w = .ok m w) (hf:(Builtin.firstCells ei.size m xv).run P w = .ok news.toArray w) (hroom:n+m<=c)
 {w':World} (hst:∀a,A=some a->(storeCells (a.add (n*ei.size)) news).run P w = .ok () w') (hn:A=none->w'=w):(Builtin.append_ ats ty args).run P w = .ok (.slice A (n+m) c) w':=by
 obtain ⟨a0,a1,b0,b1,ht,⟨du,hu,hdu⟩,he⟩:=H;have hz:∀k,du ≠ .int k:=fun k e=>by rw [e] at hdu;cases hdu
 obtain ⟨inf,d,z,q1,q2,q3,q4,q5,q6,q7,q8,q9⟩:=mV he;rw [<-q4] at hf hst;cases A with
 | none =>
   obtain rfl:=hn rfl;cases du<;>simp [fF,AT.srcOk] at hdu<;>simp [Builtin.append_,a0,a1,b0,b1,run_underlying ht,run_underlying hu,sizeOf,typeInfo,q1,hlen,hroom,hf]
 | some a =>
   have hs:=hst a rfl;cases du<;>simp [fF,AT.srcOk] at hdu<;>simp [Builtin.append_,a0,a1,b0,b1,run_underlying ht,run_underlying hu,sizeOf,typeInfo,q1,hlen,hroom,hf,hs]
theorem vM {ats:Array TypeId} {ty:Nat} {args:Array Value} {t u e:TypeId} {ei:TI} {A:Option Addr} {n c m:Nat} {xv:Value} (H:uJ P ats args t u e ei A n c xv) {olds news:List Value} (hlen:(Builtin.lenOf xv).run P w = .ok m w)
 (hf:(Builtin.firstCells ei.size m xv).run P w.drew = .ok news.toArray w.drew) (ho:(Builtin.firstCells ei.size n (.slice A n c)).run P w.drew = .ok olds.toArray w.drew) (hgrow:c<n+m) (h1:(n+m)*ei.bytes<=140737488355328) (h2:n+m<=maxLen) :
 ∃z:Value,(∀u∈z.cells.toList,u.oneCell'=true)/\z.cells.size=ei.size/\(Builtin.append_ ats ty args).run P w = .ok (.slice (some ⟨w.heap.size,0,none⟩) (n+m) (grownCap w (n+m) c e))
  (w.drew.alloc (.cells (olds.toArray++news.toArray++Builtin.zeroCells z.cells (grownCap w (n+m) c e-(n+m))) e)):=by
 obtain ⟨a0,a1,b0,b1,ht,⟨du,hu,hdu⟩,he⟩:=H;obtain ⟨inf,d,z,q1,q2,q3,q4,q5,q6,q7,q8,q9⟩:=mV he;refine ⟨z,q8,by rw [<-Array.length_toList];exact q9,?_⟩;rw [<-q4] at hf ho;have hn:¬(n+m<=c):=by omega
 have hm63:maxLen=9223372036854775807:=rfl;have h63':¬(9223372036854775807<((n:Int)+(m:Int))):=by omega
 have hfit:=growslice_fits (old:=c) hgrow h1;have h48':¬(281474976710656<Builtin.nextslicecap (n+m) c*inf.bytes):=by rw [q5];omega
 cases du<;>simp [fF,AT.srcOk] at hdu<;>simp [Builtin.append_,a0,a1,b0,b1,run_underlying ht,run_underlying hu,sizeOf,typeInfo,zeroValue,q1,q3,hlen,hn,h63',h48',Question.forced,hf,ho,newRow,grownCap]<;>simp only [<-Array.append_assoc,List.append_toArray]
def vN (E:En) (slot:Nat) (o:AO):En:={E with m:=fun r=>if r=slot then none else E.m r,hp:=dH E.hp [(slot,o)]}
theorem UG (hw:w.heap=E.h) (hs:eX GL E) (hn:E.hp slot=none) (e s:Nat) (wr:Bool):Goes GL E w [(slot,.data e s [] wr)] (vN E slot (.data e s [] wr)) w:=by
 have hhp:∀r,r≠slot->(vN E slot (.data e s [] wr)).hp r=E.hp r:=fun r hr=>by simp only [vN,dH,eF];rw [if_neg (fun e=>hr e.symm)]
 have hm:∀r,r≠slot->(vN E slot (.data e s [] wr)).m r=E.m r:=fun r hr=>by simp only [vN];rw [if_neg hr]
 have hslot:∀r ob,E.hp r=some ob->r≠slot:=fun r ob he e=>by rw [e,hn] at he;cases he
 have m1:(vN E slot (.data e s [] wr)).m slot=none:=by simp [vN]
 have hex:Ext E (vN E slot (.data e s [] wr)):=⟨Sub.refl _ _,fun r ob he=>⟨ob,(hhp r (hslot r ob he)).trans he,ob.like_refl,.inr (hm r (hslot r ob he))⟩⟩
 have hmm:∀r ob,(vN E slot (.data e s [] wr)).hp r=some ob->(r=slot/\ob = .data e s [] wr)\/(r≠slot/\E.hp r=some ob):=fun r ob he=>by
  by_cases hr:r=slot
  ·subst hr;simp only [vN,dH,eF,if_true,Option.some.injEq] at he;exact .inl ⟨rfl,he.symm⟩
  ·exact .inr ⟨hr,(hhp r hr).symm.trans he⟩
 refine ⟨hw,rfl,hex,⟨fun r ob he => ?_,fun r r' ob ob' b z z' e1 e2 e3 e4 e5 e6 => ?_,fun g cells hg=>hs.gl g cells hg⟩,⟨rfl,rfl,rfl,Nat.le_refl _,fun _ _ _=>rfl,fun k ⟨r,ob,z,e1,e2,e3⟩ => ?_,fun k hk => .inl hk,fun k _ hx _=>hx⟩⟩
 ·rcases hmm r ob he with ⟨rfl,rfl⟩ | ⟨hr,he'⟩
  ·exact .inl ⟨m1,rfl⟩
  ·exact qY.ext hex (hs.ob r ob he') (.inr (hm r hr)) (fun _ _ _=>rfl) (fun _ _ _=>Iff.rfl)
 ·rcases hmm r ob e1 with ⟨rfl,rfl⟩ | ⟨hr,e1'⟩
  ·rw [m1] at e5;cases e5
  ·rcases hmm r' ob' e2 with ⟨rfl,rfl⟩ | ⟨hr',e2'⟩
   ·rw [m1] at e6;cases e6
   ·rw [hm r hr] at e5;rw [hm r' hr'] at e6;exact hs.inj r r' ob ob' b z z' e1' e2' e3 e4 e5 e6
 ·rcases hmm r ob e1 with ⟨rfl,rfl⟩ | ⟨hr,e1'⟩
  ·rw [m1] at e3;cases e3
  ·rw [hm r hr] at e3;exact .inl ⟨r,ob,z,e1',e2,e3⟩
theorem aa5 (A:Option Addr) (e s:Nat) (wr:Bool):Rel (vN E slot (.data e s [] wr)) (.sl slot 0 0 none) (.slice A 0 0):=by
 rw [Rel];simp only [vN,dH,eF,if_true];exact .inl ⟨trivial,.inl trivial,fun _ _ b z h=>(by cases h),A,rfl⟩
theorem uK (hw:w.heap=E.h) (hs:eX GL E) (hn:E.hp slot=none) {ats:Array TypeId} {ty:Nat} {args:Array Value} {t u e:TypeId} {ei:TI} {A:Option Addr} {n c m:Nat} {xv:Value} (H:uJ P ats args t u e ei A n c xv)
 {old cells:List DV} {olds news:List Value} (ho1:dV E.h E.X old olds) (ho2:olds.length=n*ei.size) (ho3:∀w':World,w'.heap=w.heap->(Builtin.firstCells ei.size n (.slice A n c)).run P w' = .ok olds.toArray w')
 (hc1:dV E.h E.X cells news) (hc2:news.length=m*ei.size) (hlen:(Builtin.lenOf xv).run P w = .ok m w) (hc3:∀w':World,w'.heap=w.heap->(Builtin.firstCells ei.size m xv).run P w' = .ok news.toArray w') (hgrow:c<n+m) (hp:0<ei.size) (h1:(n+m)*ei.bytes<=140737488355328) (h2:n+m<=maxLen) :
 ∃uv w' E',(Builtin.append_ ats ty args).run P w = .ok uv w'/\Goes GL E w [(slot,.data e ei.size (old++cells) true)] E' w'/\Rel E' (.sl slot 0 (n+m) none) uv:=by
 obtain ⟨z,z1,z2,hrun⟩:=vM (ty:=ty) H hlen (hc3 w.drew rfl) (ho3 w.drew rfl) hgrow h1 h2;have hge:=grownCap_ge w (n+m) c e;have hle:=grownCap_le_maxLen w (n+m) c e h2;generalize hgc:grownCap w (n+m) c e=cap at *
 have hsz:(olds.toArray++news.toArray++Builtin.zeroCells z.cells (cap-(n+m))).size=cap*ei.size:=by
  simp only [Array.size_append,List.size_toArray,size_zeroCells,z2,ho2,hc2,<-Nat.add_mul];congr 1;omega
 have hds:=mY ho1 hc1;refine ⟨_,_,_,hrun,wF (slot:=slot) hw hs hn (o := .data e ei.size (old++cells) true) ⟨rfl,rfl,fun j x hx => ?_,⟨cap,hsz,hle⟩,hp⟩ rfl rfl rfl rfl,JB hw hge hle hsz.symm (fun k hk=>by cases hk)⟩;obtain ⟨v,k1,k2⟩:=l9 _ _ j x hds hx;refine ⟨v,?_,k2⟩;have hj:j<(olds++news).length:=(List.getElem?_eq_some_iff.1 k1).1;rw [<-Array.getElem?_toList,Array.toList_append,Array.toList_append];rw [List.getElem?_append_left (by exact hj)];exact k1
def kU (P:Program) (GL:Nat->Option (List DV)) (E:En) (w:World) (s:Sem Value) (v:AV) (us:List (Nat×AO)):Prop :=
 ∃uv w' E',s.run P w = .ok uv w'/\Goes GL E w us E' w'/\Rel E' v uv
theorem adE {ats:Array TypeId} {ty:Nat} {args:Array Value} {t u e:TypeId} {ei:TI} {A:Option Addr} {n c:Nat} {xv:Value} (H:uJ P ats args t u e ei A n c xv) (hlen:(Builtin.lenOf xv).run P w = .ok 0 w) (hc3:(Builtin.firstCells ei.size 0 xv).run P w = .ok #[] w) (hnc:n<=c) :
 (Builtin.append_ ats ty args).run P w = .ok (.slice A n c) w :=
 vK (news:=[]) (ty:=ty) H hlen hc3 (by omega) (fun a _=>by simp [storeCells,go_sem]) (fun _=>rfl)
theorem DF (hw:w.heap=E.h) (hs:eX GL E) {ats:Array TypeId} {ty:Nat} {args:Array Value} {t u e:TypeId} {ei:TI} {n c m:Nat} {xv:Value} {r b:Nat} {cs:List DV} {cur:Array Value} (H:uJ P ats args t u e ei (some ⟨b,0,none⟩) n c xv)
 (hr:E.hp r=some (.data e ei.size cs true)) (hm:E.m r=some (b,cur.size)) (hb:E.h[b]? = some (.cells cur e)) (hcs:eu E.h E.X cs b 0) (hfit:c*ei.size<=cur.size)
 {cells:List DV} {news:List Value} (hc1:dV E.h E.X cells news) (hc2:news.length=m*ei.size) (hlen:(Builtin.lenOf xv).run P w = .ok m w) (hc3:(Builtin.firstCells ei.size m xv).run P w = .ok news.toArray w) (hroom:n+m<=c)
 (cs':List DV) (hcs':∀(j:Nat) (d:DV),cs'[j]? = some d->((j<n*ei.size\/(n+m)*ei.size<=j)/\cs[j]? = some d)\/(n*ei.size<=j/\j<(n+m)*ei.size/\cells[j-n*ei.size]? = some d)) :
 ∃w',(Builtin.append_ ats ty args).run P w = .ok (.slice (some ⟨b,0,none⟩) (n+m) c) w'/\Goes GL E w [(r,.data e ei.size cs' true)] (nS E r (.data e ei.size cs' true) w'.heap) w':=by
 have hbw:w.heap[b]? = some (.cells cur e):=by rw [hw];exact hb
 have hnm:(n+m)*ei.size<=c*ei.size:=Nat.mul_le_mul_right _ hroom;have hnm2:(n+m)*ei.size=n*ei.size+m*ei.size:=Nat.add_mul _ _ _;have hst:=run_storeCells_at P b (n*ei.size) e news 0 cur w hbw (by omega) (tq hc1);simp only [Nat.add_zero] at hst;have hcul:cur.toList.length=cur.size:=Array.length_toList;have hrun:=vK (ty:=ty) (w':=w.setRow b (cur.toList.take (n*ei.size)++news++cur.toList.drop (n*ei.size+news.length)).toArray) H hlen hc3 hroom (fun a ha=>by
  cases ha;rw [addr_add,Nat.zero_add];exact hst) (fun h=>by cases h)
 have hsize:(cur.toList.take (n*ei.size)++news++cur.toList.drop (n*ei.size+news.length)).toArray.size=cur.size:=by
  simp only [List.size_toArray,List.length_append,List.length_take,List.length_drop];omega
 refine ⟨_,hrun,wG hw hs hr rfl hm (o' := .data e ei.size cs' true) ⟨rfl,rfl⟩ hb hsize ⟨rfl,fun j d hd => ?_⟩ (setRow_heap w b cur _ e _ hbw) (fun k hk=>setRow_other w b k _ hk) (setRow_size _ _ _) rfl rfl rfl⟩;rcases hcs' j d hd with ⟨h1,h2⟩ | ⟨h1,h2,h3⟩
 ·obtain ⟨v,k1,k2⟩:=oN cs b 0 j d hcs h2;rw [Nat.zero_add,jk hb] at k1;refine ⟨v,?_,k2⟩;have hjc:j<cur.size:=(Array.getElem?_eq_some_iff.1 k1).1;simp only [List.getElem?_toArray];rcases h1 with h1 | h1
  ·rw [List.append_assoc,List.getElem?_append_left (by rw [List.length_take];omega),List.getElem?_take,if_pos h1];simpa using k1
  ·rw [List.getElem?_append_right (by rw [List.length_append,List.length_take];omega),List.length_append,List.length_take,List.getElem?_drop];rw [show n*ei.size+news.length+(j-(min (n*ei.size) cur.toList.length+news.length))=j from by omega];simpa using k1
 ·obtain ⟨v,k1,k2⟩:=l9 _ _ _ _ hc1 h3;refine ⟨v,?_,k2⟩;have hjn:j-n*ei.size<news.length:=(List.getElem?_eq_some_iff.1 k1).1;simp only [List.getElem?_toArray];rw [List.append_assoc,List.getElem?_append_right (by rw [List.length_take];omega),List.getElem?_append_left (by rw [List.length_take];omega),List.length_take];rw [show j-min (n*ei.size) cur.toList.length=j-n*ei.size from by omega];exact k1
end
section
variable {P:Program} {GL:Nat->Option (List DV)} {E:En} {rd:Nat->Option AO} {slot:Nat} {ρ:Operand->AV} {ev:Operand->Value} {w:World}
theorem mg {e s bytes n m:Nat} {old cells:List DV} {v:AV} {us:List (Nat×AO)}
 (h:wB rd slot e s bytes m cells n old=some (v,us)) :
 rd slot=none/\(n+m)*bytes<=140737488355328/\n+m<=maxLen/\v = .sl slot 0 (n+m) none/\us=[(slot,.data e s (old++cells) true)]:=by
 unfold wB at h;split at h
 ·cases h
 ·rename_i h1;split at h
  ·rename_i h2;simp only [Option.some.injEq,Prod.mk.injEq] at h;exact ⟨by simpa using h1,h2.1,h2.2,h.1.symm,h.2.symm⟩
  ·cases h
set_option maxHeartbeats 2000000 in
theorem LY (hw:w.heap=E.h) (hs:eX GL E) (hrd:∀r o,rd r=some o->E.hp r=some o) (hsl:rd slot=none->E.hp slot=none) {ats:Array TypeId} {ty:Nat} {args:Array Value} {t u e:TypeId} {ei:TI} {xv dv:Value} {x:AV}
 (H:∀A n c,dv = .slice A n c->uJ P ats args t u e ei A n c xv) (hx:Rel E x dv) {m:Nat} {cells:List DV} {news:List Value} (hp:0<ei.size)
 (hc1:dV E.h E.X cells news) (hc2:news.length=m*ei.size) (hlen:(Builtin.lenOf xv).run P w = .ok m w) (hc3:∀w':World,w'.heap=w.heap->(Builtin.firstCells ei.size m xv).run P w' = .ok news.toArray w')
 {v:AV} {us:List (Nat×AO)} (h:iM rd slot e ei.size ei.bytes x cells m=some (v,us)):kU P GL E w (Builtin.append_ ats ty args) v us:=by
 have hm0:m=0->cells=[]/\(Builtin.lenOf xv).run P w = .ok 0 w/\(Builtin.firstCells ei.size 0 xv).run P w = .ok #[] w:=fun e0=>by
  subst e0;have:news=[]:=List.eq_nil_of_length_eq_zero (by omega);subst this;have hcl:=dW _ _ hc1;exact ⟨List.eq_nil_of_length_eq_zero hcl.symm,hlen,hc3 w rfl⟩
 have zero:∀(A:Option Addr) (w':World),(Builtin.firstCells ei.size 0 (.slice A 0 0)).run P w' = .ok #[] w':=fun A w'=>by
  cases A<;>simp [Builtin.firstCells,loadCells,loadCellsFrom,go_sem]
 -- out of nothing
 have fromNil:∀A,dv = .slice A 0 0->rd slot=none->(0+m)*ei.bytes<=140737488355328->0+m<=maxLen->kU P GL E w (Builtin.append_ ats ty args) (.sl slot 0 (0+m) none) [(slot,.data e ei.size ([]++cells) true)]:=fun A hA hrs b1 b2=>by
  have HA:=H A 0 0 hA;by_cases hmz:m=0
  ·obtain ⟨c0,l0,f0⟩:=hm0 hmz;subst hmz;subst c0;exact ⟨_,_,_,adE HA l0 f0 (Nat.le_refl _),UG hw hs (hsl hrs) e ei.size true,aa5 A e ei.size true⟩
  ·exact uK hw hs (hsl hrs) HA (old:=[]) (olds:=[]) rfl (by simp) (fun w' _=>zero A w') hc1 hc2 hlen hc3 (by omega) hp b1 b2
 -- nothing is appended: the same slice
 have same:∀A n c,dv = .slice A n c->n<=c->m=0->kU P GL E w (Builtin.append_ ats ty args) x []:=fun A n c hA hnc hmz=>by
  obtain ⟨c0,l0,f0⟩:=hm0 hmz;exact ⟨_,_,_,adE (H A n c hA) l0 f0 hnc,Goes.refl hw hs,by rw [<-hA];exact hx⟩
 unfold iM at h;split at h
 ·obtain ⟨g1,g2,g3,rfl,rfl⟩:=mg h;exact fromNil none (aQ hx) g1 g2 g3
 ·rename_i cs n c;rw [Rel,bZ] at hx;split at h
  ·rename_i hcn;subst hcn;have hx':=hx;obtain ⟨A,c',e1,g1,g2,g3,g4⟩:=hx;have hcc:=g3 c rfl;subst hcc;split at h
   ·rename_i hn0;subst hn0;obtain ⟨k1,k2,k3,rfl,rfl⟩:=mg h;exact fromNil A e1 k1 k2 k3
   ·rename_i hn0;split at h
    ·rename_i hmz;simp only [Option.some.injEq,Prod.mk.injEq] at h;obtain ⟨rfl,rfl⟩:=h;exact same A _ _ e1 (Nat.le_refl _) hmz
    ·rename_i hmz;split at h
     ·rename_i hlen2;obtain ⟨k1,k2,k3,rfl,rfl⟩:=mg h;have hcne:cs≠[]:=fun e0=>by
       subst e0;have:=Nat.mul_pos (Nat.pos_of_ne_zero hn0) hp;simp at hlen2;omega
      rcases g4 with g4 | ⟨b,o,rfl,g5,g6⟩
      ·exact (hcne g4).elim
      ·obtain ⟨vs,q1,q2⟩:=iK cs b o g6;have hvl:vs.length=c'*ei.size:=by rw [dW _ _ q1];exact hlen2
       exact uK hw hs (hsl k1) (H _ _ _ e1) q1 hvl (fun w' hw'=>run_firstCells_some w' ei.size c' _ c' c' vs hvl (fun j v hv=>by rw [addr_add,ou,hw',hw];exact q2 j v hv)) hc1 hc2 hlen hc3 (by omega) hp k2 k3
     ·cases h
  ·cases h
 ·rename_i r off n c;split at h
  ·rename_i e' s' cs wr ho;split at h
   ·rename_i hes;obtain ⟨rfl,rfl⟩:=hes;have ho':=hrd _ _ ho;have hxR:=hx;rw [Rel,ho'] at hx;split at h
    ·rename_i hcn;subst hcn;split at h
     ·rename_i hn0;subst hn0;obtain ⟨k1,k2,k3,rfl,rfl⟩:=mg h;rcases hx with ⟨_,_,_,A,e1⟩ | ⟨b,z,c',g1,e1,g3,g4,g5,g6⟩
      ·exact fromNil A e1 k1 k2 k3
      ·have g6':c'=0:=g6;subst g6';exact fromNil _ e1 k1 k2 k3
     ·rename_i hn0;rcases hx with ⟨h0,_⟩ | ⟨b,z,c',g1,e1,g3,g4,g5,g6⟩
      ·exact (hn0 h0).elim
      have g6':c'=c:=g6;subst g6';split at h
      ·rename_i hmz;simp only [Option.some.injEq,Prod.mk.injEq] at h;obtain ⟨rfl,rfl⟩:=h;exact same _ _ _ e1 (Nat.le_refl _) hmz
      ·rename_i hmz;split at h
       ·rename_i hfit;obtain ⟨k1,k2,k3,rfl,rfl⟩:=mg h;rcases oG hs ho' with ⟨q1,_⟩ | ⟨b',cur,q1,q2,q3,q4,q5⟩
        ·rw [q1] at g1;cases g1
        ·have hbb:b=b':=by rw [q1] at g1;cases g1;rfl
         subst hbb;have hd:=jf (c'*ei.size) _ _ _ (jR off _ _ _ q3);rw [Nat.zero_add] at hd;obtain ⟨vs,p1,p2⟩:=iK _ b off hd;have hvl:vs.length=c'*ei.size:=by rw [dW _ _ p1,List.length_take,List.length_drop];omega
         exact uK hw hs (hsl k1) (H _ _ _ e1) p1 hvl (fun w' hw'=>run_firstCells_some w' ei.size c' _ c' c' vs hvl (fun j v hv=>by rw [addr_add,ou,hw',hw];exact p2 j v hv)) hc1 hc2 hlen hc3 (by omega) hp k2 k3
       ·cases h
    ·rename_i hcn;split at h
     ·rename_i hall;obtain ⟨hwr,rfl,h1,h2⟩:=hall;simp only [Option.some.injEq,Prod.mk.injEq] at h;obtain ⟨rfl,rfl⟩:=h;have hwr':wr=true:=by simpa using hwr
      subst hwr';rcases hx with ⟨h0,hcap,_,_⟩ | ⟨b,z,c',g1,e1,g3,g4,g5,g6⟩
      ·rcases hcap with hcap | hcap
       ·cases hcap
       ·cases hcap;omega
      have g6':c'=c:=g6;subst g6';rcases oG hs ho' with ⟨q1,_⟩ | ⟨b',cur,q1,q2,q3,q4,q5⟩
      ·rw [q1] at g1;cases g1
      ·have hbb:b=b':=by rw [q1] at g1;cases g1;rfl
       subst hbb;have hzc:z=cur.size:=by rw [q1] at g1;cases g1;rfl
       have hncl:cells.length=m*ei.size:=by rw [<-dW _ _ hc1];exact hc2
       have hnm2:(n+m)*ei.size=n*ei.size+m*ei.size:=Nat.add_mul _ _ _;obtain ⟨w',r1,r2⟩:=DF (ty:=ty) hw hs (H _ _ _ e1) ho' q1 q2 q3 (by omega) hc1 hc2 hlen (hc3 w rfl) h1 (splice cs (n*ei.size) cells) (fun j d hd=>by
        rcases wH cs _ cells j d (by omega) hd with ⟨a1,a2⟩ | ⟨a1,a2,a3⟩
        ·exact .inl ⟨by omega,a2⟩
        ·exact .inr ⟨a1,by omega,a3⟩)
       refine ⟨_,_,_,r1,r2,?_⟩;rw [Rel];simp only [nS,dH,eF,if_true];exact .inr ⟨b,z,c',g1,rfl,h1,g4,g5,rfl⟩
     ·cases h
   ·cases h
  ·cases h
 ·rename_i r off n;split at h
  ·rename_i e' s' cs wr ho;split at h
   ·rename_i hes;obtain ⟨rfl,rfl,rfl,hwr⟩:=hes;have hwr':wr=true:=by simpa using hwr
    subst hwr';have ho':=hrd _ _ ho;rw [Rel,ho'] at hx;have hncl:cells.length=m*ei.size:=by rw [<-dW _ _ hc1];exact hc2
    have hnm2:(n+m)*ei.size=n*ei.size+m*ei.size:=Nat.add_mul _ _ _
    -- the row used up,its first part and the new cells under the new name
    have main:n*ei.size<=cs.length->∀C,C=cs.take (n*ei.size)->∀v' u',wB rd slot e' ei.size ei.bytes m cells n C=some (v',u')->kU P GL E w (Builtin.append_ ats ty args) v' (u'++[(r,.dead)]):=fun htop C hC v' u' hnew=>by
     have hCl:C.length=n*ei.size:=by rw [hC,List.length_take];omega
     obtain ⟨k1,k2,k3,rfl,rfl⟩:=mg hnew;have hslot:=hsl k1;have hne:r≠slot:=fun e0=>by rw [e0,hslot] at ho';cases ho'
     -- a new block,the old row used up
     have viaNew:∀ {uv w' E'},(Builtin.append_ ats ty args).run P w = .ok uv w'->Goes GL E w [(slot,.data e' ei.size (C++cells) true)] E' w'->Rel E' (.sl slot 0 (n+m) none) uv->kU P GL E w (Builtin.append_ ats ty args) (.sl slot 0 (n+m) none) ([(slot,.data e' ei.size (C++cells) true)]++[(r,.dead)]):=fun {uv w' E'} r1 r2 r3=>by
      have hr':E'.hp r=some (.data e' ei.size cs true):=by rw [r2.hp];simp [dH,eF,Ne.symm hne,ho']
      have hk:=UD r2.h r2.sim hr';refine ⟨uv,w',_,r1,?_,Rel.ext hk.ext _ _ r3⟩;have hall:=r2.trans hk;refine ⟨hall.h,?_,hall.ext,hall.sim,hall.fr⟩;rw [hall.hp];funext q;simp only [dH,List.cons_append,List.nil_append,look];by_cases hq1:slot=q
      ·subst hq1;simp [hne]
      ·by_cases hq2:r=q
       ·subst hq2;simp [hq1]
       ·simp [hq1,hq2]
     rcases hx with ⟨rfl,_,_,A,e1⟩ | ⟨b,z,c',g1,e1,g3,g4,g5,g6⟩
     ·have hcs0:C=[]:=List.eq_nil_of_length_eq_zero (by omega);rw [hcs0] at viaNew ⊢;obtain ⟨uv,w',E',r1,r2,r3⟩:=fromNil A e1 k1 k2 k3;exact viaNew r1 r2 r3
     ·rcases oG hs ho' with ⟨q1,_⟩ | ⟨b',cur,q1,q2,q3,q4,q5⟩
      ·rw [q1] at g1;cases g1
      have hbb:b=b':=by rw [q1] at g1;cases g1;rfl
      subst hbb;have hzc:z=cur.size:=by rw [q1] at g1;cases g1;rfl
      by_cases hroom:n+m<=c'
      ·obtain ⟨w',r1,r2⟩:=DF (ty:=ty) hw hs (H _ _ _ e1) ho' q1 q2 q3 (by omega) hc1 hc2 hlen (hc3 w rfl) hroom (C++cells) (fun j d hd=>by
        by_cases hj:j<C.length
        ·rw [List.getElem?_append_left hj] at hd;refine .inl ⟨.inl (by omega),?_⟩;rw [hC,List.getElem?_take] at hd;split at hd
         ·exact hd
         ·cases hd
        ·rw [List.getElem?_append_right (by omega)] at hd;have:=(List.getElem?_eq_some_iff.1 hd).1;exact .inr ⟨by omega,by omega,by rw [<-hCl];exact hd⟩)
       have hr':(nS E r (.data e' ei.size (C++cells) true) w'.heap).hp r=some (.data e' ei.size (C++cells) true):=by simp [nS,dH,eF]
       have hsn:(nS E r (.data e' ei.size (C++cells) true) w'.heap).hp slot=none:=by simp [nS,dH,eF,hne,hslot]
       have hmv:=Ip r2.h r2.sim hr' hsn;have hall:=r2.trans hmv;refine ⟨_,w',_,r1,⟨hall.h,?_,hall.ext,hall.sim,hall.fr⟩,?_⟩
       ·rw [hall.hp];funext q;simp only [dH,List.cons_append,List.nil_append,look];by_cases hq1:slot=q
        ·subst hq1;simp
        ·by_cases hq2:r=q
         ·subst hq2;simp [hq1]
         ·simp [hq1,hq2]
       ·rw [Rel];have e2:(kZ (nS E r (.data e' ei.size (C++cells) true) w'.heap) r slot (.data e' ei.size (C++cells) true)).hp slot=some (.data e' ei.size (C++cells) true):=by simp [kZ,dH,look]
        have e3:(kZ (nS E r (.data e' ei.size (C++cells) true) w'.heap) r slot (.data e' ei.size (C++cells) true)).m slot=some (b,z):=by simp [kZ,nS,g1]
        rw [e2];exact .inr ⟨b,z,c',e3,rfl,hroom,g4,g5,g6⟩
      ·have q3':eu E.h E.X C b 0:=by rw [hC];exact jf _ _ _ _ q3
       obtain ⟨vs,p1,p2⟩:=iK C b 0 q3';have hvl:vs.length=n*ei.size:=by rw [dW _ _ p1];exact hCl
       obtain ⟨uv,w',E',r1,r2,r3⟩:=uK (ty:=ty) hw hs hslot (H _ _ _ e1) p1 hvl (fun w' hw'=>run_firstCells_some w' ei.size n _ n c' vs hvl (fun j v hv=>by rw [addr_add,ou,hw',hw];exact p2 j v hv)) hc1 hc2 hlen hc3 (by omega) hp k2 k3;exact viaNew r1 r2 r3
    split at h
    ·rename_i htop;split at h
     ·rename_i v' u' hnew;simp only [Option.some.injEq,Prod.mk.injEq] at h;obtain ⟨rfl,rfl⟩:=h;exact main (by omega) cs (by rw [htop,List.take_length]) _ _ hnew
     ·cases h
    ·rename_i htop;split at h
     ·rename_i hfit;split at h
      ·rename_i v' u' hnew;simp only [Option.some.injEq,Prod.mk.injEq] at h;obtain ⟨rfl,rfl⟩:=h;exact main hfit _ rfl _ _ hnew
      ·cases h
     ·cases h
   ·cases h
  ·cases h
 ·cases h
theorem UH (hw:w.heap=E.h) (hs:eX GL E) {r:Nat} {o:AO} (hr:E.hp r=some o):Goes GL E w [(r,o)] E w:=by
 refine ⟨hw,?_,Ext.refl _,hs,mX.refl _ _⟩;funext q;simp only [dH,eF];by_cases h:r=q
 ·subst h;simp [hr]
 ·simp [h]
theorem UJ (hw:w.heap=E.h) (hs:eX GL E) (hrd:∀r o,rd r=some o->E.hp r=some o) {ats:Array TypeId} {ty:Nat} {args:Array Value} {t e e' s:TypeId} {ei:TI} {xv dv:Value} (a0:ats[0]? = some t) (b0:args[0]? = some dv) (b1:args[1]? = some xv) (ht:P.underlying t=some (.slice e)) (hei:aO P e=some ei)
 {r off n:Nat} {cap:Option Nat} (hx:Rel E (.sl r off n cap) dv) {cs:List DV} (ho:rd r=some (.data e' s cs true)) (hse:s=ei.size) (hfit:off+n*s<=cs.length) {y:AV} (hy:Rel E y xv) {cells:List DV} {m:Nat} (h:uy rd ei.size y=some (cells,m)) :
 kU P GL E w (Builtin.copy_ ats ty args) (dG .i64 (Nat.min m n)) [(r,.data e' s (splice cs off (cells.take (Nat.min m n*s))) true)]:=by
 subst hse;obtain ⟨news,n1,n2,n3,n4,_⟩:=zY (P:=P) hw hs hrd hy h;have ho':=hrd _ _ ho;have hk:Nat.min m n<=m:=Nat.min_le_left _ _;have hk2:Nat.min m n<=n:=Nat.min_le_right _ _;have hf:=n4 (Nat.min m n) w hk rfl;have hrun:∀(A:Option Addr) (c:Nat) (w':World),dv = .slice A n c->(∀a,A=some a->(storeCells a (news.take (Nat.min m n*ei.size))).run P w = .ok () w')->(A=none->w'=w)->(Builtin.copy_ ats ty args).run P w = .ok (.int .i64 (Nat.min m n)) w':=fun A c w' hA hst hn=>by
  subst hA;cases A with
  | none =>
    obtain rfl:=hn rfl;simp [Builtin.copy_,a0,b0,b1,run_underlying ht,n2,run_sizeOf hei,hf,goInt]
  | some a =>
    simp [Builtin.copy_,a0,b0,b1,run_underlying ht,n2,run_sizeOf hei,hf,hst a rfl,goInt]
 have hint:∀E':En,Rel E' (dG .i64 (Nat.min m n)) (.int .i64 (Nat.min m n)):=fun E'=>by rw [dG,Rel,bZ];exact ⟨rfl,rfl⟩
 rw [Rel,ho'] at hx;rcases hx with ⟨rfl,_,_,A,e1⟩ | ⟨b,z,c,g1,e1,g3,g4,g5,g6⟩
 ·have hm:Nat.min m 0=0:=Nat.min_zero m;rw [hm] at hrun hint ⊢;have hsame:splice cs off (cells.take (0*ei.size))=cs:=by rw [Nat.zero_mul,List.take_zero,uD]
  rw [hsame];exact ⟨_,w,E,hrun A 0 w e1 (fun a _=>by simp [storeCells,go_sem]) (fun _=>rfl),UH hw hs ho',hint E⟩
 ·rcases oG hs ho' with ⟨q1,_⟩ | ⟨b',cur,q1,q2,q3,q4,q5⟩
  ·rw [q1] at g1;cases g1
  have hbb:b=b':=by rw [q1] at g1;cases g1;rfl
  subst hbb;have hcl:=wL (r:=r) (s:=ei.size) q2 q3;have hkn:Nat.min m n*ei.size<=n*ei.size:=Nat.mul_le_mul_right _ hk2;have hkm:Nat.min m n*ei.size<=m*ei.size:=Nat.mul_le_mul_right _ hk;have hnl:(news.take (Nat.min m n*ei.size)).length=Nat.min m n*ei.size:=by rw [List.length_take,n3];exact Nat.min_eq_left hkm
  have hcls:(cells.take (Nat.min m n*ei.size)).length=Nat.min m n*ei.size:=by rw [List.length_take,<-dW _ _ n1,n3];exact Nat.min_eq_left hkm
  have hd:=Fb (Nat.min m n*ei.size) n1;generalize hK:Nat.min m n*ei.size=K at *
  have hbw:w.heap[b]? = some (.cells cur e'):=by rw [hw];exact q2
  have hst:=run_storeCells_at P b off e' (news.take K) 0 cur w hbw (by omega) (tq hd);simp only [Nat.add_zero] at hst;have hcul:cur.toList.length=cur.size:=Array.length_toList;have hsize:(cur.toList.take off++news.take K++cur.toList.drop (off+(news.take K).length)).toArray.size=cur.size:=by
   simp only [List.size_toArray,List.length_append,List.length_drop];rw [List.length_take,hnl];omega
  refine ⟨_,_,_,hrun _ c _ e1 (fun a ha=>by cases ha;exact hst) (fun h=>by cases h),wG hw hs ho' rfl q1 (o' := .data e' ei.size (splice cs off (cells.take K)) true) ⟨rfl,rfl⟩ q2 hsize ⟨rfl,fun j d hj => ?_⟩ (setRow_heap w b cur _ e' _ hbw) (fun k hk=>setRow_other w b k _ hk) (setRow_size _ _ _) rfl rfl rfl,hint _⟩;rcases wH cs off _ j d (by omega) hj with ⟨h1,h2⟩ | ⟨h1,h2,h3⟩
  ·obtain ⟨v,k1,k2⟩:=oN cs b 0 j d q3 h2;rw [Nat.zero_add,jk q2] at k1;refine ⟨v,?_,k2⟩;have hjc:j<cur.size:=(Array.getElem?_eq_some_iff.1 k1).1;simp only [List.getElem?_toArray];rcases h1 with h1 | h1
   ·rw [List.append_assoc,List.getElem?_append_left (by rw [List.length_take];omega),List.getElem?_take,if_pos h1];simpa using k1
   ·have e3:(cur.toList.take off++news.take K).length=off+K:=by rw [List.length_append,hnl,List.length_take];omega
    rw [List.getElem?_append_right (by omega),e3,List.getElem?_drop,hnl];rw [show off+K+(j-(off+K))=j from by omega];simpa using k1
  ·obtain ⟨v,k1,k2⟩:=l9 _ _ _ _ hd h3;refine ⟨v,?_,k2⟩;simp only [List.getElem?_toArray];have e3:(cur.toList.take off).length=off:=by rw [List.length_take];omega
   rw [List.append_assoc,List.getElem?_append_right (by omega),e3,List.getElem?_append_left (by omega)];exact k1
theorem zZ {h:Array Obj} {X:Nat->Prop}:∀ {cells:List DV} {news:List Value} {l:List UInt8},lq cells=some l->dV h X cells news->∃ns:List Int,news=ns.map (Value.int .u8)/\l=ns.map fun n=>UInt8.ofNat n.toNat
 | [],news,l,hb,hr=>by
   simp only [lq,Option.some.injEq] at hb;exact ⟨[],hr,hb.symm⟩
 | x::cells,news,l,hb,hr=>by
   obtain ⟨v,vs,rfl,h1,h2⟩:=hr;simp only [lq] at hb;split at hb
   ·rename_i b l' hb1 hb2;simp only [Option.some.injEq] at hb;subst hb;obtain ⟨ns,rfl,rfl⟩:=zZ hb2 h2;unfold u8D at hb1;split at hb1
    ·rename_i n;simp only [Option.some.injEq] at hb1;subst hb1;rw [bZ] at h1;exact ⟨n::ns,by rw [h1.1];rfl,rfl⟩
    ·cases hb1
   ·cases hb
theorem fold_push:∀(ns:List Int) (s:ByteArray),ns.foldl (fun r n=>r.push (UInt8.ofNat n.toNat)) s=⟨s.data++(ns.map fun n=>UInt8.ofNat n.toNat).toArray⟩
 | [],s=>by simp
 | n::ns,s=>by
   rw [List.foldl_cons,fold_push ns];simp [ByteArray.push]
theorem UK (hw:w.heap=E.h) (hs:eX GL E) (hrd:∀r o,rd r=some o->E.hp r=some o) {src dst e:Nat} {si di ei:TI} (h1:aO P src=some si) (h2:aO P dst=some di) (k1:si.k = .slice e) (k2:di.k = .str) (h3:aO P e=some ei) (k3:ei.k = .int .u8)
 {y:AV} {u:Value} (hy:Rel E y u) (hns:isStr y=false) {cells:List DV} {m:Nat} (h:uy rd 1 y=some (cells,m)) {l:List UInt8} (hb:lq cells=some l):(convert src dst u).run P w = .ok (.string ⟨l.toArray⟩) w:=by
 obtain ⟨news,n1,n2,n3,n4,n5⟩:=zY (P:=P) hw hs hrd hy h;obtain ⟨ns,rfl,rfl⟩:=zZ hb n1;obtain ⟨d1,hd1,q1⟩:=aP h1;obtain ⟨d2,hd2,q2⟩:=aP h2;obtain ⟨d3,hd3,q3⟩:=aP h3;rw [k1] at q1;rw [k2] at q2;rw [k3] at q3;cases d1<;>simp only [fF] at q1<;>try (cases q1;done)
 cases d2<;>simp only [fF] at q2<;>try (cases q2;done)
 cases d3<;>simp only [fF] at q3<;>try (cases q3;done)
 simp only [AT.slice.injEq] at q1;subst q1;simp only [AT.int.injEq] at q3;subst q3;rcases n5 with ⟨A,c,rfl⟩ | ⟨b,rfl⟩
 ·rw [run_convert_bytes_string w src dst e A m c hd1 hd3 hd2];have hf:=n4 m w (Nat.le_refl _) rfl;rw [List.take_of_length_le (by omega)] at hf;cases A with
  | none =>
    simp only [Builtin.firstCells,Sem.run_pure,Result.ok.injEq,and_true] at hf;have:ns=[]:=by
     have:=congrArg Array.size hf;simp at this;exact List.eq_nil_of_length_eq_zero this.symm
    subst this;simp [Conv.bytesToString];rfl
  | some a =>
    simp only [Builtin.firstCells,Nat.mul_one] at hf;rw [run_bytesToString w a m c ns hf,fold_push];have he0:ByteArray.empty.data = #[]:=rfl;rw [he0];simp
 ·cases hns
def OT (E:En) (r b:Nat) (h:Array Obj):En:={E with hp:=dH E.hp [(r,.dead)],X:=fun k=>E.X k/\k≠b,h:=h}
theorem LZ {h h':Array Obj} {b e:Nat} {cur:Array Value} (hb:h[b]? = some (.cells cur e (0,0))) (h1:h'=h.modify b fun | .cells c elem _ => .cells c elem (cur.size,cur.size+1) | o=>o) (k o:Nat):je h' k o=je h k o:=by
 unfold je;rw [h1,Array.getElem?_modify];by_cases hk:b=k
 ·subst hk;rw [if_pos rfl,hb];rfl
 ·rw [if_neg hk]
theorem RG (hw:w.heap=E.h) {b e:Nat} {cur:Array Value} (hb:E.h[b]? = some (.cells cur e (0,0))):(w.freeze ⟨b,cur.size,none⟩ 1).heap=E.h.modify b fun | .cells c elem _ => .cells c elem (cur.size,cur.size+1) | o=>o:=by
 unfold World.freeze;simp only [Nat.one_ne_zero,if_false];rw [hw];apply Array.ext_getElem?;intro i;rw [Array.getElem?_modify,Array.getElem?_modify];by_cases hi:b=i
 ·subst hi;rw [if_pos rfl,if_pos rfl,hb];rfl
 ·rw [if_neg hi,if_neg hi]
theorem XH (hw:w.heap=E.h) (hs:eX GL E) {r b:Nat} {e s:Nat} {cs:List DV} {cur:Array Value} (hr:E.hp r=some (.data e s cs true)) (hm:E.m r=some (b,cur.size)) (hb:E.h[b]? = some (.cells cur e (0,0))) (hX:E.X b) {w':World} (h1:w'.heap=E.h.modify b fun | .cells c elem _ => .cells c elem (cur.size,cur.size+1) | o=>o) (h2:w'.os=w.os/\w'.tape=w.tape/\w'.output=w.output) :
 Goes GL E w [(r,.dead)] (OT E r b w'.heap) w':=by
 have hcell:∀k o,je w'.heap k o=je E.h k o:=LZ hb h1;have hoth:∀k,k≠b->w'.heap[k]? = E.h[k]? := fun k hk=>by rw [h1,Array.getElem?_modify,if_neg (fun e=>hk e.symm)]
 have hhp:∀q,q≠r->(OT E r b w'.heap).hp q=E.hp q:=fun q hq=>by simp only [OT,dH,eF];rw [if_neg (fun e=>hq e.symm)]
 have hhr:(OT E r b w'.heap).hp r=some .dead:=by simp [OT,dH,eF]
 have hex:Ext E (OT E r b w'.heap):=by
  refine ⟨fun k o u hx hc=>⟨fun h=>hx h.1,(hcell k o).trans hc⟩,fun q ob he => ?_⟩;by_cases hq:q=r
  ·subst hq;exact ⟨.dead,hhr,by cases ob<;>exact trivial,.inl rfl⟩
  ·exact ⟨ob,(hhp q hq).trans he,ob.like_refl,.inr rfl⟩
 have hmm:∀q ob,(OT E r b w'.heap).hp q=some ob->ob ≠ .dead->q≠r/\E.hp q=some ob:=fun q ob he hd=>by
  by_cases hq:q=r
  ·subst hq;rw [hhr] at he;cases he;exact (hd rfl).elim
  ·exact ⟨hq,(hhp q hq).symm.trans he⟩
 have nd:∀ob:AO,ob.mutB=true->ob ≠ .dead:=fun ob h e=>by rw [e] at h;cases h
 have apart:∀q ob z,q≠r->E.hp q=some ob->ob ≠ .dead->E.m q=some (b,z)->False:=fun q ob z hq ho hd hz=>by
  cases hmu:ob.mutB with
  | true=>exact hq (hs.inj q r ob _ b z cur.size ho hr hmu rfl hz hm)
  | false =>
    cases ob with
    | dead=>exact hd rfl
    | mix cs=>cases hmu
    | mp kk ks vs=>cases hmu
    | data e2 s2 cs2 m2 =>
      have:m2=false:=hmu;subst this;rcases hs.ob q _ ho with ⟨q1,q2⟩ | ⟨b',cur',q1,q2,q3,q4,q5⟩
      ·rw [q1] at hz;cases hz
      ·rw [q1] at hz;cases hz;simp only [Bool.false_eq_true,if_false] at q4;exact q4 hX
 refine ⟨rfl,rfl,hex,⟨fun q ob he => ?_,fun q q' ob ob' b1 z1 z2 e1 e2 e3 e4 e5 e6 => ?_,fun g cells hg => ?_⟩,⟨h2.1,h2.2.1,h2.2.2,by rw [hw,h1,Array.size_modify];exact Nat.le_refl _,fun k hk hm' => ?_,fun k ⟨q,ob,z1,e1,e2,e3⟩ => ?_,fun k hk => .inl hk.1,fun k _ hx hm'=>⟨hx,fun e=>hm' (by subst e;exact ⟨r,_,_,hr,rfl,hm⟩)⟩⟩⟩
 ·by_cases hd:ob = .dead
  ·subst hd;exact trivial
  ·obtain ⟨hq,he'⟩:=hmm q ob he hd;refine qY.ext hex (hs.ob q ob he') (.inr rfl) (fun b2 z hz=>hoth b2 fun e => ?_) (fun b2 z hz => ?_)
   ·subst e;exact apart q ob z hq he' hd hz
   ·show E.X b2/\b2≠b↔E.X b2;exact ⟨fun h=>h.1,fun h=>⟨h,fun e=>by subst e;exact apart q ob z hq he' hd hz⟩⟩
 ·exact hs.inj q q' ob ob' b1 z1 z2 (hmm q ob e1 (nd _ e3)).2 (hmm q' ob' e2 (nd _ e4)).2 e3 e4 e5 e6
 ·rcases hs.gl g cells hg with g0 | ⟨g1,g2⟩
  ·exact .inl g0
  ·exact jQ hex.sub cells g 0 g1 g2
 ·rw [hw];exact hoth k fun e=>hm' (by subst e;exact ⟨r,_,_,hr,rfl,hm⟩)
 ·exact .inl ⟨q,ob,z1,(hmm q ob e1 (nd _ e2)).2,e2,e3⟩
theorem XI (hw:w.heap=E.h) (hs:eX GL E) {src e:Nat} {si ei:TI} (h1:aO P src=some si) (k1:si.k = .slice e) (h3:aO P e=some ei) (k3:ei.k = .int .u8) {r off n:Nat} {cap:Option Nat} {e0:Nat} {cs:List DV} (hr:E.hp r=some (.data e0 1 cs true)) (hn:0<n) {o:Oper} {u:Value} (hu:Rel E (.sl r off n cap) u)
 (he:execOp ev o=(do pure (Next.value (<-convert src src u)))):Ends P GL E w (execOp ev o) (.d (.dl ((cs.drop off).take n) n cap)) [(r,.dead)]:=by
 obtain ⟨d1,hd1,q1⟩:=aP h1;obtain ⟨d3,hd3,q3⟩:=aP h3;rw [k1] at q1;rw [k3] at q3;cases d1<;>simp only [fF] at q1<;>try (cases q1;done)
 cases d3<;>simp only [fF] at q3<;>try (cases q3;done)
 simp only [AT.slice.injEq] at q1;subst q1;simp only [AT.int.injEq] at q3;subst q3;rw [Rel,hr] at hu;rcases hu with ⟨hn0,_⟩ | ⟨b,z,c,g1,rfl,g3,g4,g5,g6⟩
 ·omega
 rcases hs.ob r _ hr with ⟨q1,q2⟩ | ⟨b',cur,q1,q2,q3,q4,q5⟩
 ·rw [q1] at g1;cases g1
 rw [q1] at g1;cases g1;simp only [if_true] at q4;have hrun:(convert src src (.slice (some ⟨b,off,none⟩) n c)).run P w = .ok (.slice (some ⟨b,off,none⟩) n c) (w.freeze ⟨b,cur.size,none⟩ 1):=by
  have hsh:w.shape? b=some (e0,cur.size):=by unfold World.shape?;rw [hw,q2]
  simp [convert,go_sem,run_underlying hd1,run_underlying hd3,markStringish,shape,freeze,Sem.run,hsh]
 have hgo:=XH hw hs hr q1 q2 q4 (w':=w.freeze ⟨b,cur.size,none⟩ 1) (RG hw q2) ⟨rfl,rfl,rfl⟩;refine ⟨_,_,_,_,OH he hrun,.inl rfl,hgo,?_⟩;rw [Rel,bZ];refine ⟨_,c,rfl,g3,g4,fun k hk => ?_,.inr ⟨b,off,rfl,fun hx=>hx.2 rfl,?_⟩⟩
 ·subst hk;exact g6
 ·have hd:=jf n _ _ _ (jR off _ _ _ q3);rw [Nat.zero_add] at hd;exact eu.at_ hgo.ext.sub _ _ _ (fun i u _ hu=>by rw [<-hu];exact LZ q2 (RG hw q2) _ _) hd
theorem mD {s:Sem Value} {o:Oper} (he:execOp ev o=(do pure (Next.value (<-s)))) {v:AV} {us:List (Nat×AO)} (h:kU P GL E w s v us):Ends P GL E w (execOp ev o) v us:=by
 obtain ⟨uv,w',E',h1,h2,h3⟩:=h;exact ⟨_,w',E',uv,OH he h1,.inl rfl,h2,h3⟩
theorem qc (hw:w.heap=E.h) (hs:eX GL E) {o:Oper} {v:AV} {u:Value} (h:(execOp ev o).run P w = .ok (.value u) w) (hr:Rel E v u):Ends P GL E w (execOp ev o) v [] :=
 ⟨_,w,E,u,h,.inl rfl,Goes.refl hw hs,hr⟩
theorem wM {c:Call} {dst:Option Tmp} {type:TypeId} {pos:String} {after:Array Edge} {guard:Option (Nat×Bool)} {b:Builtin} (hb:c.callee = .builtin b):execOp ev ⟨dst,.call c,type,pos,after,guard⟩=builtin b c.argTypes type (c.args.map fun | .const _=>true | _=>false) (c.args.map ev):=by
 simp only [execOp,resolve,hb];rfl
set_option maxHeartbeats 2000000 in
theorem XJ (hw:w.heap=E.h) (hs:eX GL E) (hrd:∀r o,rd r=some o->E.hp r=some o) (hsl:rd slot=none->E.hp slot=none) (hρ:∀x,Rel E (ρ x) (ev x)) {o:Oper} {v:AV} {us:List (Nat×AO)} (h:zL (aO P) rd slot o ρ=some (v,us)):Ends P GL E w (execOp ev o) v us:=by
 have hk:=qy hrd;obtain ⟨dst,op,type,pos,after,guard⟩:=o;unfold zL at h;cases op<;>simp only at h<;>try (cases h;done)
 case alloc t =>
  split at h
  ·rename_i i hi;split at h
   ·cases h
   ·rename_i hn;simp only [Option.some.injEq,Prod.mk.injEq] at h;obtain ⟨rfl,rfl⟩:=h;exact OJ hw hs (hsl (by simpa using hn)) hi rfl
  ·cases h
 case box t x =>
  split at h
  ·cases h
  ·rename_i hn;split at h
   ·rename_i hv;simp only [Option.some.injEq,Prod.mk.injEq] at h;obtain ⟨rfl,rfl⟩:=h;refine LW hw hs (hsl (by simpa using hn)) (t:=t) (cur:=(ev x).cells) (yg hk hv (hρ x)) ?_;simp only [execOp,Instr.box,Sem.run_bind,Result.andThen_ok,newVar,uG,Sem.run_pure]
   ·cases h
 case buildSlice t n parts =>
  split at h
  ·rename_i i hi;split at h
   ·rename_i e hke;split at h
    ·rename_i ei hei;split at h
     ·cases h
     ·rename_i hc;simp only [not_or,Bool.not_eq_false] at hc;obtain ⟨c1,c2,c3,c4⟩:=hc;split at h
      ·rename_i cells hcells;split at h
       ·rename_i cs us' ha;simp only [Option.some.injEq,Prod.mk.injEq] at h;obtain ⟨rfl,rfl⟩:=h;exact OL hw hs (hsl (by simpa using c1)) hrd hρ hi hke hei (by omega) (Nat.pos_of_ne_zero c3) parts (fun p hp=>List.all_eq_true.1 c4 p hp) hcells ha rfl
       ·cases h
      ·cases h
    ·cases h
   ·cases h
  ·cases h
 case load t x =>
  have hx:=hρ x;split at h
  ·rename_i i hi;split at h
   ·rename_i r off e1;rw [e1] at hx;split at h
    ·rename_i e s cs wr ho;simp only [Option.map_eq_some_iff] at h;obtain ⟨v',hv,hh⟩:=h;cases hh;have ho':=hrd _ _ ho;rw [Rel,ho'] at hx;obtain ⟨b,z,g1,g2⟩:=hx;rcases oG hs ho' with ⟨q1,_⟩ | ⟨b',cur,q1,q2,q3,_⟩
     ·rw [q1] at g1;cases g1
     ·have hbb:b=b':=by rw [q1] at g1;cases g1;rfl
      subst hbb;obtain ⟨u,hu,hr⟩:=BD (P:=P) hw hi q3 hv;exact qc hw hs (iy (s:=Instr.loadAt t (ev x)) rfl (by rw [g2];rw [Nat.zero_add] at hu;exact hu)) hr
    ·rename_i cs ho;simp only [Option.map_eq_some_iff] at h;obtain ⟨v',hv,hh⟩:=h;cases hh;have ho':=hrd _ _ ho;rw [Rel,ho'] at hx;obtain ⟨b,z,g1,g2⟩:=hx;obtain ⟨b',cur,t0,q1,q2,q3⟩:=OM hs ho';have hbb:b=b':=by rw [q1] at g1;cases g1;rfl
     subst hbb;obtain ⟨u,hu,hr⟩:=Ir (P:=P) hw hi q2 q3 hv;exact qc hw hs (iy (s:=Instr.loadAt t (ev x)) rfl (by rw [g2];exact hu)) hr
    ·cases h
   ·rename_i cells off e1;split at h
    ·cases h
    rename_i hne;simp only [Option.map_eq_some_iff] at h;obtain ⟨v',hv,hh⟩:=h;cases hh;rw [e1,Rel] at hx;obtain ⟨b,o,g1,g2⟩:=hx;rcases g2 with g2 | ⟨g2,g3⟩
    ·subst g2;simp at hne
    ·obtain ⟨u,hu,hr⟩:=BD (P:=P) hw hi g3 hv;exact qc hw hs (iy (s:=Instr.loadAt t (ev x)) rfl (by rw [g1];exact hu)) hr
   ·cases h
  ·cases h
 case store t x y =>
  split at h
  ·rename_i i hi;split at h
   ·rename_i r off e1;split at h
    ·rename_i cs ho;split at h
     ·rename_i hc;simp only [Option.some.injEq,Prod.mk.injEq] at h;obtain ⟨rfl,rfl⟩:=h;exact OO hw hs hrd hρ hi e1 ho hc.1 hc.2.1 hc.2.2.1 hc.2.2.2 rfl
     ·cases h
    ·rename_i e s cs ho;split at h
     ·rename_i ns us' ha;split at h
      ·rename_i hc;simp only [Option.some.injEq,Prod.mk.injEq] at h;obtain ⟨rfl,rfl⟩:=h;exact Ei hw hs hrd hρ hi e1 ho ha hc.1 hc.2.1 hc.2.2.1 hc.2.2.2 rfl
      ·cases h
     ·cases h
    ·cases h
   ·cases h
  ·cases h
 case makeMap t r =>
  cases r with
  | some r=>cases h
  | none =>
    simp only at h;split at h
    ·cases h
    ·rename_i hn;split at h
     ·simp only [Option.some.injEq,Prod.mk.injEq] at h;obtain ⟨rfl,rfl⟩:=h;exact JC hw hs (hsl (by simpa using hn)) _ rfl
     ·cases h
 case lookup t x y ok =>
  split at h
  ·rename_i kk ei hT;split at h
   ·rename_i r off k n z e1 e2 e3;split at h
    ·rename_i kk' ks vs ho;split at h
     ·rename_i hc;obtain ⟨rfl,rfl⟩:=hc;simp only [Option.some.injEq,Prod.mk.injEq] at h;obtain ⟨rfl,rfl⟩:=h;have hx:=hρ x;have hy:=hρ y;rw [e1] at hx;rw [e2] at hy;obtain ⟨v,v1,v2⟩:=OQ hw hs hT e3 (hrd _ _ ho) hx n ok;exact qc hw hs (iy (s:=Instr.lookup t (ev x) (ev y) ok) rfl (by rw [aQ hy];exact v1)) v2
     ·cases h
    ·cases h
   ·cases h
  ·cases h
 case mapUpdate t x y z =>
  split at h
  ·rename_i kk ei hT;split at h
   ·rename_i r off k n e1 e2;split at h
    ·rename_i kk' ks vs ho;split at h
     ·rename_i hc;obtain ⟨rfl,rfl,hv⟩:=hc;simp only [Option.some.injEq,Prod.mk.injEq] at h;obtain ⟨rfl,rfl⟩:=h;have hx:=hρ x;have hy:=hρ y;rw [e1] at hx;rw [e2] at hy;exact wK hw hs hT (hrd _ _ ho) hx (aQ hy) (hρ z) (.inl rfl)
     ·cases h
    ·cases h
   ·cases h
  ·cases h
 case insert t x y z =>
  split at h
  ·rename_i kk ei hT;split at h
   ·rename_i r off k n e1 e2;split at h
    ·rename_i kk' ks vs ho;split at h
     ·rename_i hc;obtain ⟨rfl,rfl,hv⟩:=hc;simp only [Option.some.injEq,Prod.mk.injEq] at h;obtain ⟨rfl,rfl⟩:=h;have hx:=hρ x;have hy:=hρ y;rw [e1] at hx;rw [e2] at hy;exact wK hw hs hT (hrd _ _ ho) hx (aQ hy) (hρ z) (.inr rfl)
     ·cases h
    ·cases h
   ·cases h
  ·cases h
 case makeSlice t l c =>
  split at h
  ·rename_i i hi;split at h
   ·rename_i e hke;split at h
    ·rename_i ei hei;split at h
     ·rename_i k1 n k2 k e1 e2;split at h
      ·cases h
      ·rename_i hn;split at h
       ·rename_i hc;simp only [Option.some.injEq,Prod.mk.injEq] at h;obtain ⟨rfl,rfl⟩:=h;exact UF hw hs (hsl (by simpa using hn)) hρ hi hke hei e1 e2 hc.1 hc.2.1 hc.2.2.1 hc.2.2.2.1 hc.2.2.2.2 rfl (fun j hj=>by cases hq:OB l c with | true=>rw [hq] at hj;cases hj;rfl | false=>rw [hq] at hj;cases hj)
       ·cases h
     ·cases h
    ·cases h
   ·cases h
  ·cases h
 case convert src tgt x =>
  split at h
  ·rename_i si di hsi hdi;split at h
   ·rename_i e k1 k2;split at h
    ·cases h
    ·rename_i hc;simp only [Bool.or_eq_true,Bool.not_eq_true',not_or,Bool.not_eq_true,Bool.not_eq_false] at hc;split at h
     ·rename_i cells m hsrc;split at h
      ·rename_i l hl;simp only [Option.some.injEq,Prod.mk.injEq] at h;obtain ⟨rfl,rfl⟩:=h;have hu8:=hc.2;unfold Bq at hu8;split at hu8
       ·rename_i ei hei;have k3:ei.k = .int .u8:=by
         revert hu8;cases ei.k with
         | int k=>cases k<;>simp
         | _=>simp
        exact qc hw hs (iy (s:=convert src tgt (ev x)) rfl (UK hw hs hrd hsi hdi k1 k2 hei k3 (hρ x) hc.1 hsrc hl)) (by rw [Rel,bZ];exact ⟨rfl,rfl⟩)
       ·cases hu8
      ·cases h
     ·cases h
   ·rename_i e0 e k1 k2;split at h
    ·rename_i hc;obtain ⟨rfl,hu8⟩:=hc;split at h
     ·rename_i r off n cap hx;split at h
      ·rename_i e1 s cs hr;split at h
       ·rename_i hc2;obtain ⟨rfl,hn⟩:=hc2;simp only [Option.some.injEq,Prod.mk.injEq] at h;obtain ⟨rfl,rfl⟩:=h;unfold Bq at hu8;split at hu8
        ·rename_i ei hei;have k3:ei.k = .int .u8:=by
          revert hu8;cases ei.k with
          | int k=>cases k<;>simp
          | _=>simp
         have hxr:=hρ x;rw [hx] at hxr;exact XI hw hs hdi k2 hei k3 (hrd _ _ hr) hn hxr rfl
        ·cases hu8
       ·cases h
      ·cases h
     ·cases h
    ·cases h
   ·cases h
  ·cases h
 case call c =>
  split at h
  ·rename_i hb;split at h
   ·rename_i x y i j harg hi hj;have hL:=mW ρ ev hρ c.args.toList;rw [harg,aG] at hL;obtain ⟨dv,r1,e0,hx,hr1⟩:=hL;rw [aG] at hr1;obtain ⟨xv,r2,rfl,hy,hr2⟩:=hr1;rw [aG] at hr2;subst hr2;have b0:(c.args.map ev)[0]? = some dv:=by rw [<-Array.getElem?_toList,Array.toList_map,e0];rfl
    have b1:(c.args.map ev)[1]? = some xv:=by rw [<-Array.getElem?_toList,Array.toList_map,e0];rfl
    simp only [Option.bind_eq_some_iff] at hi hj;obtain ⟨t,a0,hi⟩:=hi;obtain ⟨u,a1,hj⟩:=hj;obtain ⟨d,hd,hkd⟩:=aP hi;obtain ⟨du,hdu,hkdu⟩:=aP hj;split at h
    ·rename_i hok;split at h
     ·rename_i e hke;rw [hke] at hkd;cases d<;>simp only [fF] at hkd<;>try (cases hkd;done)
      simp only [AT.slice.injEq] at hkd;subst hkd;split at h
      ·rename_i ei hei;split at h
       ·rename_i cells m hsrc;split at h
        ·rename_i hp;obtain ⟨news,n1,n2,n3,n4,_⟩:=zY (P:=P) hw hs hrd hy hsrc;have happ:=LY (P:=P) (ats:=c.argTypes) (ty:=type) (args:=c.args.map ev) hw hs hrd hsl (fun A n cc hA=>⟨a0,a1,by rw [b0,hA],b1,hd,⟨du,hdu,by rw [<-hkdu];exact hok⟩,hei⟩) hx hp n1 n3 n2 (fun w' hw'=>by
          have:=n4 m w' (Nat.le_refl _) hw'
          rwa [List.take_of_length_le (by omega)] at this) h
         refine mD (s:=Builtin.append_ c.argTypes type (c.args.map ev)) ?_ happ;rw [wM hb];rfl
        ·cases h
       ·cases h
      ·cases h
     ·cases h
    ·cases h
   ·cases h
  ·rename_i hb;split at h
   ·rename_i r off n cap y i harg hi;have hL:=mW ρ ev hρ c.args.toList;rw [harg,aG] at hL;obtain ⟨dv,r1,e0,hx,hr1⟩:=hL;rw [aG] at hr1;obtain ⟨xv,r2,rfl,hy,hr2⟩:=hr1;rw [aG] at hr2;subst hr2;have b0:(c.args.map ev)[0]? = some dv:=by rw [<-Array.getElem?_toList,Array.toList_map,e0];rfl
    have b1:(c.args.map ev)[1]? = some xv:=by rw [<-Array.getElem?_toList,Array.toList_map,e0];rfl
    simp only [Option.bind_eq_some_iff] at hi;obtain ⟨t,a0,hi⟩:=hi;obtain ⟨d,hd,hkd⟩:=aP hi;split at h
    ·rename_i e hke;rw [hke] at hkd;cases d<;>simp only [fF] at hkd<;>try (cases hkd;done)
     simp only [AT.slice.injEq] at hkd;subst hkd;split at h
     ·rename_i ei hei;split at h
      ·rename_i cells m e' s cs hsrc ho;split at h
       ·rename_i hc;simp only [Option.some.injEq,Prod.mk.injEq] at h;obtain ⟨rfl,rfl⟩:=h;refine mD (s:=Builtin.copy_ c.argTypes type (c.args.map ev)) ?_ (UJ hw hs hrd a0 b0 b1 hd hei hx ho hc.1 hc.2 hy hsrc);rw [wM hb];rfl
       ·cases h
      ·cases h
     ·cases h
    ·cases h
   ·cases h
  ·cases h
end
theorem Fe {h:Array Obj} {X:Nat->Prop}:∀(l:List Value),(∀u∈l,u.oneCell'=true)->dV h X ((l.map DV.val).map sU) l
 | [],_=>rfl
 | u::l,h1=>⟨u,l,rfl,Bz (x := .val u) (by simp only [bZ,true_and];exact h1 u List.mem_cons_self),Fe l fun v hv=>h1 v (List.mem_cons_of_mem _ hv)⟩
theorem DI {h:Array Obj} {X:Nat->Prop} (z:Array Value) (s:Nat) (hz:z.size=s) (hp:0<s) (h1:∀u∈z.toList,u.oneCell'=true) (n:Nat):dV h X (nO n ((z.toList.map DV.val).map sU)) (Builtin.zeroCells z n).toList:=by
 have e:(Builtin.zeroCells z n).toList=(List.replicate n z.toList).flatten:=by
  unfold Builtin.zeroCells;have:=BF z s hz hp n;rw [<-hz] at this;exact this
 rw [e];clear e
 induction n with
 | zero=>rfl
 | succ n ih =>
   rw [nO,List.replicate_succ,List.flatten_cons];exact mY (Fe _ h1) ih
section
variable {P:Program} {GL:Nat->Option (List DV)} {E:En} {rd:Nat->Option AO} {slot:Nat} {ρ:Operand->AV} {ev:Operand->Value} {w:World}
theorem Fg (hw:w.heap=E.h) (hs:eX GL E) (hn:E.hp slot=none) {e:TypeId} {ei:TI} {n c m:Nat} {old cells:List DV} {olds news:List Value} (ho1:dV E.h E.X old olds) (ho2:olds.length=n*ei.size)
 (hc1:dV E.h E.X cells news) (hc2:news.length=m*ei.size) (hp:0<ei.size) (h2:n+m<=maxLen) {z:Value} (z2:z.cells.size=ei.size) {s:Sem Value}
 (hrun:s.run P w = .ok (.slice (some ⟨w.heap.size,0,none⟩) (n+m) (grownCap w (n+m) c e)) (w.drew.alloc (.cells (olds.toArray++news.toArray++Builtin.zeroCells z.cells (grownCap w (n+m) c e-(n+m))) e))) :
 kU P GL E w s (.sl slot 0 (n+m) none) [(slot,.data e ei.size (old++cells) true)]:=by
 have hge:=grownCap_ge w (n+m) c e;have hle:=grownCap_le_maxLen w (n+m) c e h2;generalize hgc:grownCap w (n+m) c e=cap at *
 have hsz:(olds.toArray++news.toArray++Builtin.zeroCells z.cells (cap-(n+m))).size=cap*ei.size:=by
  simp only [Array.size_append,List.size_toArray,size_zeroCells,z2,ho2,hc2,<-Nat.add_mul];congr 1;omega
 have hds:=mY ho1 hc1;refine ⟨_,_,_,hrun,wF (slot:=slot) hw hs hn (o := .data e ei.size (old++cells) true) ⟨rfl,rfl,fun j x hx => ?_,⟨cap,hsz,hle⟩,hp⟩ rfl rfl rfl rfl,JB hw hge hle hsz.symm (fun k hk=>by cases hk)⟩;obtain ⟨v,k1,k2⟩:=l9 _ _ j x hds hx;refine ⟨v,?_,k2⟩;have hj:j<(olds++news).length:=(List.getElem?_eq_some_iff.1 k1).1;rw [<-Array.getElem?_toList,Array.toList_append,Array.toList_append];rw [List.getElem?_append_left (by exact hj)];exact k1
def JD (P:Program) (w:World) (s:Sem Value) (dv:Value) (e:TypeId) (ei:TI) (m:Nat) (news:List Value):Prop :=
 ∀A n c (olds:List Value),dv = .slice A n c->(∀w':World,w'.heap=w.heap->(Builtin.firstCells ei.size n (.slice A n c)).run P w' = .ok olds.toArray w')->c<n+m->(n+m)*ei.bytes<=140737488355328->n+m<=maxLen ->
  ∃z:Value,z.cells.size=ei.size/\s.run P w = .ok (.slice (some ⟨w.heap.size,0,none⟩) (n+m) (grownCap w (n+m) c e)) (w.drew.alloc (.cells (olds.toArray++news.toArray++Builtin.zeroCells z.cells (grownCap w (n+m) c e-(n+m))) e))
theorem Iy (hw:w.heap=E.h) (hs:eX GL E) (hrd:∀r o,rd r=some o->E.hp r=some o) (hsl:rd slot=none->E.hp slot=none) {e:TypeId} {ei:TI} {dv:Value} {x:AV} (hx:Rel E x dv) {m:Nat} {cells:List DV} {news:List Value} (hp:0<ei.size)
 (hc1:dV E.h E.X cells news) (hc2:news.length=m*ei.size) {s:Sem Value} (hrun:JD P w s dv e ei m news)
 {v:AV} {us:List (Nat×AO)} (h:Ik rd slot e ei.size ei.bytes x cells m=some (v,us)):kU P GL E w s v us:=by
 have zero:∀(A:Option Addr) (w':World),(Builtin.firstCells ei.size 0 (.slice A 0 0)).run P w' = .ok #[] w':=fun A w'=>by
  cases A<;>simp [Builtin.firstCells,loadCells,loadCellsFrom,go_sem]
 have fromNil:∀A,dv = .slice A 0 0->0<m->rd slot=none->(0+m)*ei.bytes<=140737488355328->0+m<=maxLen->kU P GL E w s (.sl slot 0 (0+m) none) [(slot,.data e ei.size ([]++cells) true)]:=fun A hA hm hrs b1 b2=>by
  obtain ⟨z,z2,hr⟩:=hrun A 0 0 [] hA (fun w' _=>zero A w') (by omega) b1 b2;exact Fg hw hs (hsl hrs) (old:=[]) (olds:=[]) rfl (by simp) hc1 hc2 hp b2 z2 hr
 unfold Ik at h;split at h
 ·split at h
  ·rename_i hm;obtain ⟨g1,g2,g3,rfl,rfl⟩:=mg h;exact fromNil none (aQ hx) hm g1 g2 g3
  ·cases h
 ·rename_i r off n c;split at h
  ·rename_i e' s' cs wr ho;split at h
   ·rename_i hes;obtain ⟨rfl,rfl⟩:=hes;have ho':=hrd _ _ ho;rw [Rel,ho'] at hx;split at h
    ·cases h
    ·rename_i hgrow;split at h
     ·rename_i hfit;obtain ⟨k1,k2,k3,rfl,rfl⟩:=mg h;rcases hx with ⟨h0,hcap,_,A,e1⟩ | ⟨b,z,c',g1,e1,g3,g4,g5,g6⟩
      ·subst h0;have hc0:c=0:=by rcases hcap with hcap | hcap<;>cases hcap;rfl
       subst hc0;have:=fromNil A e1 (by omega) k1 k2 k3;simpa using this
      ·have g6':c'=c:=g6;subst g6';rcases oG hs ho' with ⟨q1,_⟩ | ⟨b',cur,q1,q2,q3,q4,q5⟩
       ·rw [q1] at g1;cases g1
       ·have hbb:b=b':=by rw [q1] at g1;cases g1;rfl
        subst hbb;have hd:=jf (n*ei.size) _ _ _ (jR off _ _ _ q3);rw [Nat.zero_add] at hd;obtain ⟨vs,p1,p2⟩:=iK _ b off hd;have hvl:vs.length=n*ei.size:=by rw [dW _ _ p1,List.length_take,List.length_drop];omega
        obtain ⟨z,z2,hr⟩:=hrun _ n c' vs e1 (fun w' hw'=>run_firstCells_some w' ei.size n _ n c' vs hvl (fun j v hv=>by rw [addr_add,ou,hw',hw];exact p2 j v hv)) (by omega) k2 k3;exact Fg hw hs (hsl k1) p1 hvl hc1 hc2 hp k3 z2 hr
     ·cases h
   ·cases h
  ·cases h
 ·cases h
theorem H6 {ats:Array TypeId} {ty:Nat} {args:Array Value} {t u e:TypeId} {ei:TI} {dv:Value} {kn k:IntKind} {m:Nat} (a0:ats[0]? = some t) (a1:ats[1]? = some u) (b0:args[0]? = some dv) (b1:args[1]? = some (.int k m))
 (ht:P.underlying t=some (.slice e)) (hu:P.underlying u=some (.int kn)) (he:aO P e=some ei) (hm:0<m) (hm2:m<=140737488355328) (hp:0<ei.size) {zv:Value} (hz:∀inf:TypeInfo,P.info? e=some inf->inf.zero=some zv) :
 JD P w (Builtin.append_ ats ty args) dv e ei m (Builtin.zeroCells zv.cells m).toList:=fun A n c olds hdv ho hgrow h1 h2=>by
 subst hdv;obtain ⟨inf,d,z,q1,q2,q3,q4,q5,q6,q7,q8,q9⟩:=mV he;have hzz:z=zv:=by have:=hz inf q1;rw [q3] at this;exact Option.some.inj this
 subst hzz;refine ⟨z,by rw [<-Array.length_toList];exact q9,?_⟩;have ho:=ho w.drew rfl;rw [<-q4] at ho hp;have hn:¬(n+m<=c):=by omega
 have hm63:maxLen=9223372036854775807:=rfl;have hwr:IntKind.i64.wrap (m:Int)=m:=IntWalk.i64_in _ ⟨by omega,by omega⟩;have hneg:¬((m:Int)<0):=by omega
 have h63':¬(9223372036854775807<((n:Int)+(m:Int))):=by omega
 have hfit:=growslice_fits (old:=c) hgrow h1;have h48':¬(281474976710656<Builtin.nextslicecap (n+m) c*inf.bytes):=by rw [q5];omega
 have hmb:m*inf.bytes<=140737488355328:=by
  rw [q5];refine Nat.le_trans (Nat.mul_le_mul_right _ ?_) h1;omega
 have h48i:¬(281474976710656<(m:Int)*(inf.bytes:Int)):=by
  rw [<-Int.natCast_mul];omega
 have hm0:m≠0:=by omega
 have hns:¬(m*inf.size=0):=Nat.mul_ne_zero hm0 (by omega);simp [Builtin.append_,a0,a1,b0,b1,run_underlying ht,run_underlying hu,sizeOf,typeInfo,zeroValue,q1,q3,asInt,asIntOf,hwr,hn,hneg,hm0,hns,h63',h48',h48i,Question.forced,ho,newRow,grownCap]<;>simp only [<-Array.append_assoc,List.append_toArray]
theorem OU {ats:Array TypeId} {ty:Nat} {args:Array Value} {t u e:TypeId} {ei:TI} {xv dv:Value} (H:∀A n c,dv = .slice A n c->uJ P ats args t u e ei A n c xv) {m:Nat} {news:List Value} (hlen:(Builtin.lenOf xv).run P w = .ok m w)
 (hc3:∀w':World,w'.heap=w.heap->(Builtin.firstCells ei.size m xv).run P w' = .ok news.toArray w'):JD P w (Builtin.append_ ats ty args) dv e ei m news:=fun A n c olds hdv ho hgrow h1 h2=>by
 obtain ⟨z,z1,z2,hr⟩:=vM (ty:=ty) (H A n c hdv) hlen (hc3 w.drew rfl) (ho w.drew rfl) hgrow h1 h2;exact ⟨z,z2,hr⟩
theorem L6 (hw:w.heap=E.h) (hs:eX GL E) {r e s b off:Nat} {cs:List DV} {cur:Array Value} (ho':E.hp r=some (.data e s cs true)) (q1:E.m r=some (b,cur.size)) (q2:E.h[b]? = some (.cells cur e)) (q3:eu E.h E.X cs b 0) {cells:List DV} {news:List Value} (hd:dV E.h E.X cells news)
 (hoff:off<=cs.length) (hfit:off+news.length<=cur.size) (T:List DV) (hT:∀j d,T[j]? = some d->(j<off/\cs[j]? = some d)\/(off<=j/\cells[j-off]? = some d)):∃w',(storeCells ⟨b,off,none⟩ news).run P w = .ok () w'/\Goes GL E w [(r,.data e s T true)] (nS E r (.data e s T true) w'.heap) w':=by
 have hbw:w.heap[b]? = some (.cells cur e):=by rw [hw];exact q2
 have hst:=run_storeCells_at P b off e news 0 cur w hbw (by omega) (tq hd);simp only [Nat.add_zero] at hst;have hcul:cur.toList.length=cur.size:=Array.length_toList;have hsize:(cur.toList.take off++news++cur.toList.drop (off+news.length)).toArray.size=cur.size:=by
  simp only [List.size_toArray,List.length_append,List.length_drop];rw [List.length_take];omega
 have hcl:=wL (r:=r) (s:=s) q2 q3;refine ⟨_,hst,wG hw hs ho' rfl q1 (o' := .data e s T true) ⟨rfl,rfl⟩ q2 hsize ⟨rfl,fun j d hj => ?_⟩ (setRow_heap w b cur _ e _ hbw) (fun k hk=>setRow_other w b k _ hk) (setRow_size _ _ _) rfl rfl rfl⟩;rcases hT j d hj with ⟨h1,hj⟩ | ⟨h1,hj⟩
 ·obtain ⟨v,k1,k2⟩:=oN cs b 0 j d q3 hj;rw [Nat.zero_add,jk q2] at k1;refine ⟨v,?_,k2⟩;have hjc:j<cur.size:=(Array.getElem?_eq_some_iff.1 k1).1;simp only [List.getElem?_toArray];rw [List.append_assoc,List.getElem?_append_left (by rw [List.length_take];omega),List.getElem?_take,if_pos h1];simpa using k1
 ·obtain ⟨v,k1,k2⟩:=l9 _ _ _ _ hd hj;refine ⟨v,?_,k2⟩;simp only [List.getElem?_toArray];have e3:(cur.toList.take off).length=off:=by rw [List.length_take];omega
  have hjn:j-off<news.length:=(List.getElem?_eq_some_iff.1 k1).1;rw [List.append_assoc,List.getElem?_append_right (by omega),e3,List.getElem?_append_left (by omega)];exact k1
theorem XK {cs cells:List DV} {off j:Nat} {d:DV} (hoff:off<=cs.length) (h:((cs.drop 0).take off++cells)[j]? = some d):(j<off/\cs[j]? = some d)\/(off<=j/\cells[j-off]? = some d):=by
 rw [List.drop_zero] at h;have htl:(cs.take off).length=off:=by rw [List.length_take];omega
 by_cases h1:j<off
 ·rw [List.getElem?_append_left (by omega),List.getElem?_take,if_pos h1] at h;exact .inl ⟨h1,h⟩
 ·rw [List.getElem?_append_right (by omega),htl] at h;exact .inr ⟨by omega,h⟩
theorem Aa (hs:eX GL E) {r off n e s:Nat} {cap:Option Nat} {cs:List DV} {wr:Bool} {u:Value} (hx:Rel E (.sl r off n cap) u) (ho':E.hp r=some (.data e s cs wr)) (hn:1<=n) :
 ∃b cur c,E.m r=some (b,cur.size)/\E.h[b]? = some (.cells cur e)/\eu E.h E.X cs b 0/\u = .slice (some ⟨b,off,none⟩) n c/\n<=c/\off+n*s<=cur.size:=by
 rw [Rel,ho'] at hx;rcases hx with ⟨h0,_⟩ | ⟨b,z,c,g1,e1,g3,g4,g5,g6⟩
 ·omega
 ·rcases oG hs ho' with ⟨q1,_⟩ | ⟨b',cur,q1,q2,q3,q4,q5⟩
  ·rw [q1] at g1;cases g1
  have hbb:b=b':=by rw [q1] at g1;cases g1;rfl
  subst hbb;have hzc:z=cur.size:=by rw [q1] at g1;cases g1;rfl
  exact ⟨b,cur,c,q1,q2,q3,e1,g3,by have:=Nat.mul_le_mul_right s g3;omega⟩
theorem OV (hw:w.heap=E.h) (hs:eX GL E) (hrd:∀r o,rd r=some o->E.hp r=some o) {ats:Array TypeId} {ty:Nat} {args:Array Value} {t e e':TypeId} {ei:TI} {xv dv:Value} (a0:ats[0]? = some t) (b0:args[0]? = some dv) (b1:args[1]? = some xv) (ht:P.underlying t=some (.slice e)) (hei:aO P e=some ei)
 {r off n r2 off2 m:Nat} {cap cap2:Option Nat} (hx:Rel E (.sl r off n cap) dv) {cs cs2:List DV} {e2:Nat} {wr2:Bool} (ho:rd r=some (.data e' ei.size cs true)) (hy:Rel E (.sl r2 off2 m cap2) xv) (ho2:rd r2=some (.data e2 ei.size cs2 wr2)) (hn:1<=n) (hm:1<=m) (hoff:off<=cs.length) (hfit:off2+Nat.min m n*ei.size<=cs2.length) :
 kU P GL E w (Builtin.copy_ ats ty args) (dG .i64 (Nat.min m n)) [(r,.data e' ei.size ((cs.drop 0).take off++(cs2.drop off2).take (Nat.min m n*ei.size)) true)]:=by
 obtain ⟨b,cur,c,q1,q2,q3,rfl,g3,g5⟩:=Aa hs hx (hrd _ _ ho) hn;obtain ⟨b',cur',c',q1',q2',q3',rfl,g3',g5'⟩:=Aa hs hy (hrd _ _ ho2) hm;have hk:Nat.min m n<=m:=Nat.min_le_left _ _;have hk2:Nat.min m n<=n:=Nat.min_le_right _ _;have hd:=jf (Nat.min m n*ei.size) _ _ _ (jR off2 _ _ _ q3');rw [Nat.zero_add] at hd;obtain ⟨vs,p1,p2⟩:=iK _ b' off2 hd;have hvl:vs.length=Nat.min m n*ei.size:=by rw [dW _ _ p1,List.length_take,List.length_drop];omega
 have hf:(Builtin.firstCells ei.size (Nat.min m n) (.slice (some ⟨b',off2,none⟩) m c')).run P w = .ok vs.toArray w:=run_firstCells_some w ei.size (Nat.min m n) _ m c' vs hvl (fun j v hv=>by rw [addr_add,ou,hw];exact p2 j v hv);have hkn:Nat.min m n*ei.size<=n*ei.size:=Nat.mul_le_mul_right _ hk2;obtain ⟨w',hst,hgo⟩:=L6 (P:=P) hw hs (hrd _ _ ho) q1 q2 q3 p1 hoff (by omega) _ fun j d=>XK hoff;refine ⟨.int .i64 (Nat.min m n),w',_,?_,hgo,by rw [dG,Rel,bZ];exact ⟨rfl,rfl⟩⟩;have hlen:(Builtin.lenOf (.slice (some ⟨b',off2,none⟩) m c')).run P w = .ok m w:=by simp [Builtin.lenOf,go_sem]
 simp [Builtin.copy_,a0,b0,b1,run_underlying ht,hlen,run_sizeOf hei,hf,hst,goInt]
theorem OW (hw:w.heap=E.h) (hs:eX GL E) (hrd:∀r o,rd r=some o->E.hp r=some o) {ats:Array TypeId} {ty:Nat} {args:Array Value} {t e e':TypeId} {ei:TI} {dv:Value} (a0:ats[0]? = some t) (b0:args[0]? = some dv) (ht:P.underlying t=some (.slice e)) (hei:aO P e=some ei)
 {r off n:Nat} {cap:Option Nat} (hx:Rel E (.sl r off n cap) dv) {cs:List DV} (ho:rd r=some (.data e' ei.size cs true)) (hp:0<ei.size) (hn:1<=n) (hoff:off<=cs.length) :
 kU P GL E w (Builtin.clear_ ats ty args) .undef [(r,.data e' ei.size ((cs.drop 0).take off) true)]:=by
 obtain ⟨b,cur,c,q1,q2,q3,rfl,g3,g5⟩:=Aa hs hx (hrd _ _ ho) hn;obtain ⟨inf,d,z,z1,z2,z3,z4,z5,z6,z7,z8,z9⟩:=mV hei;have hzs:z.cells.size=ei.size:=by rw [<-Array.length_toList];exact z9
 have hzd:=DI (h:=E.h) (X:=E.X) z.cells ei.size hzs hp z8 n;have hzl:(Builtin.zeroCells z.cells n).toList.length=n*ei.size:=by rw [Array.length_toList,size_zeroCells,hzs]
 obtain ⟨w',hst,hgo⟩:=L6 (P:=P) hw hs (hrd _ _ ho) q1 q2 q3 hzd hoff (by omega) ((cs.drop 0).take off) fun j d hj=>by
  rw [List.drop_zero,List.getElem?_take] at hj;split at hj
  ·rename_i h1;exact .inl ⟨h1,hj⟩
  ·cases hj
 have hn0:n≠0:=by omega
 refine ⟨undef,w',_,?_,hgo,by rw [Rel]⟩;obtain ⟨n,rfl⟩:∃k,n=k+1:=⟨n-1,by omega⟩
 simp [Builtin.clear_,a0,b0,run_underlying ht,zeroValue,typeInfo,z1,z3,go_sem,undef];exact Eq.trans (congrArg (fun r=>Result.andThen r fun a w'=>Result.ok (Value.tuple #[]) w') hst) rfl
def aa6 (E:En) (w:World) (h:Array Obj):En:={E with X:=fun k=>E.X k/\k≠w.heap.size,h:=h}
theorem UL (hw:w.heap=E.h) (hs:eX GL E) {src dst e:Nat} {si di ei:TI} (h1:aO P src=some si) (h2:aO P dst=some di) (k1:si.k = .str) (k2:di.k = .slice e) (h3:aO P e=some ei) (k3:ei.k = .int .u8) {b:ByteArray} (hb:b.size<=140737488355328) :
 kU P GL E w (convert src dst (.string b)) (.d (.dl (bytesD b.data.toList) b.size none)) []:=by
 obtain ⟨d1,hd1,q1⟩:=aP h1;obtain ⟨d2,hd2,q2⟩:=aP h2;obtain ⟨d3,hd3,q3⟩:=aP h3;rw [k1] at q1;rw [k2] at q2;rw [k3] at q3;cases d2<;>simp only [fF] at q2<;>try (cases q2;done)
 cases d3<;>simp only [fF] at q3<;>try (cases q3;done)
 simp only [AT.slice.injEq] at q2;subst q2;simp only [AT.int.injEq] at q3;subst q3;have hrun:=Lib.run_convert_string_bytes (P:=P) w src dst e b hd1 hd2 hd3;have hge:=grownCap_ge w b.size 0 e;have hle:=grownCap_le_maxLen w b.size 0 e (by show b.size<=9223372036854775807;omega);have hsz:=Lib.bytesWorld_size w e b;have hold:∀k,k<w.heap.size->(Lib.bytesWorld w e b).heap[k]? = w.heap[k]? := fun k hk=>Lib.bytesWorld_at_old w e b k hk;have hsub:Sub E.h E.X (aa6 E w (Lib.bytesWorld w e b).heap).h (aa6 E w (Lib.bytesWorld w e b).heap).X:=fun c o u hx hc=>by
  have hlt:=zH hc;refine ⟨fun hx'=>hx hx'.1,?_⟩;show je (Lib.bytesWorld w e b).heap c o=some u;have e1:(Lib.bytesWorld w e b).heap[c]? = E.h[c]? := by rw [hold c (by rw [hw];exact hlt),hw]
  exact (qx e1 o).trans hc
 have hex:Ext E (aa6 E w (Lib.bytesWorld w e b).heap):=⟨hsub,fun r o ho=>⟨o,ho,o.like_refl,.inr rfl⟩⟩
 have hblk:∀r ob c z,E.hp r=some ob->ob ≠ .dead->E.m r=some (c,z)->c<w.heap.size:=fun r ob c z he hd hb=>by
  rw [hw];have:=hs.ob r ob he;cases ob with
  | dead=>exact (hd rfl).elim
  | mix cs=>obtain ⟨b',cur',t',g1,g2,_⟩:=this;rw [hb] at g1;cases g1;exact (Array.getElem?_eq_some_iff.1 g2).1
  | mp kk ks vs=>obtain ⟨b',es,cl,g1,g2,_⟩:=this;rw [hb] at g1;cases g1;exact (Array.getElem?_eq_some_iff.1 g2).1
  | data e s cs wr =>
    rcases this with ⟨g1,_⟩ | ⟨b',cur',g1,g2,_⟩
    ·rw [hb] at g1;cases g1
    ·rw [hb] at g1;cases g1;exact (Array.getElem?_eq_some_iff.1 g2).1
 refine ⟨_,_,aa6 E w (Lib.bytesWorld w e b).heap,hrun,⟨rfl,?_,hex,⟨fun r ob he => ?_,fun r r' ob ob' c z z' e1 e2 e3 e4 e5 e6=>hs.inj r r' ob ob' c z z' e1 e2 e3 e4 e5 e6,fun g cells hg => ?_⟩,⟨rfl,rfl,rfl,by rw [hsz];omega,fun k hk _=>hold k hk,fun k h => .inl h,fun k h => .inl h.1,fun k hk hx _=>⟨hx,by omega⟩⟩⟩,?_⟩
 ·funext r;rfl
 ·by_cases hd:ob = .dead
  ·subst hd;exact trivial
  ·refine qY.ext hex (hs.ob r ob he) (.inr rfl) (fun c z hc => ?_) (fun c z hc=>⟨fun h=>h.1,fun h=>⟨h,?_⟩⟩)
   ·show (Lib.bytesWorld w e b).heap[c]? = _;rw [hold c (hblk r ob c z he hd hc),hw]
   ·have:=hblk r ob c z he hd hc;omega
 ·rcases hs.gl g cells hg with g0 | ⟨g1,g2⟩
  ·exact .inl g0
  ·exact jQ hsub cells g 0 g1 g2
 ·rw [Rel,bZ];refine ⟨_,_,rfl,hge,hle,fun k hk=>(by cases hk),.inr ⟨w.heap.size,0,rfl,fun h=>h.2 rfl,EC (Sub.refl _ _) _ 0 fun i x hx => ?_⟩⟩;rw [bytesD,List.getElem?_map,Option.map_eq_some_iff] at hx;obtain ⟨y,hy,rfl⟩:=hx;have hi:i<b.size:=by
   have:=(List.getElem?_eq_some_iff.1 hy).1;simpa using this
  refine ⟨.int .u8 y.toNat,?_,by rw [bZ];exact ⟨rfl,rfl⟩⟩;have hc:=Lib.bytesWorld_cell w e b i hi;rw [ou] at hc;rw [Nat.zero_add];show je (Lib.bytesWorld w e b).heap w.heap.size i=_;rw [hc];have:b.data.toList.getD i 0=y:=by rw [List.getD_eq_getElem?_getD,hy];rfl
  rw [this]
set_option maxHeartbeats 1000000 in
theorem XL (hw:w.heap=E.h) (hs:eX GL E) (hrd:∀r o,rd r=some o->E.hp r=some o) (hsl:rd slot=none->E.hp slot=none) (hρ:∀x,Rel E (ρ x) (ev x)) {o:Oper} {v:AV} {us:List (Nat×AO)} (h:Hu (aO P) rd slot o ρ=some (v,us)):Ends P GL E w (execOp ev o) v us:=by
 obtain ⟨dst,op,type,pos,after,guard⟩:=o;unfold Hu at h;cases op<;>simp only at h<;>try (cases h;done)
 case convert src tgt x =>
  split at h
  ·rename_i si di hsi hdi;split at h
   ·rename_i e k1 k2;split at h
    ·rename_i hu8;split at h
     ·rename_i b hx;split at h
      ·rename_i hb;simp only [Option.some.injEq,Prod.mk.injEq] at h;obtain ⟨rfl,rfl⟩:=h;unfold Bq at hu8;split at hu8
       ·rename_i ei hei;have k3:ei.k = .int .u8:=by
         revert hu8;cases ei.k with
         | int k=>cases k<;>simp
         | _=>simp
        have hxr:=hρ x;rw [hx] at hxr;refine mD (s:=convert src tgt (ev x)) rfl ?_;rw [aQ hxr];exact UL hw hs hsi hdi k1 k2 hei k3 hb
       ·cases hu8
      ·cases h
     ·cases h
    ·cases h
   ·cases h
  ·cases h
 case call c =>
  have hti:∀(k:Nat) (i:TI),(c.argTypes[k]?).bind (aO P)=some i->∃t,c.argTypes[k]? = some t/\aO P t=some i:=fun k i hk=>Option.bind_eq_some_iff.1 hk;have hsl2:∀ {t e:Nat} {i:TI},aO P t=some i->i.k = .slice e->P.underlying t=some (.slice e):=fun {t e i} h1 h2=>by
   obtain ⟨d,hd,hkd⟩:=aP h1;rw [h2] at hkd;cases d<;>simp only [fF] at hkd<;>try (cases hkd;done)
   simp only [AT.slice.injEq] at hkd;rw [hkd];exact hd
  have hargs:∀(k:Nat) (x:AV),(c.args.toList.map ρ)[k]? = some x->∃u,(c.args.map ev)[k]? = some u/\Rel E x u:=fun k x hk=>by
   rw [List.getElem?_map,Option.map_eq_some_iff] at hk;obtain ⟨op,h1,rfl⟩:=hk;exact ⟨ev op,by rw [Array.getElem?_map,<-Array.getElem?_toList,h1];rfl,hρ op⟩
  split at h
  ·rename_i hcal;split at h
   ·rename_i x y i j hxy hi hj;split at h
    ·rename_i e hke;split at h
     ·rename_i ei hei;split at h
      ·rename_i hp;obtain ⟨t,a0,ht⟩:=hti 0 i hi;obtain ⟨u,a1,hu⟩:=hti 1 j hj;obtain ⟨dv,b0,hx⟩:=hargs 0 x (by rw [hxy];rfl);obtain ⟨xv,b1,hy⟩:=hargs 1 y (by rw [hxy];rfl);have hund:=hsl2 ht hke;refine mD (s:=Builtin.append_ c.argTypes type (c.args.map ev)) (by rw [wM hcal];rfl) ?_;split at h
       ·rename_i kn hkj;split at h
        ·rename_i k m;split at h
         ·rename_i hm;split at h
          ·rename_i hm2;obtain ⟨m,rfl⟩:=Int.eq_ofNat_of_zero_le (Int.le_of_lt hm);simp only [Int.toNat_natCast] at h;obtain ⟨inf,d,z,z1,z2,z3,z4,z5,z6,z7,z8,z9⟩:=mV hei;have hzs:z.cells.size=ei.size:=by rw [<-Array.length_toList];exact z9
           obtain ⟨du,hdu,hkd⟩:=aP hu;rw [hkj] at hkd;cases du<;>simp only [fF] at hkd<;>try (cases hkd;done)
           have b1':=b1;rw [aQ hy] at b1';refine Iy hw hs hrd hsl hx hp (by rw [z7];exact DI z.cells ei.size hzs hp z8 m) (by rw [Array.length_toList,size_zeroCells,hzs]) (H6 a0 a1 b0 b1' hund hdu hei (by omega) (by omega) hp (fun inf' h'=>by rw [z1] at h';cases h';exact z3)) h
          ·cases h
         ·cases h
        ·cases h
       ·rename_i e' hkj;split at h
        ·rename_i cells m hsrc;obtain ⟨news,n1,n2,n3,n4,_⟩:=zY (P:=P) hw hs hrd hy hsrc;have htk:news.take (m*ei.size)=news:=List.take_of_length_le (by omega);refine Iy hw hs hrd hsl hx hp n1 n3 (OU (fun A n c' hdv=>⟨a0,a1,by rw [b0,hdv],b1,hund,⟨_,hsl2 hu hkj,rfl⟩,hei⟩) n2 (fun w' hw'=>by rw [n4 m w' (Nat.le_refl _) hw',htk])) h
        ·cases h
       ·cases h
      ·cases h
     ·cases h
    ·cases h
   ·cases h
  ·rename_i hcal;split at h
   ·rename_i r off n cap r2 off2 m cap2 i hxy hi;split at h
    ·rename_i e hke;split at h
     ·rename_i ei hei;split at h
      ·rename_i e' s cs e2 s2 cs2 wr2 ho ho2;split at h
       ·rename_i hc;obtain ⟨rfl,rfl,hp⟩:=hc;split at h
        ·rename_i hn;split at h
         ·rename_i hm;split at h
          ·rename_i hoff;split at h
           ·rename_i hfit;simp only [Option.some.injEq,Prod.mk.injEq] at h;obtain ⟨rfl,rfl⟩:=h;obtain ⟨t,a0,ht⟩:=hti 0 i hi;obtain ⟨dv,b0,hx⟩:=hargs 0 _ (by rw [hxy];rfl);obtain ⟨xv,b1,hy⟩:=hargs 1 _ (by rw [hxy];rfl);exact mD (s:=Builtin.copy_ c.argTypes type (c.args.map ev)) (by rw [wM hcal];rfl) (OV hw hs hrd a0 b0 b1 (hsl2 ht hke) hei hx ho hy ho2 hn hm hoff hfit)
           ·cases h
          ·cases h
         ·cases h
        ·cases h
       ·cases h
      ·cases h
     ·cases h
    ·cases h
   ·cases h
  ·rename_i hcal;split at h
   ·rename_i r off n cap i hxy hi;split at h
    ·rename_i e hke;split at h
     ·rename_i ei hei;split at h
      ·rename_i e' s cs ho;split at h
       ·rename_i hc;obtain ⟨rfl,hp⟩:=hc;split at h
        ·rename_i hn;split at h
         ·rename_i hoff;simp only [Option.some.injEq,Prod.mk.injEq] at h;obtain ⟨rfl,rfl⟩:=h;obtain ⟨t,a0,ht⟩:=hti 0 i hi;obtain ⟨dv,b0,hx⟩:=hargs 0 _ (by rw [hxy];rfl);exact mD (s:=Builtin.clear_ c.argTypes type (c.args.map ev)) (by rw [wM hcal];rfl) (OW hw hs hrd a0 b0 (hsl2 ht hke) hei hx ho hp hn hoff)
         ·cases h
        ·cases h
       ·cases h
      ·cases h
     ·cases h
    ·cases h
   ·cases h
  ·cases h
end
end Go.Proofs.YtigfeinnobfflaaGreat
