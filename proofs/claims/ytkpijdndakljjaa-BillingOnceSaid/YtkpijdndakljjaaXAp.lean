import Derived.Test.YtkpijdndakljjaaHBp
import Derived.Test.YtkpijdndakljjaaHAp
set_option linter.unusedSimpArgs false
set_option linter.unusedVariables false
namespace Go.Proofs.Ytkpijdndakljjaa
open Go.RowKit
mutual
theorem aaP {σ:Nat->Nat}:∀(x:AV),x.refs=[]->lV σ x=x
 | .d x,_=>by rw [lV]
 | .ptr r o,h=>by rw [AV.refs] at h;cases h
 | .sl r o n c,h=>by rw [AV.refs] at h;cases h
 | .dptr cs o,_=>by rw [lV]
 | .agg cs,h=>by rw [AV.refs] at h;rw [lV,zS h]
 | .tup cs,h=>by rw [AV.refs] at h;rw [lV,zS h]
 | .clo f cs,h=>by rw [AV.refs] at h;rw [lV,zS h]
 | .undef,_=>by rw [lV]
 | .ab,_=>by rw [lV]
 | .junk,_=>by rw [lV]
theorem zS {σ:Nat->Nat}:∀ {xs:List AV},AV.refs.refsL xs=[]->BO σ xs=xs
 | [],_=>by rw [BO]
 | x::xs,h=>by
   rw [AV.refs.refsL,List.append_eq_nil_iff] at h;rw [BO,aaP x h.1,zS h.2]
end
theorem aaQ {P:Program} {GL:Nat->Option (List DV)} {f:FuncId} {args:List AV} {n:Nat} {c:Option Nat} {e s:Nat} {cs:List DV} (h:fB P GL f args [] (.sl 1 0 n c) [(1,.data e s cs true)]) (hra:AV.refs.refsL args=[]) {rd:Nat->Option AO} {r:Nat} (hr:rd r=none):Does P GL f args [r] (.sl r 0 n c) [(r,.data e s cs true)] rd:=by
 have W:=agb [(1,r)] h;have s1:sw [(1,r)] 1=r:=by simp [sw]
 simp only [lV,BP,vN,s1] at W;rw [zS hra] at W;refine qN W (fun x hx=>by cases hx) rfl (by rw [hra];rfl) (fun x hx => ?_) rfl;rcases List.mem_singleton.1 hx with rfl;exact ⟨by simp,.inl hr⟩
theorem TT {hp:List (Nat×AO)} {e s:Nat}:Back [] hp [(1,.data e s [] true)] (.sl 1 0 0 none) (.d (.val (.slice none 0 0))):=by
 refine Back.mk (fun _=>none) (fun r o h=>by cases h) ⟨fun r o h => ?_,fun r r' o o' x h1 h2 h3 h4 h5=>by cases h5⟩ ?_
 ·unfold aJ look at h;split at h
  ·cases h;unfold vM;rfl
  ·cases h
 ·rw [gG];exact ⟨rfl,.inr (.inl ⟨rfl,rfl,rfl,rfl,rfl⟩)⟩
theorem ac5 {P:Program} {GL:Nat->Option (List DV)} {f:FuncId} {args:List AV} {rds rds':List Nat} {v:AV} {us:List (Nat×AO)} {rd:Nat->Option AO} (h:Does P GL f args rds v us rd) (hs:∀r∈rds,r∈rds'):Does P GL f args rds' v us rd :=
 fun E w vs hr hw hS hrel=>h E w vs (fun r hm=>hr r (hs r hm)) hw hS hrel
theorem CQ {P:Program} {GL:Nat->Option (List DV)} {f:FuncId} {fn:Func} {c:Code} (hf:P.funcs[f]? = some fn) (hb:fn.body=some c) {args:List AV} (hn:args.length<=fn.ntmps) {os us:List (Nat×AO)} {x v:AV} {e:Exit} {s':SL}
 (h:To P GL fn.ntmps (aJ os) c ⟨fn.ntmps,jw 0 args,os⟩ e s') (he:aaN e=true) (hx:D7 (aS P) fn s'=some x) (hbk:Back os s'.hp us v x):fB P GL f args os v us:=fun E w vs hE hw hs hrel=>by
 have hlen:=gq _ _ hrel;have hvs:vs.size=args.length:=by rw [<-Array.length_toList];exact hlen
 refine calls_of_wp hf hb ?_;have hS:sU GL fn.ntmps E {tmps:=vs++Array.replicate (fn.ntmps-vs.size) undef,defers:=[]} w (⟨fn.ntmps,jw 0 args,os⟩:SL).S:=by
  refine ⟨hw,hE,hs,?_,rfl,fun t => ?_⟩
  ·simp only [Array.size_append,Array.size_replicate];omega
  ·show Rel _ (match look t (jw 0 args) with | some x=>x | none => .junk) _;rw [mY];simp only [Nat.zero_le,if_true,Nat.sub_zero];cases hx:args[t]? with
   | none=>simp only;rw [Rel];trivial
   | some x =>
     obtain ⟨u,h1,h2⟩:=rQ _ _ t x hrel hx;have ht:t<vs.size:=by
      have:=(List.getElem?_eq_some_iff.1 h1).1;simpa using this
     rw [Array.getD_eq_getD_getElem?,Array.getElem?_append_left ht];have h1':vs[t]? = some u:=by simpa using h1
     rw [h1'];exact h2
 refine wp_mono (h E w E _ w hE hS (dA.refl _ _)) fun e1 a' w' ⟨s1,E',⟨h1,h2⟩,h3,h4⟩ => ?_;subst h1 h2;obtain ⟨θ,k0,k2,k3⟩:=hbk;have fin:a'.defers=[]/\∃y,(results fn a'.tmps).run P w' = .ok y w'/\∃u E'',Ending.returned y = .returned u/\w'.heap=E''.h/\E''.hp=aJ us/\fZ GL E''/\Ext E E''/\oZ E w E'' w'/\Rel E'' v u:=by
  obtain ⟨y,g1,g2⟩:=D8 h3 hx;have hp:E'.hp=aJ s'.hp:=h3.hp;rw [<-hp] at k2 k3;exact ⟨h3.df,y,g1,y,kY E' θ (aJ us),rfl,h3.h,rfl,qJ h3.sim k2,xu h4 k2 (fun r o ho=>by rw [hE] at ho;exact k0 r o ho),qK k2 h4.fr,uO h3.sim k2 _ _ _ k3 g2⟩
 cases e1 with
 | normal=>exact fin
 | ret=>exact fin
 | exit i=>cases he
 | goto l=>cases he
 | panic ch=>cases he
 | outgrown=>cases he
inductive U where
 | int (k:IntKind) | bool | str | list (t:U) | pair (a b:U) | unit
@[reducible] def U.T:U->Type
  | .int _=>Int
  | .bool=>Bool
  | .str=>List UInt8
  | .list t=>List t.T
  | .pair a b=>a.T×b.T
  | .unit=>Unit
def gU:(t:U)->t.T->List DV
 | .int k,n=>[.val (.int k n)]
 | .bool,b=>[.val (.bool b)]
 | .str,s=>[.val (.string ⟨s.toArray⟩)]
 | .list t,l=>[.dl (l.flatMap (gU t)) l.length none]
 | .pair a b,p=>gU a p.1++gU b p.2
 | .unit,_=>[]
def fK:U->Nat
 | .pair a b=>fK a+fK b
 | .unit=>0
 | _=>1
theorem bU:∀(t:U) (x:t.T),(gU t x).length=fK t
 | .int _,_=>rfl
 | .bool,_=>rfl
 | .str,_=>rfl
 | .list _,_=>rfl
 | .pair a b,p=>by show (gU a p.1++gU b p.2).length=fK a+fK b;rw [List.length_append,bU a,bU b]
 | .unit,_=>rfl
def CW (a b:IntKind):Option (PLift (a=b)):=if h:a=b then some ⟨h⟩ else none
def Vq:(a b:U)->Option (PLift (a=b))
 | .int k,.int k'=>match CW k k' with | some ⟨h⟩=>some ⟨by rw [h]⟩ | none=>none
 | .bool,.bool=>some ⟨rfl⟩
 | .str,.str=>some ⟨rfl⟩
 | .list t,.list t'=>match Vq t t' with | some ⟨h⟩=>some ⟨by rw [h]⟩ | none=>none
 | .pair a b,.pair a' b'=>match Vq a a',Vq b b' with | some ⟨h⟩,some ⟨k⟩=>some ⟨by rw [h,k]⟩ | _,_=>none
 | .unit,.unit=>some ⟨rfl⟩
 | _,_=>none
def aI (t:U) (l:List t.T):List DV:=l.flatMap (gU t)
theorem bI (t:U) (l:List t.T):(aI t l).length=l.length*fK t:=by
 induction l with
 | nil=>simp [aI]
 | cons x l ih =>
   unfold aI at ih ⊢;rw [List.flatMap_cons,List.length_append,ih,bU,List.length_cons,Nat.succ_mul,Nat.add_comm]
theorem jJ (t:U) (a b:List t.T):aI t (a++b)=aI t a++aI t b:=List.flatMap_append
theorem jo (t:U):∀(n:Nat) (l:List t.T),(aI t l).drop (n*fK t)=aI t (l.drop n)
 | 0,l=>by simp
 | n+1,[]=>by simp [aI]
 | n+1,x::l=>by
   rw [List.drop_succ_cons,<-jo t n l,show aI t (x::l)=gU t x++aI t l from List.flatMap_cons,Nat.succ_mul,List.drop_append,bU,show n*fK t+fK t-fK t=n*fK t from by omega,List.drop_eq_nil_of_le (by rw [bU];omega)];rfl
theorem gy (t:U):∀(n:Nat) (l:List t.T),(aI t l).take (n*fK t)=aI t (l.take n)
 | 0,l=>by simp [aI]
 | n+1,[]=>by simp [aI]
 | n+1,x::l=>by
   rw [List.take_succ_cons,show aI t (x::l)=gU t x++aI t l from List.flatMap_cons,show aI t (x::l.take n)=gU t x++aI t (l.take n) from List.flatMap_cons,<-gy t n l,Nat.succ_mul,List.take_append,bU,show n*fK t+fK t-fK t=n*fK t from by omega,List.take_of_length_le (by rw [bU];omega)]
theorem J5 (t:U) {l:List t.T} {j:Nat} {x:t.T} (h:l[j]? = some x):(aI t l).drop (j*fK t)=gU t x++aI t (l.drop (j+1)):=by
 obtain ⟨hj,rfl⟩:=List.getElem?_eq_some_iff.1 h;rw [jo,List.drop_eq_getElem_cons hj];exact List.flatMap_cons
theorem aaR (t:U) {l:List t.T} {j:Nat} {x:t.T} (h:l[j]? = some x) {o:Nat} (ho:o<fK t):(aI t l)[j*fK t+o]? = (gU t x)[o]? := by
 rw [<-List.getElem?_drop,J5 t h,List.getElem?_append_left (by rw [bU];exact ho)]
inductive Cp (σ:Type):Type where
 | unk | full | fn (c:σ->Nat)
inductive SV (σ:Type):Type where
 | val (v:Value)
 | int (k:IntKind) (f:σ->Int)
 | bool (f:σ->Bool)
 | str (f:σ->List UInt8)
 | lst (t:U) (f:σ->List t.T)
 | ptr (r off:Nat)
 | ptx (r z:Nat) (j:σ->Nat) (off:Nat)
 | sl (r z:Nat) (o:Option (σ->Nat)) (n:σ->Nat) (cap:Cp σ)
 | dpt (t:U) (f:σ->List t.T) (j:σ->Nat) (off:Nat)
 | agg (cs:List (SV σ))
 | tup (cs:List (SV σ))
 | clo (f:Nat) (cs:List (SV σ))
 | undef | junk
inductive SO (σ:Type):Type where
 | data (e:Nat) (t:U) (f:σ->List t.T) (wr:Bool)
 | arr (t:U) (f:σ->List t.T)
 | mix (cs:List (SV σ))
 | mp (f:σ->List (List UInt8))
 | dead
structure SS (σ:Type):Type where
 tm:List (Nat×SV σ)
 hp:List (Nat×SO σ)
section
variable {σ σ':Type} (g:σ'->σ)
def aqs (o:Option (σ->Nat)):Option (σ'->Nat):=match o with | some o=>some fun s=>o (g s) | none=>none
def aqt (c:Cp σ):Cp σ':=match c with | .unk => .unk | .full => .full | .fn c => .fn fun s=>c (g s)
mutual
def SV.map:SV σ->SV σ'
 | .val v => .val v
 | .int k f => .int k fun s=>f (g s)
 | .bool f => .bool fun s=>f (g s)
 | .str f => .str fun s=>f (g s)
 | .lst t f => .lst t fun s=>f (g s)
 | .ptr r off => .ptr r off
 | .ptx r z j off => .ptx r z (fun s=>j (g s)) off
 | .sl r z o n cap => .sl r z (aqs g o) (fun s=>n (g s)) (aqt g cap)
 | .dpt t f j off => .dpt t (fun s=>f (g s)) (fun s=>j (g s)) off
 | .agg cs => .agg (sD cs)
 | .tup cs => .tup (sD cs)
 | .clo f cs => .clo f (sD cs)
 | .undef => .undef
 | .junk => .junk
def sD:List (SV σ)->List (SV σ')
 | []=>[]
 | x::l=>x.map::sD l
end
def SO.map:SO σ->SO σ'
 | .data e t f wr => .data e t (fun s=>f (g s)) wr
 | .arr t f => .arr t fun s=>f (g s)
 | .mix cs => .mix (sD g cs)
 | .mp f => .mp fun s=>f (g s)
 | .dead => .dead
def oH:List (Nat×SV σ)->List (Nat×SV σ')
 | []=>[]
 | (t,v)::l=>(t,v.map g)::oH l
def jS:List (Nat×SO σ)->List (Nat×SO σ')
 | []=>[]
 | (t,v)::l=>(t,v.map g)::jS l
def SS.map (d:SS σ):SS σ':=⟨oH g d.tm,jS g d.hp⟩
end
section
variable {σ σ':Type} (s:σ)
def wK (o:Option (σ->Nat)):Nat:=match o with | some f=>f s | none=>0
def cOf (o:Option (σ->Nat)):Option Nat:=match o with | some f=>some (f s) | none=>none
def sF (n:Nat) (c:Cp σ):Option Nat:=match c with | .unk=>none | .full=>some n | .fn c=>some (c s)
mutual
def SV.c:SV σ->AV
 | .val v => .d (.val v)
 | .int k f=>dV k (f s)
 | .bool f=>eu (f s)
 | .str f => .d (.val (.string ⟨(f s).toArray⟩))
 | .lst t f => .d (.dl (aI t (f s)) (f s).length none)
 | .ptr r off => .ptr r off
 | .ptx r z j off => .ptr r (j s*z+off)
 | .sl r z o n cap => .sl r (wK s o*z) (n s) (sF s (n s) cap)
 | .dpt t f j off => .dptr (aI t (f s)) (j s*fK t+off)
 | .agg cs => .agg (cL cs)
 | .tup cs => .tup (cL cs)
 | .clo f cs => .clo f (cL cs)
 | .undef => .undef
 | .junk => .junk
def cL:List (SV σ)->List AV
 | []=>[]
 | x::l=>x.c::cL l
end
def SO.c:SO σ->AO
 | .data e t f wr => .data e (fK t) (aI t (f s)) wr
 | .arr t f => .mix ((aI t (f s)).map .d)
 | .mix cs => .mix (cL s cs)
 | .mp f => .mp (f s)
 | .dead => .dead
def cT:List (Nat×SV σ)->List (Nat×AV)
 | []=>[]
 | (t,v)::l=>(t,v.c s)::cT l
def cO:List (Nat×SO σ)->List (Nat×AO)
 | []=>[]
 | (t,v)::l=>(t,v.c s)::cO l
def SS.c (N:Nat) (d:SS σ):SL:=⟨N,cT s d.tm,cO s d.hp⟩
end
section
variable {σ σ':Type} (g:σ'->σ) (s:σ')
mutual
theorem Yd:∀v:SV σ,(v.map g).c s=v.c (g s)
 | .val v=>by rw [SV.map,SV.c,SV.c]
 | .int k f=>by rw [SV.map,SV.c,SV.c]
 | .bool f=>by rw [SV.map,SV.c,SV.c]
 | .str f=>by rw [SV.map,SV.c,SV.c]
 | .lst t f=>by rw [SV.map,SV.c,SV.c]
 | .ptr r off=>by rw [SV.map,SV.c,SV.c]
 | .ptx r z j off=>by rw [SV.map,SV.c,SV.c]
 | .sl r z o n cap=>by rw [SV.map,SV.c,SV.c];cases o<;>cases cap<;>rfl
 | .dpt t f j off=>by rw [SV.map,SV.c,SV.c]
 | .agg cs=>by rw [SV.map,SV.c,SV.c,zT cs]
 | .tup cs=>by rw [SV.map,SV.c,SV.c,zT cs]
 | .clo f cs=>by rw [SV.map,SV.c,SV.c,zT cs]
 | .undef=>by rw [SV.map,SV.c,SV.c]
 | .junk=>by rw [SV.map,SV.c,SV.c]
theorem zT:∀l:List (SV σ),cL s (sD g l)=cL (g s) l
 | []=>by rw [sD,cL,cL]
 | x::l=>by rw [sD,cL,cL,Yd x,zT l]
end
theorem Qr (o:SO σ):(o.map g).c s=o.c (g s):=by
 cases o with
 | data e t f wr=>rfl
 | arr t f=>rfl
 | mix cs=>show AO.mix _=AO.mix _;rw [zT]
 | mp f=>rfl
 | dead=>rfl
theorem Qs:∀l:List (Nat×SV σ),cT s (oH g l)=cT (g s) l
 | []=>rfl
 | (t,v)::l=>by rw [oH,cT,cT,Yd,Qs l]
theorem rD:∀l:List (Nat×SO σ),cO s (jS g l)=cO (g s) l
 | []=>rfl
 | (t,v)::l=>by rw [jS,cO,cO,Qr,rD l]
theorem ac6 (N:Nat) (d:SS σ):(d.map g).c s N=d.c (g s) N:=by unfold SS.map SS.c;rw [Qs,rD]
end
section
variable {σ:Type} (s:σ)
theorem iK:∀l:List (SV σ),cL s l=l.map (·.c s)
 | []=>rfl
 | x::l=>by rw [cL,iK l];rfl
theorem jO (l:List (SV σ)):(cL s l).length=l.length:=by rw [iK,List.length_map]
theorem pG (a b:List (SV σ)):cL s (a++b)=cL s a++cL s b:=by rw [iK,iK,iK,List.map_append]
theorem Je (n:Nat) (a:List (SV σ)):cL s (a.drop n)=(cL s a).drop n:=by rw [iK,iK,List.map_drop]
theorem Jf (n:Nat) (a:List (SV σ)):cL s (a.take n)=(cL s a).take n:=by rw [iK,iK,List.map_take]
theorem Qu (a:List (SV σ)) (i:Nat):(cL s a)[i]? = a[i]?.map (·.c s):=by rw [iK,List.getElem?_map]
theorem xE:∀(a b:List (Nat×SV σ)),cT s (a++b)=cT s a++cT s b
 | [],b=>rfl
 | (t,v)::a,b=>by rw [List.cons_append,cT,cT,xE a b];rfl
theorem dJ:∀(a b:List (Nat×SO σ)),cO s (a++b)=cO s a++cO s b
 | [],b=>rfl
 | (t,v)::a,b=>by rw [List.cons_append,cO,cO,dJ a b];rfl
theorem ql (k:Nat):∀l:List (Nat×SV σ),look k (cT s l)=(look k l).map (·.c s)
 | []=>rfl
 | (i,x)::l=>by
   rw [cT,look,look];by_cases h:i=k
   ·rw [if_pos h,if_pos h];rfl
   ·rw [if_neg h,if_neg h,ql k l]
theorem lu (k:Nat):∀l:List (Nat×SO σ),look k (cO s l)=(look k l).map (·.c s)
 | []=>rfl
 | (i,x)::l=>by
   rw [cO,look,look];by_cases h:i=k
   ·rw [if_pos h,if_pos h];rfl
   ·rw [if_neg h,if_neg h,lu k l]
end
section
variable {σ:Type}
def unU:(t:U)->(σ->t.T)->List (SV σ)
 | .int k,f=>[.int k f]
 | .bool,f=>[.bool f]
 | .str,f=>[.str f]
 | .list t,f=>[.lst t f]
 | .pair a b,f=>unU a (fun s=>(f s).1)++unU b (fun s=>(f s).2)
 | .unit,_=>[]
theorem Ye (s:σ):∀(t:U) (f:σ->t.T),cL s (unU t f)=(gU t (f s)).map .d
 | .int k,f=>rfl
 | .bool,f=>rfl
 | .str,f=>rfl
 | .list t,f=>rfl
 | .pair a b,f=>by
   show cL s (unU a _++unU b _)=(gU a (f s).1++gU b (f s).2).map .d;rw [pG,Ye s a,Ye s b,List.map_append]
 | .unit,f=>rfl
theorem CX:∀(t:U) (f:σ->t.T),(unU t f).length=fK t
 | .int k,f=>rfl
 | .bool,f=>rfl
 | .str,f=>rfl
 | .list t,f=>rfl
 | .pair a b,f=>by show (unU a _++unU b _).length=fK a+fK b;rw [List.length_append,CX a,CX b]
 | .unit,f=>rfl
def FU (v:SV σ):Option (IntKind×(σ->Int)) :=
 match v with
 | .val (.int k n)=>some (k,fun _=>n)
 | .int k f=>some (k,f)
 | _=>none
theorem oI {v:SV σ} {k:IntKind} {f:σ->Int} (h:FU v=some (k,f)) (s:σ):v.c s=dV k (f s):=by
 unfold FU at h;split at h
 ·cases h;rw [SV.c];rfl
 ·cases h;rw [SV.c]
 ·cases h
def asB (v:SV σ):Option (σ->Bool) :=
 match v with
 | .val (.bool b)=>some (fun _=>b)
 | .bool f=>some f
 | _=>none
theorem zU {v:SV σ} {f:σ->Bool} (h:asB v=some f) (s:σ):v.c s=eu (f s):=by
 unfold asB at h;split at h
 ·cases h;rw [SV.c];rfl
 ·cases h;rw [SV.c]
 ·cases h
def asS (v:SV σ):Option (σ->List UInt8) :=
 match v with
 | .val (.string b)=>some (fun _=>b.data.toList)
 | .str f=>some f
 | _=>none
theorem tH {v:SV σ} {f:σ->List UInt8} (h:asS v=some f) (s:σ):v.c s = .d (.val (.string ⟨(f s).toArray⟩)):=by
 unfold asS at h;split at h
 ·cases h;rw [SV.c]
 ·cases h;rw [SV.c]
 ·cases h
end
section
variable {σ:Type}
mutual
def SV.refs:SV σ->List Nat
 | .val _=>[]
 | .int _ _=>[]
 | .bool _=>[]
 | .str _=>[]
 | .lst _ _=>[]
 | .ptr r _=>[r]
 | .ptx r _ _ _=>[r]
 | .sl r _ _ _ _=>[r]
 | .dpt _ _ _ _=>[]
 | .agg cs=>tJ cs
 | .tup cs=>tJ cs
 | .clo _ cs=>tJ cs
 | .undef=>[]
 | .junk=>[]
def tJ:List (SV σ)->List Nat
 | []=>[]
 | x::xs=>x.refs++tJ xs
end
theorem FV (x:DV):(AV.d x).refs=[]:=by simp [AV.refs]
mutual
theorem J6 (s:σ):∀v:SV σ,(v.c s).refs=v.refs
 | .ptr r off=>by rw [SV.c,SV.refs,AV.refs]
 | .ptx r z j off=>by rw [SV.c,SV.refs,AV.refs]
 | .sl r z o n cap=>by rw [SV.c,SV.refs,AV.refs]
 | .agg cs=>by rw [SV.c,SV.refs,AV.refs,yD s cs]
 | .tup cs=>by rw [SV.c,SV.refs,AV.refs,yD s cs]
 | .clo f cs=>by rw [SV.c,SV.refs,AV.refs,yD s cs]
 | .val v=>by rw [SV.c,SV.refs,FV]
 | .int k f=>by rw [SV.c,SV.refs];exact FV _
 | .bool f=>by rw [SV.c,SV.refs];exact FV _
 | .str f=>by rw [SV.c,SV.refs,FV]
 | .lst t f=>by rw [SV.c,SV.refs,FV]
 | .dpt t f j off=>by rw [SV.c,SV.refs];simp [AV.refs]
 | .undef=>by rw [SV.c,SV.refs];simp [AV.refs]
 | .junk=>by rw [SV.c,SV.refs];simp [AV.refs]
theorem yD (s:σ):∀l:List (SV σ),AV.refs.refsL (cL s l)=tJ l
 | []=>by rw [cL,AV.refs.refsL,tJ]
 | x::l=>by rw [cL,AV.refs.refsL,tJ,J6 s x,yD s l]
end
def SV.cells:SV σ->List (SV σ)
 | .agg cs=>cs
 | x=>[x]
theorem rE (s:σ) (v:SV σ):cL s v.cells=(v.c s).cellsOf:=by
 cases v<;>simp [SV.cells,SV.c,AV.cellsOf,cL,dV,eu]
def SO.kind:SO σ->AK
 | .data _ t _ _ => .data (fK t)
 | .arr _ _ => .mix
 | .mix _ => .mix
 | .mp _ => .mp
 | .dead => .dead
theorem akk (s:σ) (o:SO σ):(o.c s).kind=o.kind:=by cases o<;>rfl
def TU (lk:Nat->Option AK):SV σ->Bool
 | .ptr r _=>iy lk r
 | .ptx r _ _ _=>iy lk r
 | .sl r _ _ _ _=>iy lk r
 | .tup _=>false
 | .undef=>false
 | .junk=>false
 | _=>true
theorem J7 (lk:Nat->Option AK) (s:σ) (v:SV σ):zo lk (v.c s)=TU lk v:=by
 cases v<;>simp [TU,SV.c,zo,dV,eu]
def J8 (place:Nat->Option (Nat×Nat)):List (SV σ)->List (Nat×SV σ)->Option (List (SV σ))
 | cs,[]=>some cs
 | cs,(i,v)::rest=>match place i with
   | none=>none
   | some (off,size)=>match decide (v.cells.length=size/\off+size<=cs.length) with
     | true=>J8 place (splice cs off v.cells) rest
     | false=>none
theorem uU {α β:Type} (f:α->β):∀(l:List α) (o:Nat) (new:List α),(splice l o new).map f=splice (l.map f) o (new.map f)
 | l,0,new=>by rw [splice,splice,List.map_append,List.map_drop,List.length_map]
 | [],o+1,new=>by rw [splice,List.map_nil,splice]
 | x::l,o+1,new=>by rw [splice,List.map_cons,List.map_cons,splice,uU f l o new]
theorem Jg (s:σ) (place:Nat->Option (Nat×Nat)):∀(parts:List (Nat×SV σ)) (cs r:List (SV σ)),J8 place cs parts=some r->oW place (cL s cs) (parts.map fun p=>(p.1,p.2.c s))=some (cL s r)
 | [],cs,r,h=>by rw [J8] at h;cases h;rw [List.map_nil,oW]
 | (i,v)::parts,cs,r,h=>by
   rw [J8] at h;rw [List.map_cons,oW];cases hp:place i with
   | none=>rw [hp] at h;cases h
   | some p =>
     rw [hp] at h;simp only at h ⊢;split at h
     ·rename_i hd;have hd:=of_decide_eq_true hd;have e:cL s (splice cs p.1 v.cells)=splice (cL s cs) p.1 (v.c s).cellsOf:=by rw [iK,uU,<-iK,<-iK,rE]
      rw [<-rE s v,jO,jO,if_pos hd,rE,<-e];exact Jg s place parts _ r h
     ·cases h
def Ee (i:TI) (cs:List (SV σ)) (off:Nat):Option (SV σ) :=
 match i.k.isAgg with
 | true=>match decide (off+i.size<=cs.length) with
   | true=>some (.agg ((cs.drop off).take i.size))
   | false=>none
 | false=>cs[off]?
theorem yE (s:σ) {i:TI} {cs:List (SV σ)} {off:Nat} {v:SV σ} (h:Ee i cs off=some v):jY i (cL s cs) off=some (v.c s):=by
 unfold Ee at h;unfold jY;split at h
 ·rename_i hk;split at h
  ·rename_i hd;cases h;rw [if_pos hk,if_pos (by rw [jO];exact of_decide_eq_true hd),SV.c,Jf,Je]
  ·cases h
 ·rename_i hk;rw [if_neg (by rw [hk];simp),Qu,h];rfl
def zeroS:List DV->Option (List (SV σ))
 | []=>some []
 | .val v::l=>match zeroS l with | some r=>some (.val v::r) | none=>none
 | _::_=>none
theorem Eh (s:σ):∀ {l:List DV} {r:List (SV σ)},zeroS l=some r->cL s r=l.map .d
 | [],r,h=>by rw [zeroS] at h;cases h;rfl
 | .val v::l,r,h=>by
   rw [zeroS] at h;split at h
   ·rename_i r' hr;cases h;rw [cL,Eh s hr,SV.c];rfl
   ·cases h
 | .dl _ _ _::l,r,h=>by rw [zeroS] at h;cases h;simp
def arS (op:BinOp) (k k':IntKind) (f g:σ->Int):Option (List (σ->Bool)×SV σ) :=
 match op with
 | .shl=>some ([fun s=>decide (0<=g s)],.int k fun s=>k.wrap (f s*2 ^ min (g s).toNat k.bits))
 | .shr=>some ([fun s=>decide (0<=g s)],.int k fun s=>(f s).fdiv (2 ^ min (g s).toNat k.bits))
 | op=>match CW k k' with
   | none=>none
   | some _=>match op with
     | .add=>some ([],.int k fun s=>k.wrap (f s+g s))
     | .sub=>some ([],.int k fun s=>k.wrap (f s-g s))
     | .mul=>some ([],.int k fun s=>k.wrap (f s*g s))
     | .quo=>some ([fun s=>decide (g s≠0)],.int k fun s=>k.wrap ((f s).tdiv (g s)))
     | .rem=>some ([fun s=>decide (g s≠0)],.int k fun s=>(f s).tmod (g s))
     | .and=>some ([],.int k fun s=>k.wrap (BitVec.ofInt k.bits (f s) &&& BitVec.ofInt k.bits (g s)).toNat)
     | .or=>some ([],.int k fun s=>k.wrap (BitVec.ofInt k.bits (f s) ||| BitVec.ofInt k.bits (g s)).toNat)
     | .xor=>some ([],.int k fun s=>k.wrap (BitVec.ofInt k.bits (f s) ^^^ BitVec.ofInt k.bits (g s)).toNat)
     | .andNot=>some ([],.int k fun s=>k.wrap (BitVec.ofInt k.bits (f s) &&& ~~~BitVec.ofInt k.bits (g s)).toNat)
     | .eql=>some ([],.bool fun s=>decide (f s=g s))
     | .neq=>some ([],.bool fun s=>decide (f s≠g s))
     | .lss=>some ([],.bool fun s=>decide (f s<g s))
     | .leq=>some ([],.bool fun s=>decide (f s<=g s))
     | .gtr=>some ([],.bool fun s=>decide (f s > g s))
     | .geq=>some ([],.bool fun s=>decide (f s>=g s))
     | _=>none
def allT (s:σ):List (σ->Bool)->Prop
 | []=>True
 | c::cs=>c s=true/\allT s cs
theorem bV (s:σ):∀(a b:List (σ->Bool)),allT s (a++b)↔allT s a/\allT s b
 | [],b=>by simp [allT]
 | c::a,b=>by rw [List.cons_append,allT,allT,bV s a b,and_assoc]
theorem anU (s:σ) {op:BinOp} {k k':IntKind} {f g:σ->Int} {cs:List (σ->Bool)} {v:SV σ} (h:arS op k k' f g=some (cs,v)) (hc:allT s cs):(wG op (.int k (f s)) (.int k' (g s))).map (fun v=>AV.d (.val v))=some (v.c s):=by
 unfold arS at h;split at h
 ·cases h;simp only [allT,decide_eq_true_eq] at hc;simp only [wG,if_pos hc.1];rw [SV.c];rfl
 ·cases h;simp only [allT,decide_eq_true_eq] at hc;simp only [wG,if_pos hc.1];rw [SV.c];rfl
 ·rename_i n1 n2;split at h
  ·cases h
  ·rename_i hk _;obtain ⟨hk⟩:=hk;subst hk;split at h
   all_goals first
    | (cases h;done)
    | (cases h;simp only [allT,decide_eq_true_eq,ne_eq] at hc;simp only [wG,if_true,if_neg hc.1];rw [SV.c];rfl)
    | (cases h;simp only [wG,if_true];rw [SV.c];first | rfl | (simp only [eu,Option.map_some];congr 4;first | rfl | (rw [Bool.eq_iff_iff];simp)))
def stS (op:BinOp) (f g:σ->List UInt8):Option (List (σ->Bool)×SV σ) :=
 match op with
 | .eql=>some ([],.bool fun s=>decide (f s=g s))
 | .neq=>some ([],.bool fun s=>decide (f s≠g s))
 | .lss=>some ([],.bool fun s=>Op.bytesLess (f s) (g s))
 | .leq=>some ([],.bool fun s=>Op.bytesLess (f s) (g s)||decide (f s=g s))
 | .gtr=>some ([],.bool fun s => !(Op.bytesLess (f s) (g s)||decide (f s=g s)))
 | .geq=>some ([],.bool fun s => !Op.bytesLess (f s) (g s))
 | .add=>some ([fun s=>decide ((f s).length+(g s).length<=9223372036854775807)],.str fun s=>f s++g s)
 | _=>none
theorem Yf (l:List UInt8):(⟨l.toArray⟩:ByteArray).toList=l:=by rw [ByteArray.toList_eq]
theorem akl (a b:List UInt8):(⟨a.toArray⟩:ByteArray)++⟨b.toArray⟩=⟨(a++b).toArray⟩:=by
 apply ByteArray.ext;simp
theorem akm (a b:List UInt8) (h:a.length+b.length<=9223372036854775807):(((⟨a.toArray⟩:ByteArray).size+(⟨b.toArray⟩:ByteArray).size:Nat):Int)<=IntKind.i64.max:=by
 show ((a.toArray.size+b.toArray.size:Nat):Int)<=9223372036854775807;simp only [List.size_toArray];omega
theorem anV (s:σ) {op:BinOp} {f g:σ->List UInt8} {cs:List (σ->Bool)} {v:SV σ} (h:stS op f g=some (cs,v)) (hc:allT s cs):(wG op (.string ⟨(f s).toArray⟩) (.string ⟨(g s).toArray⟩)).map (fun v=>AV.d (.val v))=some (v.c s):=by
 unfold stS at h;split at h
 all_goals first
  | (cases h;done)
  | (cases h;simp only [allT,decide_eq_true_eq] at hc;simp only [wG,if_pos (akm _ _ hc.1),Option.map_some,akl];rw [SV.c];done)
  | (cases h;simp only [wG,Yf,Option.map_some];rw [SV.c];refine congrArg (fun b=>some (AV.d (DV.val (Value.bool b)))) ?_;first | rfl | (rw [Bool.eq_iff_iff];simp))
end
section
variable {σ:Type}
abbrev QR (σ:Type):=Option (List (σ->Bool)×SV σ)
def eP (s:σ) (r:QR σ) (x:Option AV):Prop:=∀cs v,r=some (cs,v)->allT s cs->x=some (v.c s)
theorem eP.none {s:σ} {x:Option AV}:eP s none x:=fun _ _ h=>by cases h
theorem eP.pure {s:σ} {v:SV σ} {x:Option AV} (h:x=some (v.c s)):eP s (some ([],v)) x:=fun _ _ e _=>by cases e;exact h
def ac7 (c a b:SV σ):QR σ :=
 match c with
 | .val (.bool true)=>some ([],a)
 | .val (.bool false)=>some ([],b)
 | .bool f=>match asB a,asB b with
   | some x,some y=>some ([],.bool fun s=>bif f s then x s else y s)
   | _,_=>match FU a,FU b with
     | some (k,x),some (k',y)=>match CW k k' with
       | some _=>some ([],.int k fun s=>bif f s then x s else y s)
       | none=>none
     | _,_=>match asS a,asS b with
       | some x,some y=>some ([],.str fun s=>bif f s then x s else y s)
       | _,_=>none
 | _=>none
theorem J9 (c:Bool) (x y:AV):(match x,y with
 | .d (.val (.bool a)),.d (.val (.bool b))=>some (eu (bif c then a else b))
 | _,_=>some (bif c then x else y))=some (bif c then x else y):=by
 split
 ·cases c<;>rfl
 ·rfl
theorem agf (s:σ) (c a b:SV σ):eP s (ac7 c a b) (match c.c s with
 | .d (.val (.bool c))=>match a.c s,b.c s with
   | .d (.val (.bool a)),.d (.val (.bool b))=>some (eu (bif c then a else b))
   | _,_=>some (bif c then a.c s else b.c s)
 | _=>none):=by
 unfold ac7;split
 ·refine eP.pure ?_;rw [SV.c];simp only;rw [J9];rfl
 ·refine eP.pure ?_;rw [SV.c];simp only;rw [J9];rfl
 ·rename_i f;rw [SV.c];simp only [eu];rw [show (match a.c s,b.c s with
   | .d (.val (.bool a)),.d (.val (.bool b))=>some (AV.d (.val (.bool (bif f s then a else b))))
   | _,_=>some (bif f s then a.c s else b.c s))=some (bif f s then a.c s else b.c s) from J9 (f s) _ _]
  split
  ·rename_i x y hx hy;refine eP.pure ?_;rw [zU hx,zU hy,SV.c];cases f s<;>rfl
  ·split
   ·rename_i k x k' y hx hy;split
    ·rename_i hk _;obtain ⟨hk⟩:=hk;subst hk;refine eP.pure ?_;rw [oI hx,oI hy,SV.c];cases f s<;>rfl
    ·exact eP.none
   ·split
    ·rename_i x y hx hy;refine eP.pure ?_;rw [tH hx,tH hy,SV.c];cases f s<;>rfl
    ·exact eP.none
 ·exact eP.none
def CY (ρ:Operand->SV σ) (parts:Array (Nat×Operand)):List (Nat×SV σ):=parts.toList.map fun p=>(p.1,ρ p.2)
def ac8 (T:Ty) (lk:Nat->Option AK) (t:Nat) (ps:List (Nat×SV σ)):QR σ :=
 match T t with
 | none=>none
 | some i=>match ps.all fun p=>TU lk p.2 with
   | false=>none
   | true=>match zeroS i.zero with
     | none=>none
     | some z=>match i.k with
       | .agg fs=>match vS T fs with
         | some pl=>match J8 (fun j=>pl[j]?) z ps with | some r=>some ([],.agg r) | none=>none
         | none=>none
       | .arr n e=>match T e with
         | some ei=>match J8 (fun j=>some (j*ei.size,ei.size)) z ps with | some r=>some ([],.agg r) | none=>none
         | none=>none
       | _=>none
def agh (k:AT) (x y:SV σ):Option (σ->Bool) :=
 match k with
 | .int _=>match FU x,FU y with
   | some (k,f),some (k',g)=>match CW k k' with | some _=>some fun s=>decide (f s=g s) | none=>none
   | _,_=>none
 | .bool=>match asB x,asB y with | some f,some g=>some fun s=>f s==g s | _,_=>none
 | .str=>match asS x,asS y with | some f,some g=>some fun s=>decide (f s=g s) | _,_=>none
 | _=>none
theorem akn (s:σ) {k:AT} {x y:SV σ} {f:σ->Bool} (h:agh k x y=some f):zq k (x.c s) (y.c s)=some (f s):=by
 unfold agh at h;split at h
 ·split at h
  ·rename_i k f k' g hx hy;split at h
   ·rename_i hk _;obtain ⟨hk⟩:=hk;subst hk;cases h;rw [oI hx,oI hy];simp only [dV,zq,if_true,Option.some.injEq];rw [Bool.eq_iff_iff];simp
   ·cases h
  ·cases h
 ·split at h
  ·rename_i f g hx hy;cases h;rw [zU hx,zU hy];rfl
  ·cases h
 ·split at h
  ·rename_i f g hx hy;cases h;rw [tH hx,tH hy];simp only [zq,Yf,Option.some.injEq];rw [Bool.eq_iff_iff];simp
  ·cases h
 ·cases h
def aqw (a b:σ->Bool):σ->Bool:=fun s=>a s&&b s
def eqS (T:Ty) (q:Nat->Bool):Nat->Nat->List (SV σ)->List (SV σ)->Option (σ->Bool)
 | 0,_,_,_=>none
 | n+1,t,xs,ys=>match T t with
   | none=>none
   | some i=>match i.k with
     | .agg fs=>match q t with
       | true=>eqFS T (eqS T q n) fs xs ys
       | false=>none
     | _=>none
where eqFS (T:Ty) (sub:Nat->List (SV σ)->List (SV σ)->Option (σ->Bool)):List (Nat×Nat)->List (SV σ)->List (SV σ)->Option (σ->Bool)
 | [],_,_=>some fun _=>true
 | (o,ft)::fs,xs,ys=>match T ft with
   | none=>none
   | some fi=>match (match fi.k.leaf with
      | true=>(match xs[o]?,ys[o]? with
        | some x,some y=>agh fi.k x y
        | _,_=>none)
      | false=>sub ft ((xs.drop o).take fi.size) ((ys.drop o).take fi.size)) with
     | none=>none
     | some a=>match fs with
       | []=>some a
       | _=>match eqFS T sub fs xs ys with
         | some b=>some (aqw a b)
         | none=>none
theorem ac9 (s:σ) (T:Ty) (q:Nat->Bool) {sub:Nat->List (SV σ)->List (SV σ)->Option (σ->Bool)} {subA:Nat->List AV->List AV->Option Bool}
 (hs:∀t xs ys f,sub t xs ys=some f->subA t (cL s xs) (cL s ys)=some (f s)):∀(fs:List (Nat×Nat)) (xs ys:List (SV σ)) (f:σ->Bool),eqS.eqFS T sub fs xs ys=some f->Dw.eqF T q subA fs (cL s xs) (cL s ys)=some (f s)
 | [],xs,ys,f,h=>by rw [eqS.eqFS] at h;cases h;rw [Dw.eqF]
 | (o,ft)::fs,xs,ys,f,h=>by
   rw [eqS.eqFS] at h;rw [Dw.eqF];cases hT:T ft with
   | none=>rw [hT] at h;cases h
   | some fi =>
     rw [hT] at h;simp only at h ⊢;have key:∀a,(match fi.k.leaf with
      | true=>(match xs[o]?,ys[o]? with
        | some x,some y=>agh fi.k x y
        | _,_=>none)
      | false=>sub ft ((xs.drop o).take fi.size) ((ys.drop o).take fi.size))=some a->(if fi.k.leaf then (match (cL s xs)[o]?,(cL s ys)[o]? with
      | some x,some y=>zq fi.k x y
      | _,_=>none) else subA ft (((cL s xs).drop o).take fi.size) (((cL s ys).drop o).take fi.size))=some (a s):=fun a ha=>by
      split at ha
      ·rename_i hl;rw [if_pos hl];split at ha
       ·rename_i x y hx hy;rw [Qu,Qu,hx,hy];exact akn s ha
       ·cases ha
      ·rename_i hl;rw [if_neg (by rw [hl];simp),<-Je,<-Jf,<-Je,<-Jf];exact hs _ _ _ _ ha
     split at h
     ·cases h
     ·rename_i a ha;refine (congrArg (fun z:Option Bool=>match z,Dw.eqF T q subA fs (cL s xs) (cL s ys) with | some a,some b=>some (a&&b) | _,_=>none) (key a ha)).trans ?_;split at h
      ·cases h;rw [Dw.eqF];simp
      ·rename_i fs' hne;split at h
       ·rename_i b hb;cases h;rw [ac9 s T q hs _ xs ys b hb];rfl
       ·cases h
theorem ada (s:σ) (T:Ty) (q:Nat->Bool):∀(n t:Nat) (xs ys:List (SV σ)) (f:σ->Bool),eqS T q n t xs ys=some f->Dw T q n t (cL s xs) (cL s ys)=some (f s)
 | 0,t,xs,ys,f,h=>by rw [eqS] at h;cases h
 | n+1,t,xs,ys,f,h=>by
   rw [eqS] at h;rw [Dw];cases hT:T t with
   | none=>rw [hT] at h;cases h
   | some i =>
     rw [hT] at h;simp only at h ⊢;split at h
     ·rename_i fs hk;split at h
      ·rename_i hq;rw [hk];simp only;rw [if_pos hq];exact ac9 s T q (fun t xs ys f h=>ada s T q n t xs ys f h) fs xs ys f h
      ·cases h
     ·cases h
def adb (lk:Nat->Option AK):SV σ->Option Bool
 | .val (.pointer none)=>some true
 | .ptr r _=>match iy lk r with | true=>some false | false=>none
 | .ptx r _ _ _=>match iy lk r with | true=>some false | false=>none
 | .dpt _ _ _ _=>some false
 | _=>none
theorem agi (s:σ) (lk:Nat->Option AK) {v:SV σ} {b:Bool} (h:adb lk v=some b):Hg lk (v.c s)=some b:=by
 unfold adb at h;split at h
 ·cases h;rw [SV.c];rfl
 ·split at h
  ·rename_i hl;cases h;rw [SV.c];simp only [Hg,hl,if_true]
  ·cases h
 ·split at h
  ·rename_i hl;cases h;rw [SV.c];simp only [Hg,hl,if_true]
  ·cases h
 ·cases h;rw [SV.c];rfl
 ·cases h
def ako (T:Ty) (q:Nat->Bool) (lk:Nat->Option AK) (op:BinOp) (t:Nat) (x y:SV σ):QR σ :=
 match asB x,asB y with
 | some f,some g=>match T t with
   | some i=>match i.k,op with
     | .bool,.eql=>some ([],.bool fun s=>f s==g s)
     | .bool,.neq=>some ([],.bool fun s=>f s != g s)
     | _,_=>none
   | none=>none
 | _,_=>match y with
   | .val (.slice none 0 0)=>match x,T t with
     | .val (.slice none 0 0),some i=>match i.k,op with
       | .slice _,.eql=>some ([],.val (.bool true))
       | .slice _,.neq=>some ([],.val (.bool false))
       | _,_=>none
     | .sl r _ _ n _,some i=>match lk r,i.k,op with
       | some (.data _),.slice _,.eql=>some ([fun s=>decide (n s≠0)],.val (.bool false))
       | some (.data _),.slice _,.neq=>some ([fun s=>decide (n s≠0)],.val (.bool true))
       | _,_,_=>none
     | _,_=>none
   | .val (.pointer none)=>match adb lk x,T t with
     | some b,some i=>match i.k,op with
       | .ptr _,.eql=>some ([],.val (.bool b))
       | .ptr _,.neq=>some ([],.val (.bool (!b)))
       | _,_=>none
     | _,_=>none
   | _=>match x,y with
     | .val a,.val b=>match wG op a b with
       | some v=>some ([],.val v)
       | none=>none
     | _,_=>match FU x,FU y with
       | some (k,f),some (k',g)=>arS op k k' f g
       | _,_=>match asS x,asS y with
         | some f,some g=>stS op f g
         | _,_=>match x,y,op with
           | .agg xs,.agg ys,.eql=>match eqS T q 20 t xs ys with | some f=>some ([],.bool f) | none=>none
           | .agg xs,.agg ys,.neq=>match eqS T q 20 t xs ys with | some f=>some ([],.bool fun s => !f s) | none=>none
           | _,_,_=>none
def FW (T:Ty) (q:Nat->Bool) (lk:Nat->Option AK) (op:BinOp) (t:Nat) (x y:AV):Option AV :=
 match x,y with
  | .d (.val (.bool a)),.d (.val (.bool b))=>match T t with
    | some i=>match i.k,op with
      | .bool,.eql=>some (eu (a==b))
      | .bool,.neq=>some (eu (a != b))
      | _,_=>none
    | none=>none
  | v,.d (.val (.slice none 0 0))=>match NJ lk v,T t with
    | some b,some i=>match i.k,op with
      | .slice _,.eql=>some (abO b)
      | .slice _,.neq=>some (abO (b.map fun b => !b))
      | _,_=>none
    | _,_=>none
  | v,.d (.val (.pointer none))=>match Hg lk v,T t with
    | some b,some i=>match i.k,op with
      | .ptr _,.eql=>some (eu b)
      | .ptr _,.neq=>some (eu (!b))
      | _,_=>none
    | _,_=>none
  | .d (.val a),.d (.val b)=>(wG op a b).map fun v => .d (.val v)
  | .agg xs,.agg ys=>match op with
    | .eql=>(Dw T q 20 t xs ys).map eu
    | .neq=>(Dw T q 20 t xs ys).map fun b=>eu !b
    | _=>none
  | _,_=>none
theorem aaS (T:Ty) (q:Nat->Bool) (lk:Nat->Option AK) {op:BinOp} (t:Nat) {a b v:Value} (h:wG op a b=some v):FW T q lk op t (.d (.val a)) (.d (.val b))=some (.d (.val v)):=by
 have h0:=h;unfold wG at h;split at h
 all_goals first
  | (cases h;done)
  | (simp only [FW];rw [h0];rfl)
theorem ade (T:Ty) (q:Nat->Bool) (lk:Nat->Option AK) (op:BinOp) (t:Nat) (k k':IntKind) (a b:Int):FW T q lk op t (dV k a) (dV k' b)=(wG op (.int k a) (.int k' b)).map fun v => .d (.val v):=rfl
theorem adf (T:Ty) (q:Nat->Bool) (lk:Nat->Option AK) (op:BinOp) (t:Nat) (a b:ByteArray):FW T q lk op t (.d (.val (.string a))) (.d (.val (.string b)))=(wG op (.string a) (.string b)).map fun v => .d (.val v):=rfl
theorem akp (s:σ) (T:Ty) (q:Nat->Bool) (lk:Nat->Option AK) (op:BinOp) (t:Nat) (x y:SV σ):eP s (ako T q lk op t x y) (FW T q lk op t (x.c s) (y.c s)):=by
 unfold ako;split
 ·rename_i f g hf hg;rw [zU hf,zU hg];cases hT:T t with
  | none=>exact eP.none
  | some i =>
    simp only;split
    ·rename_i hk;refine eP.pure ?_;simp only [eu,FW,hT,hk];rw [SV.c];rfl
    ·rename_i hk;refine eP.pure ?_;simp only [eu,FW,hT,hk];rw [SV.c];rfl
    ·exact eP.none
 ·split
  ·split
   ·rename_i i hT _;split
    ·rename_i hk;refine eP.pure ?_;rw [SV.c];simp only [FW,NJ,hT,hk,abO];rw [SV.c];rfl
    ·rename_i hk;refine eP.pure ?_;rw [SV.c];simp only [FW,NJ,hT,hk,abO];rw [SV.c];rfl
    ·exact eP.none
   ·rename_i r z o n cap i hT _;split
    ·rename_i hr hk;intro cs v h1 h2;cases h1;have hn:n s≠0:=of_decide_eq_true h2.1;simp only [SV.c,FW,NJ,hr,hT,hk,if_neg hn,abO,eu]
    ·rename_i hr hk;intro cs v h1 h2;cases h1;have hn:n s≠0:=of_decide_eq_true h2.1;simp only [SV.c,FW,NJ,hr,hT,hk,if_neg hn,abO,eu,Option.map_some,Bool.not_false]
    ·exact eP.none
   ·exact eP.none
  ·split
   ·rename_i b i hn hT;have hn':=agi s lk hn;split
    ·rename_i hk;refine eP.pure ?_;rw [show (SV.val (Value.pointer none):SV σ).c s = .d (.val (.pointer none)) from by rw [SV.c]];simp only [FW,hn',hT,hk];rw [SV.c];rfl
    ·rename_i hk;refine eP.pure ?_;rw [show (SV.val (Value.pointer none):SV σ).c s = .d (.val (.pointer none)) from by rw [SV.c]];simp only [FW,hn',hT,hk];rw [SV.c];rfl
    ·exact eP.none
   ·exact eP.none
  ·split
   ·rename_i a b _ _ _;split
    ·rename_i v hv;refine eP.pure ?_;rw [SV.c,SV.c,SV.c];exact aaS T q lk t hv
    ·exact eP.none
   ·split
    ·rename_i k f k' g hf hg;intro cs v h1 h2;rw [oI hf,oI hg,ade];exact anU s h1 h2
    ·split
     ·rename_i f g hf hg;intro cs v h1 h2;rw [tH hf,tH hg,adf];exact anV s h1 h2
     ·split
      ·split
       ·rename_i f hf;refine eP.pure ?_;simp only [SV.c];show Option.map _ (Dw T q 20 t (cL s _) (cL s _))=_;rw [ada s T q _ _ _ _ _ hf];rfl
       ·exact eP.none
      ·split
       ·rename_i f hf;refine eP.pure ?_;simp only [SV.c];show Option.map _ (Dw T q 20 t (cL s _) (cL s _))=_;rw [ada s T q _ _ _ _ _ hf];rfl
       ·exact eP.none
      ·exact eP.none
def unS (op:UnOp) (x:SV σ):QR σ :=
 match x with
 | .val a=>match unV op a with | some v=>some ([],.val v) | none=>none
 | .int k f=>match op with
   | .neg=>some ([],.int k fun s=>k.wrap (0-f s))
   | .xor=>some ([],.int k fun s=>k.wrap (BitVec.ofInt k.bits (if k.signed then -1 else k.max) ^^^ BitVec.ofInt k.bits (f s)).toNat)
   | _=>none
 | .bool f=>match op with
   | .not=>some ([],.bool fun s => !f s)
   | _=>none
 | _=>none
def unA (op:UnOp) (x:AV):Option AV :=
 match x with
  | .d (.val a)=>(unV op a).map fun v => .d (.val v)
  | _=>none
theorem anW (s:σ) (op:UnOp) (x:SV σ):eP s (unS op x) (unA op (x.c s)):=by
 unfold unS;split
 ·split
  ·rename_i v hv;refine eP.pure ?_;rw [SV.c,SV.c];simp only [unA,hv,Option.map_some]
  ·exact eP.none
 ·split
  ·refine eP.pure ?_;rw [SV.c,SV.c];rfl
  ·refine eP.pure ?_;rw [SV.c,SV.c];rfl
  ·exact eP.none
 ·split
  ·refine eP.pure ?_;rw [SV.c,SV.c];rfl
  ·exact eP.none
 ·exact eP.none
def adg (T:Ty) (src dst:Nat) (x:SV σ):QR σ :=
 match T src,T dst with
 | some si,some di=>match si.k,di.k,x with
   | .int _,.int k,.val (.int _ n)=>some ([],.val (.int k (k.wrap n)))
   | .int _,.int k,.int k0 f=>match CW k0 k with
     | some _=>some ([],.int k fun s=>k.wrap (f s))
     | none=>some ([],.int k fun s=>k.wrap (f s))
   | .str,.str,.val (.string b)=>some ([],.val (.string b))
   | .str,.str,.str f=>some ([],.str f)
   | _,_,_=>none
 | _,_=>none
def ajf (T:Ty) (src dst:Nat) (x:AV):Option AV :=
 match T src,T dst with
  | some si,some di=>match si.k,di.k,x with
    | .int _,.int k,.d (.val (.int _ n))=>some (dV k (k.wrap n))
    | .str,.str,.d (.val (.string s))=>some (.d (.val (.string s)))
    | _,_,_=>none
  | _,_=>none
theorem agj (s:σ) (T:Ty) (src dst:Nat) (x:SV σ):eP s (adg T src dst x) (ajf T src dst (x.c s)):=by
 unfold adg ajf;split
 ·split
  ·rename_i h1 h2;refine eP.pure ?_;rw [SV.c,SV.c];simp only [h1,h2];rfl
  ·rename_i h1 h2;split
   ·refine eP.pure ?_;rw [SV.c,SV.c];simp only [h1,h2,dV]
   ·refine eP.pure ?_;rw [SV.c,SV.c];simp only [h1,h2,dV]
  ·rename_i h1 h2;refine eP.pure ?_;rw [SV.c];simp only [h1,h2]
  ·rename_i h1 h2;refine eP.pure ?_;rw [SV.c];simp only [h1,h2]
  ·exact eP.none
 ·exact eP.none
def agk (v:SV σ) (n:Nat):Option Nat :=
 match v with
 | .val (.int _ i)=>match decide (0<=i/\i<(n:Int)) with | true=>some i.toNat | false=>none
 | _=>none
theorem adh (s:σ) {v:SV σ} {n j:Nat} (h:agk v n=some j):idx? (v.c s) n=some j:=by
 unfold agk at h;split at h
 ·split at h
  ·rename_i hd;cases h;rw [SV.c];simp only [idx?,if_pos (of_decide_eq_true hd)]
  ·cases h
 ·cases h
theorem A8 (s:σ) {v:SV σ} {k:IntKind} {f:σ->Int} (hv:FU v=some (k,f)) {n:Nat} (h:decide (0<=f s/\f s<(n:Int))=true):idx? (v.c s) n=some (f s).toNat:=by
 rw [oI hv];simp only [idx?,dV,if_pos (of_decide_eq_true h)]
theorem OT (s:σ) {v:SV σ} {k:IntKind} {f:σ->Int} (hv:FU v=some (k,f)) {n:Nat} (h:decide (0<=f s/\f s<=(n:Int))=true):idxLe? (v.c s) n=some (f s).toNat:=by
 rw [oI hv];simp only [idxLe?,dV,if_pos (of_decide_eq_true h)]
end
section
variable {σ:Type}
def adi (lk:Nat->Option AK) (v:SV σ):QR σ :=
 match v with
 | .ptr r off=>match iy lk r with | true=>some ([],.ptr r off) | false=>none
 | .ptx r z j off=>match iy lk r with | true=>some ([],.ptx r z j off) | false=>none
 | .dpt t f j off=>some ([],.dpt t f j off)
 | .clo f cs=>some ([],.clo f cs)
 | _=>none
theorem agl (s:σ) (lk:Nat->Option AK) (v:SV σ):eP s (adi lk v) (match v.c s with
 | .ptr r off=>if iy lk r then some (.ptr r off) else none
 | .dptr cells off=>some (.dptr cells off)
 | .clo f caps=>some (.clo f caps)
 | _=>none):=by
 unfold adi;split
 ·split
  ·rename_i h;refine eP.pure ?_;rw [SV.c];simp only [h,if_true]
  ·exact eP.none
 ·split
  ·rename_i h;refine eP.pure ?_;rw [SV.c];simp only [h,if_true]
  ·exact eP.none
 ·refine eP.pure ?_;rw [SV.c]
 ·refine eP.pure ?_;rw [SV.c]
 ·exact eP.none
def faS (T:Ty) (lk:Nat->Option AK) (t j:Nat) (v:SV σ):QR σ :=
 match T t with
 | some i=>match i.k with
   | .agg fs=>match fs[j]? with
     | some (fo,ft)=>match T ft with
       | some fi=>match decide (fi.size=0) with
         | true=>none
         | false=>match v with
           | .ptr r off=>match iy lk r with | true=>some ([],.ptr r (off+fo)) | false=>none
           | .ptx r z j off=>match iy lk r with | true=>some ([],.ptx r z j (off+fo)) | false=>none
           | .dpt t f j off=>some ([],.dpt t f j (off+fo))
           | _=>none
       | none=>none
     | none=>none
   | _=>none
 | none=>none
theorem anX (s:σ) (T:Ty) (lk:Nat->Option AK) (t j:Nat) (v:SV σ):eP s (faS T lk t j v) (match T t with
 | some i=>match i.k with
   | .agg fs=>match fs[j]? with
     | some (fo,ft)=>match T ft with
       | some fi=>if fi.size=0 then none else match v.c s with
         | .ptr r off=>if iy lk r then some (.ptr r (off+fo)) else none
         | .dptr cells off=>some (.dptr cells (off+fo))
         | _=>none
       | none=>none
     | none=>none
   | _=>none
 | none=>none):=by
 unfold faS;cases hT:T t with
 | none=>exact eP.none
 | some i =>
   simp only;split
   ·rename_i fs hk;cases hj:fs[j]? with
    | none=>exact eP.none
    | some p =>
      obtain ⟨fo,ft⟩:=p;simp only;cases hF:T ft with
      | none=>exact eP.none
      | some fi =>
        simp only;split
        ·exact eP.none
        ·rename_i hd;have hd:=of_decide_eq_false hd;rw [if_neg hd];split
         ·split
          ·rename_i h;refine eP.pure ?_;rw [SV.c];simp only [h,if_true];rw [SV.c]
          ·exact eP.none
         ·split
          ·rename_i h;refine eP.pure ?_;rw [SV.c];simp only [h,if_true];rw [SV.c,Nat.add_assoc]
          ·exact eP.none
         ·refine eP.pure ?_;rw [SV.c];simp only;rw [SV.c,Nat.add_assoc]
         ·exact eP.none
   ·exact eP.none
def fdS (T:Ty) (t j:Nat) (v:SV σ):QR σ :=
 match T t with
 | some i=>match i.k with
   | .agg fs=>match fs[j]? with
     | some (fo,ft)=>match T ft with
       | some fi=>match v with
         | .agg cs=>match Ee fi cs fo with | some x=>some ([],x) | none=>none
         | _=>none
       | none=>none
     | none=>none
   | _=>none
 | none=>none
theorem anY (s:σ) (T:Ty) (t j:Nat) (v:SV σ):eP s (fdS T t j v) (match T t with
 | some i=>match i.k with
   | .agg fs=>match fs[j]? with
     | some (fo,ft)=>match T ft with
       | some fi=>match v.c s with
         | .agg cs=>jY fi cs fo
         | _=>none
       | none=>none
     | none=>none
   | _=>none
 | none=>none):=by
 unfold fdS;cases hT:T t with
 | none=>exact eP.none
 | some i =>
   simp only;split
   ·rename_i fs hk;cases hj:fs[j]? with
    | none=>exact eP.none
    | some p =>
      obtain ⟨fo,ft⟩:=p;simp only;cases hF:T ft with
      | none=>exact eP.none
      | some fi =>
        simp only;split
        ·split
         ·rename_i x hx;refine eP.pure ?_;rw [SV.c];exact yE s hx
         ·exact eP.none
        ·exact eP.none
   ·exact eP.none
def iaS (T:Ty) (lk:Nat->Option AK) (t:Nat) (x ix:SV σ):QR σ :=
 match T t with
 | some i=>match i.k with
   | .arr n e=>match T e with
     | some ei=>match agk ix n with
       | some j=>match x with
         | .ptr r off=>match iy lk r with | true=>some ([],.ptr r (off+j*ei.size)) | false=>none
         | .ptx r z j' off=>match iy lk r with | true=>some ([],.ptx r z j' (off+j*ei.size)) | false=>none
         | .dpt t f j' off=>match decide (off=0/\fK t=ei.size) with
           | true=>some ([],.dpt t f (fun s=>j' s+j) 0)
           | false=>some ([],.dpt t f j' (off+j*ei.size))
         | _=>none
       | none=>match FU ix,x with
         | some (_,f),.ptr r off=>match iy lk r with
           | true=>some ([fun s=>decide (0<=f s/\f s<(n:Int))],.ptx r ei.size (fun s=>(f s).toNat) off)
           | false=>none
         | some (_,f),.ptx r z j off=>match iy lk r&&decide (z=(z / ei.size)*ei.size) with
           | true=>some ([fun s=>decide (0<=f s/\f s<(n:Int))],.ptx r ei.size (fun s=>j s*(z / ei.size)+(f s).toNat) off)
           | false=>none
         | some (_,f),.dpt t l j' off=>match decide (off=0/\fK t=ei.size) with
           | true=>some ([fun s=>decide (0<=f s/\f s<(n:Int))],.dpt t l (fun s=>j' s+(f s).toNat) 0)
           | false=>none
         | _,_=>none
     | none=>none
   | .slice e=>match T e with
     | some ei=>match FU ix,x with
       | some (_,f),.sl r z o n cap=>match decide (z=ei.size)&&iy lk r with
         | true=>some ([fun s=>decide (0<=f s/\f s<(n s:Int))],.ptx r z (match o with | some o=>fun s=>o s+(f s).toNat | none=>fun s=>(f s).toNat) 0)
         | false=>none
       | some (_,f),.lst t l=>match decide (fK t=ei.size/\0<fK t) with
         | true=>some ([fun s=>decide (0<=f s/\f s<((l s).length:Int))],.dpt t l (fun s=>(f s).toNat) 0)
         | false=>none
       | _,_=>none
     | none=>none
   | _=>none
 | none=>none
def iaA (T:Ty) (lk:Nat->Option AK) (t:Nat) (x ix:AV):Option AV :=
 match T t with
  | some i=>match i.k with
    | .arr n e=>match T e with
      | some ei=>match idx? ix n with
        | some j=>match x with
          | .ptr r off=>if iy lk r then some (.ptr r (off+j*ei.size)) else none
          | .dptr cells off=>some (.dptr cells (off+j*ei.size))
          | _=>none
        | none=>none
      | none=>none
    | .slice e=>match T e with
      | some ei=>match x with
        | .sl r off n cap=>match idx? ix n with
          | some j=>if iy lk r then some (.ptr r (off+j*ei.size)) else none
          | none=>none
        | .d (.dl cells n cap)=>match idx? ix n with
          | some j=>if cells.isEmpty then none else some (.dptr cells (j*ei.size))
          | none=>none
        | _=>none
      | none=>none
    | _=>none
  | none=>none
theorem anZ (s:σ) (T:Ty) (lk:Nat->Option AK) (t:Nat) (x ix:SV σ):eP s (iaS T lk t x ix) (iaA T lk t (x.c s) (ix.c s)):=by
 unfold iaS iaA;cases hT:T t with
 | none=>exact eP.none
 | some i =>
   simp only;split
   ·rename_i n e hk;cases hE:T e with
    | none=>exact eP.none
    | some ei =>
      simp only;split
      ·rename_i j hj;rw [adh s hj];simp only;split
       ·split
        ·rename_i h;refine eP.pure ?_;rw [SV.c];simp only [h,if_true];rw [SV.c]
        ·exact eP.none
       ·split
        ·rename_i h;refine eP.pure ?_;rw [SV.c];simp only [h,if_true];rw [SV.c,Nat.add_assoc]
        ·exact eP.none
       ·split
        ·rename_i h;simp only [decide_eq_true_eq] at h;obtain ⟨rfl,hz⟩:=h;refine eP.pure ?_;rw [SV.c];simp only;rw [SV.c,<-hz,Nat.add_mul];rfl
        ·refine eP.pure ?_;rw [SV.c];simp only;rw [SV.c,Nat.add_assoc]
       ·exact eP.none
      ·split
       ·rename_i k f r off hf;split
        ·rename_i h;intro cs v h1 h2;cases h1;rw [A8 s hf h2.1,SV.c];simp only [h,if_true];rw [SV.c,Nat.add_comm]
        ·exact eP.none
       ·rename_i k f r z j off hf;split
        ·rename_i h;simp only [Bool.and_eq_true,decide_eq_true_eq] at h;obtain ⟨h,hz⟩:=h;intro cs v h1 h2;cases h1;rw [A8 s hf h2.1,SV.c];simp only [h,if_true];rw [SV.c,Nat.add_mul,Nat.mul_assoc,<-hz];congr 2;omega
        ·exact eP.none
       ·rename_i k f t l j' off hf;split
        ·rename_i h;simp only [decide_eq_true_eq] at h;obtain ⟨rfl,hz⟩:=h;intro cs v h1 h2;cases h1;rw [A8 s hf h2.1,SV.c];simp only;rw [SV.c,<-hz,Nat.add_mul];rfl
        ·exact eP.none
       ·exact eP.none
   ·rename_i e hk;cases hE:T e with
    | none=>exact eP.none
    | some ei =>
      simp only;split
      ·rename_i k f r z o n cap hf;split
       ·rename_i h;simp only [Bool.and_eq_true,decide_eq_true_eq] at h;obtain ⟨hz,h⟩:=h;intro cs v h1 h2;cases h1;simp only [SV.c];rw [A8 s hf h2.1];simp only [h,if_true];rw [Nat.add_zero,<-hz];cases o with
        | none=>simp only [wK,Nat.zero_mul,Nat.zero_add]
        | some o=>simp only [wK,Nat.add_mul]
       ·exact eP.none
      ·rename_i k f t' l hf;split
       ·rename_i h;obtain ⟨hz,hp⟩:=of_decide_eq_true h;intro cs v h1 h2;cases h1;simp only [SV.c];rw [A8 s hf h2.1];have hlt:=of_decide_eq_true h2.1;have hne:(aI t' (l s)).isEmpty=false:=by
         have hlen:=bI t' (l s);have hpos:0<(l s).length*fK t':=Nat.mul_pos (by omega) hp;cases hc:aI t' (l s) with
         | nil=>rw [hc] at hlen;simp at hlen;omega
         | cons _ _=>rfl
        simp only [hne,Bool.false_eq_true,if_false];rw [Nat.add_zero,hz]
       ·exact eP.none
      ·exact eP.none
   ·exact eP.none
def OU (k:IntKind):List (SV σ)->Option (List (σ->Int))
 | []=>some []
 | x::l=>match FU x,OU k l with
   | some (k',f),some fs=>match decide (k'=k) with | true=>some (f::fs) | false=>none
   | _,_=>none
def OV (s:σ):List (σ->Int)->List Int
 | []=>[]
 | f::l=>f s::OV s l
theorem Qv (s:σ) (k:IntKind):∀(cs:List (SV σ)) (fs:List (σ->Int)),OU k cs=some fs->cL s cs=(OV s fs).map (dV k)
 | [],fs,h=>by rw [OU] at h;cases h;rfl
 | x::l,fs,h=>by
   rw [OU] at h;split at h
   ·rename_i k' f fs' hx hl;split at h
    ·rename_i hk;have hk:=of_decide_eq_true hk;cases h;subst hk;rw [cL,OV,List.map_cons,Qv s _ l fs' hl,oI hx]
    ·cases h
   ·cases h
def ixD (n:Nat) (ei:TI) (cs:List (SV σ)) (ix:SV σ):QR σ :=
 match FU ix,cs.head?.bind FU with
 | some (_,g),some (k,_)=>match OU k cs,decide (ei.size=1/\cs.length=n/\ei.k.isAgg=false) with
   | some fs,true=>some ([fun s=>decide (0<=g s/\g s<(n:Int))],.int k fun s=>(OV s fs).getD (g s).toNat 0)
   | _,_=>none
 | _,_=>none
def vO (k:IntKind):List (SV σ)->List (σ->Int)
 | []=>[]
 | x::l=>match FU x with
   | some (k',f)=>match decide (k'=k) with | true=>f::vO k l | false=>[]
   | none=>[]
theorem Wp (s:σ) (k:IntKind):∀cs:List (SV σ),cL s (cs.take (vO k cs).length)=(OV s (vO k cs)).map (dV k)
 | []=>rfl
 | x::l=>by
   rw [vO];split
   ·rename_i k' f hx;split
    ·rename_i hk;have hk:=of_decide_eq_true hk;subst hk;rw [List.length_cons,List.take_succ_cons,cL,OV,List.map_cons,Wp s _ l,oI hx]
    ·rfl
   ·rfl
def adk:List (SV σ)->Option IntKind
 | []=>none
 | x::_=>match FU x with
   | some (k,_)=>some k
   | none=>none
def adl (L:List Int) (p:Nat) (new:List Int):List Int:=L.take p++new++L.drop (p+new.length)
def Ko (k:IntKind) (L:σ->List Int):Nat->Nat->List (SV σ)
 | 0,_=>[]
 | n+1,q => .int k (fun s=>(L s).getD q 0)::Ko k L n (q+1)
theorem TW (s:σ) (k:IntKind) (L:σ->List Int):∀n q,q+n=(L s).length->cL s (Ko k L n q)=((L s).drop q).map (dV k)
 | 0,q,h=>by rw [List.drop_eq_nil_of_le (by omega)];rfl
 | n+1,q,h=>by
   have hq:q<(L s).length:=by omega
   rw [Ko,cL,TW s k L n (q+1) (by omega),List.drop_eq_getElem_cons hq,List.map_cons,SV.c,List.getD_eq_getElem?_getD,List.getElem?_eq_getElem hq];rfl
theorem TY (L:List Int) (p:Nat) (new:List Int) (h:p+new.length<=L.length):(adl L p new).length=L.length:=by
 unfold adl;rw [List.length_append,List.length_append,List.length_take,List.length_drop];omega
theorem uV (s:σ):∀fs:List (σ->Int),(OV s fs).length=fs.length
 | []=>rfl
 | f::l=>by rw [OV,List.length_cons,List.length_cons,uV s l]
theorem an0 (s:σ) (n:Nat) (ei:TI) (cs:List (SV σ)) (ix:SV σ):eP s (ixD n ei cs ix) (match idx? (ix.c s) n with
 | some j=>jY ei (cL s cs) (j*ei.size)
 | none=>none):=by
 unfold ixD;split
 ·rename_i k0 g k f0 hg h0;split
  ·rename_i fs hfs hd;obtain ⟨h1,h2,h3⟩:=of_decide_eq_true hd;intro cs' v e1 e2;cases e1;rw [A8 s hg e2.1];have hb:=of_decide_eq_true e2.1;have hc:=Qv s k cs fs hfs;have hl:(OV s fs).length=n:=by rw [<-h2,<-jO s cs,hc,List.length_map]
   have hj:(g s).toNat<(OV s fs).length:=by omega
   simp only [jY,h1,h3,Nat.mul_one,Bool.false_eq_true,if_false,hc];rw [List.getElem?_map,List.getElem?_eq_getElem hj,SV.c,List.getD_eq_getElem?_getD,List.getElem?_eq_getElem hj];rfl
  ·exact eP.none
 ·exact eP.none
def ixS (T:Ty) (t:Nat) (x ix:SV σ):QR σ :=
 match T t with
 | some i=>match i.k with
   | .arr n e=>match T e with
     | some ei=>match agk ix n,x with
       | some j,.agg cs=>match Ee ei cs (j*ei.size) with | some v=>some ([],v) | none=>none
       | none,.agg cs=>ixD n ei cs ix
       | _,_=>none
     | none=>none
   | .str=>match asS x,FU ix with
     | some f,some (_,g)=>some ([fun s=>decide (0<=g s/\g s<((f s).length:Int))],.int .u8 fun s=>(((f s).getD (g s).toNat 0).toNat:Int))
     | _,_=>none
   | _=>none
 | none=>none
theorem an1 (s:σ) (T:Ty) (t:Nat) (x ix:SV σ):eP s (ixS T t x ix) (match T t with
 | some i=>match i.k with
   | .arr n e=>match T e with
     | some ei=>match idx? (ix.c s) n,x.c s with
       | some j,.agg cs=>jY ei cs (j*ei.size)
       | _,_=>none
     | none=>none
   | .str=>match x.c s,ix.c s with
     | .d (.val (.string s)),.d (.val (.int _ j))=>if 0<=j then (match s.data.toList[j.toNat]? with
       | some b=>some (dV .u8 b.toNat)
       | none=>none) else none
     | _,_=>none
   | _=>none
 | none=>none):=by
 unfold ixS;cases hT:T t with
 | none=>exact eP.none
 | some i =>
   simp only;split
   ·rename_i n e hk;cases hE:T e with
    | none=>exact eP.none
    | some ei =>
      simp only;split
      ·rename_i j cs hj;rw [adh s hj];split
       ·rename_i v hv;refine eP.pure ?_;rw [SV.c];exact yE s hv
       ·exact eP.none
      ·rename_i cs hj;have:=an0 s n ei cs ix;rw [SV.c];cases hx:idx? (ix.c s) n with
       | none=>rw [hx] at this;exact this
       | some j=>rw [hx] at this;exact this
      ·exact eP.none
   ·split
    ·rename_i f k g hf hg;intro cs v h1 h2;cases h1;rw [tH hf,oI hg];have hd:=of_decide_eq_true h2.1;simp only [dV];rw [if_pos hd.1];have hlt:(g s).toNat<(f s).length:=by omega
     show (match (f s)[(g s).toNat]? with | some b=>some (AV.d (.val (.int .u8 b.toNat))) | none=>none)=_;rw [List.getElem?_eq_getElem hlt,SV.c];simp only [dV,List.getD_eq_getElem?_getD,List.getElem?_eq_getElem hlt,Option.getD_some]
    ·exact eP.none
   ·exact eP.none
structure Bd (σ:Type) where
 cs:List (σ->Bool)
 l:Option (σ->Nat)
 h:σ->Nat
 m:Option (σ->Nat)
def hiS (n:σ->Nat) (hi:Option (SV σ)):Option (List (σ->Bool)×(σ->Nat)) :=
 match hi with
 | none=>some ([],n)
 | some v=>match FU v with
   | some (_,f)=>some ([fun s=>decide (0<=f s/\f s<=(n s:Int))],fun s=>(f s).toNat)
   | none=>none
def loS (n:σ->Nat) (lo:Option (SV σ)):Option (List (σ->Bool)×Option (σ->Nat)) :=
 match lo with
 | none=>some ([],none)
 | some v=>match FU v with
   | some (_,f)=>some ([fun s=>decide (0<=f s/\f s<=(n s:Int))],some fun s=>(f s).toNat)
   | none=>none
def bdS (n:σ->Nat) (lo hi mx:Option (SV σ)):Option (Bd σ) :=
 match mx with
 | none=>match hiS n hi with
   | none=>none
   | some (c1,h)=>match loS h lo with
     | none=>none
     | some (c2,l)=>some ⟨c1++c2,l,h,none⟩
 | some mv=>match hi with
   | none=>none
   | some hv=>match hiS n (some mv) with
     | none=>none
     | some (c0,m)=>match hiS m (some hv) with
       | none=>none
       | some (c1,h)=>match loS h lo with
         | none=>none
         | some (c2,l)=>some ⟨c0++(c1++c2),l,h,some m⟩
theorem adn (s:σ) {n:σ->Nat} {hi:Option (SV σ)} {c:List (σ->Bool)} {h:σ->Nat} (e:hiS n hi=some (c,h)) (hc:allT s c):Dx (hi.map (·.c s)) (n s) (n s)=some (h s)/\h s<=n s:=by
 unfold hiS at e;split at e
 ·cases e;exact ⟨rfl,Nat.le_refl _⟩
 ·split at e
  ·rename_i hf;cases e;have:=of_decide_eq_true hc.1;exact ⟨OT s hf hc.1,by show (_:Int).toNat<=_;omega⟩
  ·cases e
theorem ajg (s:σ) {n:σ->Nat} {lo:Option (SV σ)} {c:List (σ->Bool)} {l:Option (σ->Nat)} (e:loS n lo=some (c,l)) (hc:allT s c):Dx (lo.map (·.c s)) 0 (n s)=some (wK s l)/\wK s l<=n s:=by
 unfold loS at e;split at e
 ·cases e;exact ⟨rfl,Nat.zero_le _⟩
 ·split at e
  ·rename_i hf;cases e;have:=of_decide_eq_true hc.1;exact ⟨OT s hf hc.1,by simp only [wK];omega⟩
  ·cases e
theorem Yg (s:σ) {n:σ->Nat} {lo hi mx:Option (SV σ)} {b:Bd σ} (e:bdS n lo hi mx=some b) (hc:allT s b.cs):NH (n s) (lo.map (·.c s)) (hi.map (·.c s)) (mx.map (·.c s))=some (wK s b.l,b.h s,cOf s b.m)/\wK s b.l<=b.h s/\b.h s<=n s:=by
 unfold bdS at e;split at e
 ·split at e
  ·cases e
  ·rename_i c1 h h1;split at e
   ·cases e
   ·rename_i c2 l h2;cases e;rw [bV] at hc;obtain ⟨g1,g2⟩:=adn s h1 hc.1;obtain ⟨g3,g4⟩:=ajg s h2 hc.2;refine ⟨?_,g4,g2⟩;simp only [NH,Option.map_none,g1,g3];rfl
 ·split at e
  ·cases e
  ·split at e
   ·cases e
   ·rename_i c0 m h0;split at e
    ·cases e
    ·rename_i c1 h h1;split at e
     ·cases e
     ·rename_i c2 l h2;cases e;rw [bV,bV] at hc;obtain ⟨q1,q2⟩:=adn s h0 hc.1;obtain ⟨g1,g2⟩:=adn s h1 hc.2.1;obtain ⟨g3,g4⟩:=ajg s h2 hc.2.2;refine ⟨?_,g4,Nat.le_trans g2 q2⟩;simp only [Option.map_some,Dx] at q1 g1;simp only [NH,Option.map_some,q1,g1,g3];rfl
def agn {α:Type} (l:Option (σ->Nat)) (h:Option (σ->Nat)) (f:σ->List α):σ->List α :=
 match l,h with
 | none,none=>f
 | none,some h=>fun s=>(f s).take (h s)
 | some l,none=>fun s=>(f s).drop (l s)
 | some l,some h=>fun s=>((f s).drop (l s)).take (h s-l s)
theorem ado {α:Type} (s:σ) (l h:Option (σ->Nat)) (f:σ->List α) {n:Nat} (hn:n=match h with | some h=>h s | none=>(f s).length):agn l h f s=((f s).drop (wK s l)).take (n-wK s l):=by
 cases l<;>cases h<;>simp only [agn,wK,List.drop_zero,Nat.sub_zero] at * <;> subst hn<;>try rfl
 ·rw [List.take_length]
 ·rw [List.take_of_length_le];simp
end
section
variable {σ:Type}
def addN (a b:Option (σ->Nat)):Option (σ->Nat) :=
 match a,b with
 | none,b=>b
 | a,none=>a
 | some a,some b=>some fun s=>a s+b s
theorem akq (s:σ) (a b:Option (σ->Nat)):wK s (addN a b)=wK s a+wK s b:=by
 cases a<;>cases b<;>simp [addN,wK]
def Wq (h:σ->Nat) (l:Option (σ->Nat)):σ->Nat :=
 match l with
 | none=>h
 | some l=>fun s=>h s-l s
theorem Kq (s:σ) (h:σ->Nat) (l:Option (σ->Nat)):Wq h l s=h s-wK s l:=by
 cases l<;>simp [Wq,wK]
def aaT (n:σ->Nat) (cap:Cp σ) (h:Option (σ->Nat)) (m l:Option (σ->Nat)):Cp σ :=
 match m with
 | none=>match cap with
   | .unk => .unk
   | .full=>match h with | none => .full | some _ => .fn (Wq n l)
   | .fn c => .fn (Wq c l)
 | some m => .fn (Wq m l)
theorem akr (s:σ) (n:σ->Nat) (cap:Cp σ) (h m l:Option (σ->Nat)) (hh:σ->Nat) (hn:hh s=match h with | some h=>h s | none=>n s):sF s (Wq hh l s) (aaT n cap h m l)=capOf (sF s (n s) cap) (cOf s m) (wK s l):=by
 cases m with
 | none=>cases cap with
   | unk=>rfl
   | full=>cases h with
     | none=>simp only [aaT,cOf,sF,capOf,Option.map_some,Kq,hn]
     | some h=>simp only [aaT,cOf,sF,capOf,Option.map_some,Kq]
   | fn c=>simp only [aaT,cOf,sF,capOf,Option.map_some,Kq]
 | some m=>simp only [aaT,cOf,sF,capOf,Kq]
def hiO (hi:Option (SV σ)) (h:σ->Nat):Option (σ->Nat):=match hi with | none=>none | some _=>some h
def aks (T:Ty) (lk:Nat->Option AK) (t:Nat) (x:SV σ) (lo hi mx:Option (SV σ)):QR σ :=
 match T t with
 | some i=>match i.k with
   | .slice e=>match T e with
     | some ei=>match x with
       | .sl r z o n cap=>match lk r with
         | some (.data z')=>match decide (z'=ei.size/\z=ei.size),bdS n lo hi mx with
           | true,some b=>some (b.cs,.sl r z (addN o b.l) (Wq b.h b.l) (aaT n cap (hiO hi b.h) b.m b.l))
           | _,_=>none
         | _=>none
       | .val (.slice none 0 0)=>match bdS (fun _=>0) lo hi mx with
         | some b=>some (b.cs,.val (.slice none 0 0))
         | none=>none
       | .lst u f=>match decide (fK u=ei.size),bdS (fun s=>(f s).length) lo hi mx with
         | true,some b=>some (b.cs,.lst u (agn b.l (hiO hi b.h) f))
         | _,_=>none
       | _=>none
     | none=>none
   | .str=>match mx with
     | some _=>none
     | none=>match asS x with
       | some f=>match bdS (fun s=>(f s).length) lo hi none with
         | some b=>some (b.cs,.str (agn b.l (hiO hi b.h) f))
         | none=>none
       | none=>none
   | _=>none
 | none=>none
def an2 (T:Ty) (lk:Nat->Option AK) (t:Nat) (x:AV) (lo hi mx:Option AV):Option AV :=
 match T t with
  | some i=>match i.k with
    | .slice e=>match T e with
      | some ei=>match x with
        | .sl r off n cap=>match lk r with
          | some (.data s)=>if s=ei.size then mO ei.size (.sl r off n cap) lo hi mx else none
          | _=>none
        | .d (.val (.slice none 0 0))=>mO ei.size (.d (.val (.slice none 0 0))) lo hi mx
        | .d (.dl cells n cap)=>mO ei.size (.d (.dl cells n cap)) lo hi mx
        | _=>none
      | none=>none
    | .str=>match x with
      | .d (.val (.string s))=>mO 0 (.d (.val (.string s))) lo hi mx
      | _=>none
    | _=>none
  | none=>none
theorem adp (s:σ) {n:σ->Nat} {lo hi mx:Option (SV σ)} {b:Bd σ} (e:bdS n lo hi mx=some b):b.h s=match hiO hi b.h with | some h=>h s | none=>n s:=by
 cases hi with
 | some _=>rfl
 | none =>
   cases mx with
   | none =>
     simp only [bdS,hiS] at e;split at e
     ·cases e
     ·cases e;rfl
   | some _=>simp only [bdS] at e;cases e
theorem akt (l:List UInt8) (a b:Nat):(⟨l.toArray⟩:ByteArray).extract a b=⟨((l.drop a).take (b-a)).toArray⟩:=by
 apply ByteArray.ext;rw [ByteArray.data_extract];simp
theorem aku (s:σ) (T:Ty) (lk:Nat->Option AK) (t:Nat) (x:SV σ) (lo hi mx:Option (SV σ)):eP s (aks T lk t x lo hi mx) (an2 T lk t (x.c s) (lo.map (·.c s)) (hi.map (·.c s)) (mx.map (·.c s))):=by
 unfold aks an2;cases hT:T t with
 | none=>exact eP.none
 | some i =>
   simp only;split
   ·rename_i e hk;cases hE:T e with
    | none=>exact eP.none
    | some ei =>
      simp only;split
      ·rename_i r z o n cap;split
       ·rename_i z' hl;split
        ·rename_i b hd hb;obtain ⟨h1,h2⟩:=of_decide_eq_true hd;intro cs v e1 e2;cases e1;obtain ⟨g1,g2,g3⟩:=Yg s hb e2;simp only [SV.c,hl];rw [if_pos h1];simp only [mO,g1];rw [akq,akr s n cap _ _ _ _ (adp s hb),Kq,Nat.add_mul,h2]
        ·exact eP.none
       ·exact eP.none
      ·split
       ·rename_i b hb;intro cs v e1 e2;cases e1;obtain ⟨g1,g2,g3⟩:=Yg s hb e2;simp only [SV.c,mO,g1]
       ·exact eP.none
      ·rename_i u f;split
       ·rename_i b hd hb;have h1:=of_decide_eq_true hd;intro cs v e1 e2;cases e1;obtain ⟨g1,g2,g3⟩:=Yg s hb e2;have hn:=adp s hb;have hcap:capD none (cOf s b.m) (wK s b.l)=none:=by cases b.m<;>rfl
        simp only [SV.c,mO,g1,hcap];have hcut:=ado s b.l (hiO hi b.h) f (n:=b.h s) hn;rw [hcut,<-h1,jo,gy];simp only [List.length_take,List.length_drop];rw [Nat.min_eq_left (by omega)]
       ·exact eP.none
      ·exact eP.none
   ·split
    ·exact eP.none
    ·split
     ·rename_i f hf;split
      ·rename_i b hb;intro cs v e1 e2;cases e1;obtain ⟨g1,g2,g3⟩:=Yg s hb e2;have hn:=adp s hb;simp only [Option.map_none] at g1;have hcut:=ado s b.l (hiO hi b.h) f (n:=b.h s) hn;rw [tH hf];have hsz:(⟨(f s).toArray⟩:ByteArray).size=(f s).length:=by show (f s).toArray.size=_;simp
       simp only [SV.c,mO,Option.map_none,hsz,g1,akt,hcut]
      ·exact eP.none
     ·exact eP.none
   ·exact eP.none
def OW (f:Int->Int->Int) (a:σ->Int):List (SV σ)->Option (σ->Int)
 | []=>some a
 | v::l=>match FU v with
   | some (_,b)=>OW f (fun s=>f (a s) (b s)) l
   | none=>none
theorem Qw (s:σ) (f:Int->Int->Int) (k:IntKind):∀(l:List (SV σ)) (a r:σ->Int),OW f a l=some r->zu f k (a s) (cL s l)=some (r s)
 | [],a,r,h=>by rw [OW] at h;cases h;rw [cL,zu]
 | v::l,a,r,h=>by
   rw [OW] at h;split at h
   ·rename_i k' b hb;rw [cL,oI hb,dV,zu];exact Qw s f k l _ r h
   ·cases h
def biS (T:Ty) (b:Builtin) (ts:List Nat) (args:List (SV σ)):QR σ :=
 match b,args with
 | .len,[x]=>match ts with
   | t::_=>match T t with
     | some i=>match i.k,x with
       | .str,.val (.string b)=>some ([],.val (.int .i64 b.size))
       | .str,.str f=>some ([],.int .i64 fun s=>((f s).length:Int))
       | .slice _,.lst u f=>some ([],.int .i64 fun s=>((f s).length:Int))
       | .slice _,.val (.slice none 0 0)=>some ([],.val (.int .i64 0))
       | .slice _,.sl _ _ _ n _=>some ([],.int .i64 fun s=>(n s:Int))
       | _,_=>none
     | none=>none
   | []=>none
 | .min,x::l=>match FU x with
   | some (k,a)=>match OW xX a l with | some r=>some ([],.int k r) | none=>none
   | none=>none
 | .max,x::l=>match FU x with
   | some (k,a)=>match OW dM a l with | some r=>some ([],.int k r) | none=>none
   | none=>none
 | _,_=>none
theorem an3 (s:σ) (T:Ty) (b:Builtin) (ts:List Nat) (args:List (SV σ)):eP s (biS T b ts args) (Z7 T b ts (cL s args)):=by
 unfold biS Z7;split
 ·split
  ·rename_i t _;cases hT:T t with
   | none=>exact eP.none
   | some i =>
     simp only;split
     ·rename_i h1;refine eP.pure ?_;simp only [cL,SV.c,h1,hT,dV]
     ·rename_i h1;refine eP.pure ?_;simp only [cL,SV.c,h1,hT,dV];show some (AV.d (.val (.int .i64 (((_:List UInt8).toArray.size:Nat):Int))))=_;simp
     ·rename_i h1;refine eP.pure ?_;simp only [cL,SV.c,h1,hT,dV]
     ·rename_i h1;refine eP.pure ?_;simp only [cL,SV.c,h1,hT,dV]
     ·rename_i h1;refine eP.pure ?_;simp only [cL,SV.c,h1,hT,dV]
     ·exact eP.none
  ·exact eP.none
 ·split
  ·rename_i k a ha;split
   ·rename_i r hr;refine eP.pure ?_;simp only [cL,oI ha,dV];rw [Qw s xX k _ _ _ hr,SV.c];rfl
   ·exact eP.none
  ·exact eP.none
 ·split
  ·rename_i k a ha;split
   ·rename_i r hr;refine eP.pure ?_;simp only [cL,oI ha,dV];rw [Qw s dM k _ _ _ hr,SV.c];rfl
   ·exact eP.none
  ·exact eP.none
 ·exact eP.none
def Qx (lk:Nat->Option AK):SV σ->Bool
 | .sl r _ _ _ _=>iy lk r
 | _=>true
theorem aaU (s:σ) (lk:Nat->Option AK) (v:SV σ) (h:Qx lk v=true):zx lk (v.c s)=true:=by
 cases v<;>simp_all [Qx,SV.c,zx,dV,eu]
def sQ (T:Ty) (q:Nat->Bool) (lk:Nat->Option AK) (o:Oper) (ρ:Operand->SV σ):QR σ :=
 match o.op with
 | .move x=>some ([],ρ x)
 | .assign x=>some ([],ρ x)
 | .pick c a b=>ac7 (ρ c) (ρ a) (ρ b)
 | .build t parts=>ac8 T lk t (CY ρ parts)
 | .nilCheck x=>adi lk (ρ x)
 | .binOp op t x y _=>ako T q lk op t (ρ x) (ρ y)
 | .unOp op _ x=>unS op (ρ x)
 | .convert src dst x=>adg T src dst (ρ x)
 | .makeFunc fn first caps=>match fn with
   | .func f=>match Nat.blt f 1048576 with
     | true=>some ([],.clo (f+1048576*first.size) (first.toList.map ρ++caps.toList.map ρ))
     | false=>none
   | _=>none
 | .fieldAddr t x j=>faS T lk t j (ρ x)
 | .field t x j=>fdS T t j (ρ x)
 | .indexAddr t x ix=>iaS T lk t (ρ x) (ρ ix)
 | .index t x ix=>ixS T t (ρ x) (ρ ix)
 | .slice t x lo hi mx=>aks T lk t (ρ x) (lo.map ρ) (hi.map ρ) (mx.map ρ)
 | .extract x j=>match ρ x with
   | .tup vs=>match vs[j]? with | some v=>some ([],v) | none=>none
   | _=>none
 | .call c=>match c.callee with
   | .builtin b=>match c.args.toList.all fun x=>Qx lk (ρ x) with
     | true=>biS T b c.argTypes.toList (c.args.toList.map ρ)
     | false=>none
   | _=>none
 | _=>none
theorem FY (s:σ) (ρ:Operand->SV σ) (x:Option Operand):x.map (fun x=>(ρ x).c s)=(x.map ρ).map (·.c s):=by cases x<;>rfl
theorem qO (s:σ) (ρ:Operand->SV σ) (l:List Operand):l.map (fun x=>(ρ x).c s)=cL s (l.map ρ):=by rw [iK,List.map_map];rfl
theorem aqE (s:σ) (T:Ty) (q:Nat->Bool) (lk:Nat->Option AK) (o:Oper) (ρ:Operand->SV σ):eP s (sQ T q lk o ρ) (Ci T q lk o fun x=>(ρ x).c s):=by
 unfold sQ Ci;cases ho:o.op with
 | move x=>exact eP.pure rfl
 | assign x=>exact eP.pure rfl
 | pick c a b=>exact agf s _ _ _
 | build t parts =>
   simp only;unfold ac8;cases hT:T t with
   | none=>exact eP.none
   | some i =>
     simp only;split
     ·exact eP.none
     ·rename_i hall;have hall':(parts.toList.all fun p=>zo lk ((ρ p.2).c s))=true:=by
       rw [List.all_eq_true] at hall ⊢;intro p hp;rw [J7];exact hall (p.1,ρ p.2) (List.mem_map.2 ⟨p,hp,rfl⟩)
      rw [if_neg (by rw [hall'];simp)];split
      ·exact eP.none
      ·rename_i z hz;have hz':=Eh s hz;have hp':(parts.toList.map fun p=>(p.1,(ρ p.2).c s))=(CY ρ parts).map fun p=>(p.1,p.2.c s):=by unfold CY;rw [List.map_map];rfl
       split
       ·rename_i fs hk;split
        ·rename_i pl hpl;split
         ·rename_i r hr;refine eP.pure ?_;simp only [hk,hpl];rw [SV.c,<-hz',hp',Jg s _ _ _ _ hr,Option.map_some]
         ·exact eP.none
        ·exact eP.none
       ·rename_i n e hk;split
        ·rename_i ei hei;split
         ·rename_i r hr;refine eP.pure ?_;simp only [hk,hei];rw [SV.c,<-hz',hp',Jg s _ _ _ _ hr,Option.map_some]
         ·exact eP.none
        ·exact eP.none
       ·exact eP.none
 | nilCheck x=>exact agl s lk _
 | binOp op t x y ty=>exact akp s T q lk _ _ _ _
 | unOp op t x=>exact anW s _ _
 | convert a b x=>exact agj s T _ _ _
 | makeFunc fn first caps =>
   simp only;cases fn with
   | func f =>
     simp only;split
     ·rename_i hb;refine eP.pure ?_;rw [if_pos hb,SV.c,pG,qO,qO]
     ·exact eP.none
   | _=>exact eP.none
 | fieldAddr t x j=>exact anX s T lk _ _ _
 | field t x j=>exact anY s T _ _ _
 | indexAddr t x ix=>exact anZ s T lk _ _ _
 | index t x ix=>exact an1 s T _ _ _
 | slice t x lo hi mx =>
   have:=aku s T lk t (ρ x) (lo.map ρ) (hi.map ρ) (mx.map ρ);rw [<-FY,<-FY,<-FY] at this;exact this
 | extract x j =>
   simp only;split
   ·rename_i vs hv;split
    ·rename_i v hj;refine eP.pure ?_;rw [hv,SV.c];show (cL s vs)[j]? = _;rw [Qu,hj,Option.map_some]
    ·exact eP.none
   ·exact eP.none
 | call c =>
   simp only;cases hc:c.callee with
   | builtin b =>
     simp only;split
     ·rename_i hall;have hall':c.args.toList.all (fun x=>zx lk ((ρ x).c s))=true:=List.all_eq_true.2 fun x hx=>aaU s lk _ (List.all_eq_true.1 hall x hx);rw [if_pos hall',qO];exact an3 s T _ _ _
     ·exact eP.none
   | _=>exact eP.none
 | _=>exact eP.none
end
inductive HR:Type->Type 1 where
 | ok {σ:Type} (v:SV σ) (us:List (Nat×SO σ)):HR σ
 | req {σ:Type} (c:List (σ->Bool)) (r:HR σ):HR σ
 | bnd {σ α:Type} (f:σ->Option α) (r:HR (σ×α)):HR σ
 | fail {σ:Type} (msg:String):HR σ
 | iff {σ:Type} (c:σ->Bool) (t e:HR σ):HR σ
def HR.Ok:{σ:Type}->HR σ->σ->Option (AV×List (Nat×AO))->Prop
 | _,.ok v us,s,x=>x=some (v.c s,cO s us)
 | _,.req c r,s,x=>allT s c->r.Ok s x
 | _,.bnd f r,s,x=>∀a,f s=some a->r.Ok (s,a) x
 | _,.fail _,_,_=>True
 | _,.iff c t e,s,x=>bif c s then t.Ok s x else e.Ok s x
theorem Ei:∀(t:U) (x:t.T),(gU t x).map wV=gU t x
 | .int k,n=>rfl
 | .bool,b=>rfl
 | .str,s=>rfl
 | .list t,l=>rfl
 | .pair a b,p=>by
   show (gU a p.1++gU b p.2).map wV=gU a p.1++gU b p.2;rw [List.map_append,Ei a,Ei b]
 | .unit,_=>rfl
theorem yF (rd:Nat->Option AO):∀l:List DV,gQ rd (l.map .d)=some (l.map wV,[])
 | []=>rfl
 | x::l=>by rw [List.map_cons,gQ,Dy,yF rd l];rfl
theorem yG {rd:Nat->Option AO}:∀ {a b:List AV} {xs ys:List DV} {us vs:List (Nat×AO)},gQ rd a=some (xs,us)->gQ rd b=some (ys,vs)->gQ rd (a++b)=some (xs++ys,us++vs)
 | [],b,xs,ys,us,vs,h,k=>by rw [gQ] at h;cases h;exact k
 | x::a,b,xs,ys,us,vs,h,k=>by
   rw [gQ] at h;rw [List.cons_append,gQ];cases hx:Dy rd x with
   | none=>rw [hx] at h;cases h
   | some y =>
     rw [hx] at h;cases ha:gQ rd a with
     | none=>rw [ha] at h;cases h
     | some r =>
       rw [ha] at h;cases h;rw [yG ha k];simp
theorem zV {rd:Nat->Option AO}:∀ {a b:List AV} {xs:List DV} {us:List (Nat×AO)},gQ rd (a++b)=some (xs,us)->∃x1 x2 u1 u2,gQ rd a=some (x1,u1)/\gQ rd b=some (x2,u2)/\xs=x1++x2/\us=u1++u2
 | [],b,xs,us,h=>⟨[],xs,[],us,rfl,h,rfl,rfl⟩
 | x::a,b,xs,us,h=>by
   rw [List.cons_append,gQ] at h;cases hx:Dy rd x with
   | none=>rw [hx] at h;cases h
   | some y =>
     rw [hx] at h;cases ha:gQ rd (a++b) with
     | none=>rw [ha] at h;cases h
     | some r =>
       rw [ha] at h;cases h;obtain ⟨x1,x2,u1,u2,h1,h2,h3,h4⟩:=zV ha;refine ⟨y.1::x1,x2,y.2++u1,u2,by rw [gQ,hx,h1],h2,by rw [h3];rfl,by rw [h4,List.append_assoc]⟩
theorem Kr:∀(n:Nat) (cs:List DV) (o:Nat),o+n<=cs.length->takeD cs o n=some (((cs.drop o).take n).map .d)
 | 0,cs,o,h=>by simp [takeD]
 | n+1,cs,o,h=>by
   rw [takeD,List.getElem?_eq_getElem (by omega),Kr n cs (o+1) (by omega),List.drop_eq_getElem_cons (by omega:o<cs.length)];rfl
section
variable {σ:Type}
def iq {a b:U} (h:a=b) (f:σ->List a.T):σ->List b.T:=h▸f
def rowP {α:Type} (o:Option (σ->Nat)) (n:σ->Nat) (f:σ->List α):σ->List α :=
 match o with
 | none=>fun s=>(f s).take (n s)
 | some o=>fun s=>((f s).drop (o s)).take (n s)
theorem vY {α:Type} (s:σ) (o:Option (σ->Nat)) (n:σ->Nat) (f:σ->List α):rowP o n f s=((f s).drop (wK s o)).take (n s):=by
 cases o<;>simp [rowP,wK]
def Ua {α:Type} (o:Option (σ->Nat)) (n:σ->Nat) (f:σ->List α):σ->Bool :=
 match o with
 | none=>fun s=>decide (n s<=(f s).length)
 | some o=>fun s=>decide (o s+n s<=(f s).length)
theorem yH {α:Type} {s:σ} {o:Option (σ->Nat)} {n:σ->Nat} {f:σ->List α} (h:Ua o n f s=true):wK s o+n s<=(f s).length:=by
 cases o<;>simp only [Ua,decide_eq_true_eq,wK] at * <;> omega
structure PK (σ:Type) (t:Type) where
 f:σ->t
 cs:List (σ->Bool)
 fz:List (Nat×SO σ)
def pkL (rd:Nat->Option (SO σ)) (t:U) (v:SV σ):Option (PK σ (List t.T)) :=
 match v with
 | .lst u f=>match Vq u t with | some ⟨h⟩=>some ⟨iq h f,[],[]⟩ | none=>none
 | .val (.slice none 0 0)=>some ⟨fun _=>[],[],[]⟩
 | .sl r z o n _=>match rd r with
   | some (.data e u f wr)=>match Vq u t,decide (z=fK u) with
     | some ⟨h⟩,true=>some ⟨iq h (rowP o n f),[Ua o n f],[(r,.data e u f false)]⟩
     | _,_=>none
   | _=>none
 | _=>none
def I5 (rd:Nat->Option (SO σ)):(t:U)->List (SV σ)->Option (PK σ t.T)
 | .int k,cells=>match cells with
   | [v]=>match FU v with
     | some (k',f)=>match CW k k' with | some _=>some ⟨f,[],[]⟩ | none=>none
     | none=>none
   | _=>none
 | .bool,cells=>match cells with
   | [v]=>match asB v with | some f=>some ⟨f,[],[]⟩ | none=>none
   | _=>none
 | .str,cells=>match cells with
   | [v]=>match asS v with | some f=>some ⟨f,[],[]⟩ | none=>none
   | _=>none
 | .list t,cells=>match cells with
   | [v]=>pkL rd t v
   | _=>none
 | .pair a b,cells=>match I5 rd a (cells.take (fK a)),I5 rd b (cells.drop (fK a)) with
   | some x,some y=>some ⟨fun s=>(x.f s,y.f s),x.cs++y.cs,x.fz++y.fz⟩
   | _,_=>none
 | .unit,cells=>match cells with
   | []=>some ⟨fun _=>(),[],[]⟩
   | _=>none
def iL (s:σ) (rd:Nat->Option (SO σ)):Nat->Option AO:=fun r=>(rd r).map (·.c s)
theorem an4 (s:σ) {rd:Nat->Option (SO σ)} {t:U} {v:SV σ} {p:PK σ (List t.T)} (h:pkL rd t v=some p) (hc:allT s p.cs):Dy (iL s rd) (v.c s)=some (.dl (aI t (p.f s)) (p.f s).length none,cO s p.fz):=by
 unfold pkL at h;split at h
 ·split at h
  ·rename_i hk _;subst hk;cases h;rw [SV.c];rfl
  ·cases h
 ·cases h;rw [SV.c];rfl
 ·rename_i r z o n cap;split at h
  ·rename_i e u f wr hr;split at h
   ·rename_i hk _ hz;subst hk;cases h;have hz:=of_decide_eq_true hz;have h1:=yH hc.1;rw [SV.c];simp only [Dy,iL,hr,Option.map_some,SO.c,iq,cO];rw [vY,hz,jo,gy,List.length_take,List.length_drop,Nat.min_eq_left (by omega)]
   ·cases h
  ·cases h
 ·cases h
theorem Ub (s:σ) {rd:Nat->Option (SO σ)}:∀(t:U) (cells:List (SV σ)) (p:PK σ t.T),I5 rd t cells=some p->allT s p.cs->gQ (iL s rd) (cL s cells)=some (gU t (p.f s),cO s p.fz)
 | .int k,cells,p,h,hc=>by
   simp only [I5] at h;split at h
   ·split at h
    ·rename_i hf;split at h
     ·rename_i hk _;obtain ⟨hk⟩:=hk;subst hk;cases h;simp only [cL,oI hf,dV,gQ,Dy];rfl
     ·cases h
    ·cases h
   ·cases h
 | .bool,cells,p,h,hc=>by
   simp only [I5] at h;split at h
   ·split at h
    ·rename_i hf;cases h;simp only [cL,zU hf,eu,gQ,Dy];rfl
    ·cases h
   ·cases h
 | .str,cells,p,h,hc=>by
   simp only [I5] at h;split at h
   ·split at h
    ·rename_i hf;cases h;simp only [cL,tH hf,gQ,Dy];rfl
    ·cases h
   ·cases h
 | .list t,cells,p,h,hc=>by
   simp only [I5] at h;split at h
   ·have:=an4 s h hc;simp only [cL,gQ,this,List.append_nil];rfl
   ·cases h
 | .pair a b,cells,p,h,hc=>by
   simp only [I5] at h;split at h
   ·rename_i x y hx hy;cases h;rw [bV] at hc;have h1:=Ub s a _ x hx hc.1;have h2:=Ub s b _ y hy hc.2;have:=yG h1 h2;rw [<-pG,List.take_append_drop] at this;rw [this,dJ];rfl
   ·cases h
 | .unit,cells,p,h,hc=>by
   simp only [I5] at h;split at h
   ·cases h;rfl
   ·cases h
def pkN (rd:Nat->Option (SO σ)) (t:U):Nat->List (SV σ)->Option (PK σ (List t.T))
 | 0,cells=>match cells with | []=>some ⟨fun _=>[],[],[]⟩ | _=>none
 | n+1,cells=>match I5 rd t (cells.take (fK t)),pkN rd t n (cells.drop (fK t)) with
   | some x,some y=>some ⟨fun s=>x.f s::y.f s,x.cs++y.cs,x.fz++y.fz⟩
   | _,_=>none
theorem ajh (s:σ) {rd:Nat->Option (SO σ)} {t:U}:∀(n:Nat) (cells:List (SV σ)) (p:PK σ (List t.T)),pkN rd t n cells=some p->allT s p.cs->gQ (iL s rd) (cL s cells)=some (aI t (p.f s),cO s p.fz)/\(p.f s).length=n
 | 0,cells,p,h,hc=>by
   simp only [pkN] at h;split at h
   ·cases h;exact ⟨rfl,rfl⟩
   ·cases h
 | n+1,cells,p,h,hc=>by
   simp only [pkN] at h;split at h
   ·rename_i x y hx hy;cases h;rw [bV] at hc;have h1:=Ub s t _ x hx hc.1;obtain ⟨h2,h3⟩:=ajh s n _ y hy hc.2;have:=yG h1 h2;rw [<-pG,List.take_append_drop] at this;exact ⟨by rw [this,dJ];rfl,by rw [List.length_cons,h3]⟩
   ·cases h
def Kt (T:Ty):Nat->Nat->Option U
 | 0,_=>none
 | n+1,t=>match T t with
   | none=>none
   | some i=>match i.k with
     | .int k=>some (.int k)
     | .bool=>some .bool
     | .str=>some .str
     | .slice e=>match Kt T n e with | some u=>some (.list u) | none=>none
     | .agg fs=>pairs (fs.map fun f=>Kt T n f.2)
     | .arr m e=>pairs (List.replicate m (Kt T n e))
     | _=>none
where pairs:List (Option U)->Option U
 | []=>some .unit
 | [u]=>u
 | u::l=>match u,pairs l with | some u,some v=>some (.pair u v) | _,_=>none
def Ku (i:TI) (u:U) (off:Nat):Option (SV (σ×u.T)):=Ee i (unU u fun p=>p.2) off
theorem FZ {σ:Type} (s:σ) {i:TI} {u:U} {l:List u.T} {j off:Nat} {x:u.T} (hx:l[j]? = some x) {v:SV (σ×u.T)} (h:Ku i u off=some v) (hs:off<fK u\/i.k.isAgg=true):zy i (aI u l) (j*fK u+off)=some (v.c (s,x)):=by
 unfold Ku at h;have hp:=yE (s,x) h;rw [Ye] at hp;unfold jY at hp;unfold zy;split
 ·rename_i hk;rw [if_pos hk] at hp;split at hp
  ·rename_i hle;rw [List.length_map,bU] at hle;rw [<-Option.some.inj hp];have hlen:(j+1)*fK u<=(aI u l).length:=by
    rw [bI];exact Nat.mul_le_mul_right _ (List.getElem?_eq_some_iff.1 hx).1
   rw [Nat.succ_mul] at hlen;rw [Kr _ _ _ (by omega),Option.map_some];congr 2;rw [<-List.drop_drop,J5 u hx,List.drop_append_of_le_length (by rw [bU];omega),List.take_append_of_le_length (by rw [List.length_drop,bU];omega),List.map_take,List.map_drop]
  ·cases hp
 ·rename_i hk;rw [if_neg hk] at hp;rw [aaR u hx (by rcases hs with h | h;exact h;exact (hk h).elim)];rw [List.getElem?_map] at hp;exact hp
theorem OX {σ:Type} (s:σ) {i:TI} {u:U} {l:List u.T} {j off:Nat} {x:u.T} (hx:l[j]? = some x) {v:SV (σ×u.T)} (h:Ku i u off=some v) (hs:off<fK u\/i.k.isAgg=true):jY i ((aI u l).map .d) (j*fK u+off)=some (v.c (s,x)):=by
 have h1:=FZ s hx h hs;unfold zy at h1;unfold jY;split
 ·rename_i hk;rw [if_pos hk] at h1;have hlen:(j+1)*fK u<=(aI u l).length:=by
   rw [bI];exact Nat.mul_le_mul_right _ (List.getElem?_eq_some_iff.1 hx).1
  rw [Nat.succ_mul] at hlen;have hle:off+i.size<=fK u:=by
   have hp:=yE (s,x) (show Ee i (unU u fun p=>p.2) off=some v from h);unfold jY at hp;rw [if_pos hk] at hp;split at hp
   ·rename_i hle;rw [jO,CX] at hle;exact hle
   ·cases hp
  rw [if_pos (by rw [List.length_map];omega)];rw [Kr _ _ _ (by omega)] at h1;simp only [Option.map_some] at h1;rw [<-h1,List.map_take,List.map_drop]
 ·rename_i hk;rw [if_neg hk] at h1;rw [List.getElem?_map];exact h1
def Uc (i:TI) (u:U) (off:Nat):Bool:=decide (off<fK u)||i.k.isAgg
theorem agp (s:σ) (k:IntKind) (cs:List (SV σ)) (off j:Nat) (a:Int) (h:(OV s (vO k (cs.drop off)))[j]? = some a):(cL s cs)[j+off]? = some (dV k a):=by
 have h1:=Wp s k (cs.drop off);have h2:=uV s (vO k (cs.drop off));have hj:=(List.getElem?_eq_some_iff.1 h).1;generalize hF:vO k (cs.drop off)=F at *
 have e:((cs.drop off).take F.length)[j]? = cs[j+off]? := by
  rw [List.getElem?_take,if_pos (by omega),List.getElem?_drop,Nat.add_comm]
 have e2:(cL s ((cs.drop off).take F.length))[j]? = (cL s cs)[j+off]? := by
  rw [iK,iK,List.getElem?_map,List.getElem?_map,e]
 rw [<-e2,h1,List.getElem?_map,h];rfl
def adq (i:TI) (cs:List (SV σ)) (z:Nat) (j:σ->Nat) (off:Nat):Nat->HR σ
 | 0 => .fail "load: index"
 | n+1=>match Ee i cs (n*z+off) with
   | some v => .iff (fun s=>decide (j s=n)) (.ok v []) (adq i cs z j off n)
   | none=>adq i cs z j off n
theorem Ws (s:σ) (i:TI) (cs:List (SV σ)) (z:Nat) (j:σ->Nat) (off:Nat):∀n,(adq i cs z j off n).Ok s ((jY i (cL s cs) (j s*z+off)).map fun v=>(v,[]))
 | 0=>trivial
 | n+1=>by
   rw [adq];split
   ·rename_i v hv;rw [HR.Ok];cases h:decide (j s=n) with
    | true =>
      rw [of_decide_eq_true h,yE s hv];rfl
    | false=>exact Ws s i cs z j off n
   ·exact Ws s i cs z j off n
def adr (T:Ty) (rd:Nat->Option (SO σ)) (t:Nat) (x:SV σ):HR σ :=
 match T t with
 | some i=>match x with
   | .ptr r off=>match rd r with
     | some (.mix cs)=>match Ee i cs off with | some v => .ok v [] | none => .fail "load: part"
     | some (.arr u f)=>match decide (fK u=1),i.k.isAgg with
       | true,false=>match (Ku i u 0:Option (SV (σ×u.T))) with
         | some v => .bnd (fun s=>(f s)[off]?) (.ok v [])
         | none => .fail "load: element"
       | _,_ => .fail "load: array"
     | _ => .fail "load: object"
   | .ptx r z j off=>match rd r with
     | some (.data e u f wr)=>match decide (z=fK u)&&Uc i u off,(Ku i u off:Option (SV (σ×u.T))) with
       | true,some v => .bnd (fun s=>(f s)[j s]?) (.ok v [])
       | _,_ => .fail "load: element"
     | some (.arr u f)=>match decide (z=fK u)&&Uc i u off,(Ku i u off:Option (SV (σ×u.T))) with
       | true,some v => .bnd (fun s=>(f s)[j s]?) (.ok v [])
       | _,_ => .fail "load: element"
     | some (.mix cs)=>match adk (cs.drop off),decide (i.size=1/\z=1/\i.k.isAgg=false) with
       | some k,true => .bnd (fun s=>(OV s (vO k (cs.drop off)))[j s]?) (.ok (.int k fun p=>p.2) [])
       | _,_=>match decide (0<z/\cs.length<=40) with
         | true=>adq i cs z j off ((cs.length-off+z-1) / z)
         | false => .fail "load: object"
     | _ => .fail "load: object"
   | .dpt u f j off=>match Uc i u off&&decide (0<fK u),(Ku i u off:Option (SV (σ×u.T))) with
     | true,some v => .bnd (fun s=>(f s)[j s]?) (.ok v [])
     | _,_ => .fail "load: element"
   | _ => .fail "load"
 | none => .fail "load: type"
def ads (T:Ty) (rd:Nat->Option AO) (t:Nat) (x:AV):Option (AV×List (Nat×AO)) :=
 match T t with
  | some i=>match x with
    | .ptr r off=>match rd r with
      | some (.data _ _ cs _)=>zy i cs off |>.map fun v=>(v,[])
      | some (.mix cs)=>jY i cs off |>.map fun v=>(v,[])
      | _=>none
    | .dptr cells off=>if cells.isEmpty then none else zy i cells off |>.map fun v=>(v,[])
    | _=>none
  | none=>none
theorem agq {u:U} {l:List u.T} {j:Nat} {x:u.T} (h:l[j]? = some x) (hu:0<fK u):(aI u l).isEmpty=false:=by
 have h1:=(List.getElem?_eq_some_iff.1 h).1;have hlen:=bI u l;have hpos:0<l.length*fK u:=Nat.mul_pos (by omega) hu;cases hc:aI u l with
 | nil=>rw [hc] at hlen;simp at hlen;omega
 | cons _ _=>rfl
theorem Kv {i:TI} {u:U} {off:Nat} (h:Uc i u off=true):off<fK u\/i.k.isAgg=true:=by
 unfold Uc at h;simpa using h
theorem agr (s:σ) (T:Ty) (rd:Nat->Option (SO σ)) (t:Nat) (x:SV σ):(adr T rd t x).Ok s (ads T (iL s rd) t (x.c s)):=by
 unfold adr ads;cases hT:T t with
 | none=>trivial
 | some i =>
   simp only;split
   ·rename_i r off;split
    ·rename_i cs hr;split
     ·rename_i v hv;simp only [HR.Ok,SV.c,iL,hr,Option.map_some,SO.c,yE s hv,cO]
     ·trivial
    ·rename_i u f hr;split
     ·rename_i hz hk;split
      ·rename_i v hv;intro a ha;have hz:=of_decide_eq_true hz;have:=OX s ha hv (.inl (by omega));rw [hz,Nat.mul_one,Nat.add_zero] at this;simp only [HR.Ok,SV.c,iL,hr,Option.map_some,SO.c,this,cO]
      ·trivial
     ·trivial
    ·trivial
   ·rename_i r z j off;split
    ·rename_i e u f wr hr;split
     ·rename_i v hz hv;simp only [Bool.and_eq_true,decide_eq_true_eq] at hz;intro a ha;have:=FZ s ha hv (Kv hz.2);simp only [HR.Ok,SV.c,iL,hr,Option.map_some,SO.c,hz.1,this,cO]
     ·trivial
    ·rename_i u f hr;split
     ·rename_i v hz hv;simp only [Bool.and_eq_true,decide_eq_true_eq] at hz;intro a ha;have:=OX s ha hv (Kv hz.2);simp only [HR.Ok,SV.c,iL,hr,Option.map_some,SO.c,hz.1,this,cO]
     ·trivial
    ·rename_i cs hr;split
     ·rename_i k hk hd;obtain ⟨h1,h2,h3⟩:=of_decide_eq_true hd;intro a ha;have:=agp s k cs off (j s) a ha;simp only [HR.Ok,SV.c,iL,hr,Option.map_some,SO.c,cO];rw [h2,Nat.mul_one];unfold jY;rw [if_neg (by rw [h3];decide),this,Option.map_some]
     ·split
      ·have:=Ws s i cs z j off ((cs.length-off+z-1) / z);simp only [SV.c,iL,hr,Option.map_some,SO.c];exact this
      ·trivial
    ·trivial
   ·rename_i u f j off;split
    ·rename_i v hz hv;simp only [Bool.and_eq_true,decide_eq_true_eq] at hz;intro a ha;have:=FZ s ha hv (Kv hz.1);simp only [HR.Ok,SV.c,agq ha hz.2,this,Option.map_some,cO];rfl
    ·trivial
   ·trivial
end
theorem Ej {α:Type}:∀(A L:List α) (o:Nat) (new:List α),splice (A++L) (A.length+o) new=A++splice L o new
 | [],L,o,new=>by simp
 | a::A,L,o,new=>by
   rw [List.cons_append,List.length_cons,show A.length+1+o=(A.length+o)+1 from by omega,splice,Ej A L o new];rfl
theorem Ih {α:Type}:∀(X B:List α) (o:Nat) (new:List α),o+new.length<=X.length->splice (X++B) o new=splice X o new++B
 | X,B,0,new,h=>by rw [splice,splice,List.drop_append_of_le_length (by omega),List.append_assoc]
 | [],B,o+1,new,h=>by simp at h
 | x::X,B,o+1,new,h=>by
   rw [List.cons_append,splice,splice,Ih X B o new (by simp at h;omega)];rfl
theorem uz {α:Type}:∀(l:List α) (o:Nat) (new:List α),o<=l.length->splice l o new=l.take o++new++l.drop (o+new.length)
 | l,0,new,h=>by rw [splice];simp
 | [],o+1,new,h=>by simp at h
 | x::l,o+1,new,h=>by
   rw [splice,uz l o new (by simp at h;omega),List.take_succ_cons,show o+1+new.length=(o+new.length)+1 from by omega,List.drop_succ_cons];rfl
theorem Ud {u:U} {l:List u.T} {j:Nat} {x:u.T} (h:l[j]? = some x) (x':u.T) {off:Nat} {ns:List DV} (hn:off+ns.length<=fK u) (he:gU u x'=splice (gU u x) off ns):splice (aI u l) (j*fK u+off) ns=aI u (l.set j x'):=by
 obtain ⟨hj,hx⟩:=List.getElem?_eq_some_iff.1 h;have h1:aI u l=aI u (l.take j)++(gU u x++aI u (l.drop (j+1))):=by
  rw [<-J5 u h,jo,<-jJ,List.take_append_drop]
 have h2:(aI u (l.take j)).length=j*fK u:=by rw [bI,List.length_take,Nat.min_eq_left (by omega)]
 rw [h1,<-h2,Ej,Ih _ _ _ _ (by rw [bU];exact hn),<-he,List.set_eq_take_append_cons_drop,if_pos hj,jJ];rfl
section
variable {σ:Type}
def Ba (lk:Nat->Option AK):SV σ->Bool
 | .agg _=>false
 | x=>TU lk x
theorem aaV (s:σ) {rd:Nat->Option AO} {v:SV σ} (h:Ba (kinds rd) v=true):pX rd (v.c s)=true:=by
 have h2:TU (kinds rd) v=true:=by
  unfold Ba at h;split at h
  ·cases h
  ·exact h
 rw [<-J7 _ s] at h2;cases v with
 | agg cs=>simp [Ba] at h
 | _=>simp only [SV.c,dV,eu] at h2 ⊢;simpa [pX] using h2
theorem F5 (s:σ) {rd:Nat->Option AO}:∀ {l:List (SV σ)},l.all (Ba (kinds rd))=true->(cL s l).all (pX rd)=true
 | [],_=>rfl
 | v::l,h=>by
   rw [List.all_cons,Bool.and_eq_true] at h;rw [cL,List.all_cons,aaV s h.1,F5 s h.2];rfl
def Qy (rd:Nat->Option (SO σ)):Nat->Option AK:=fun r=>(rd r).map SO.kind
theorem uD (s:σ) (rd:Nat->Option (SO σ)):kinds (iL s rd)=Qy rd:=by
 funext r;unfold kinds iL Qy;cases rd r with
 | none=>rfl
 | some o=>simp only [Option.map_some,akk]
def adt {σ':Type} (g:σ'->σ) (rd:Nat->Option (SO σ)):Nat->Option (SO σ'):=fun r=>match rd r with | some o=>some (o.map g) | none=>none
theorem ags {σ':Type} (g:σ'->σ) (s:σ') (rd:Nat->Option (SO σ)):iL s (adt g rd)=iL (g s) rd:=by
 funext r;unfold iL adt;cases rd r with
 | none=>rfl
 | some o=>simp only [Option.map_some,Qr]
def pk1 (u:U) (v:SV σ):Option (σ->u.T) :=
 match u with
 | .int k=>match FU v with
   | some (k',f)=>match CW k k' with
     | some _=>some f
     | none=>none
   | none=>none
 | .bool=>asB v
 | _=>none
theorem ajj (s:σ) {u:U} {v:SV σ} {f:σ->u.T} (h:pk1 u v=some f):[v.c s]=(gU u (f s)).map .d/\fK u=1:=by
 unfold pk1 at h;split at h
 ·split at h
  ·rename_i hf;split at h
   ·rename_i hk _;obtain ⟨hk⟩:=hk;subst hk;cases h;exact ⟨by rw [oI hf];rfl,rfl⟩
   ·cases h
  ·cases h
 ·exact ⟨by rw [zU h];rfl,rfl⟩
 ·cases h
def Wu (r:Nat) (fz:List (Nat×SO σ)):Bool:=fz.all fun p=>p.1 != r
theorem Ue (s:σ) (r:Nat):∀ {fz:List (Nat×SO σ)},Wu r fz=true->(cO s fz).all (fun u=>u.1 != r)=true
 | [],_=>rfl
 | (k,o)::l,h=>by
   unfold Wu at h;rw [List.all_cons,Bool.and_eq_true] at h;rw [cO,List.all_cons,h.1,Ue s r h.2];rfl
def Wv (T:Ty) (rd:Nat->Option (SO σ)) (t:Nat) (x y:SV σ):HR σ :=
 match T t with
 | some i=>match decide (y.cells.length=i.size)&&TU (Qy rd) y with
   | false => .fail "store: value"
   | true=>match x with
     | .ptr r off=>match rd r with
       | some (.mix cs)=>match decide (off+i.size<=cs.length)&&y.cells.all (Ba (Qy rd)) with
         | true => .ok .undef [(r,.mix (splice cs off y.cells))]
         | false => .fail "store: cells"
       | some (.arr u f)=>match decide (i.size=1),pk1 u y with
         | true,some g => .req [fun s=>decide (off<(f s).length)] (.ok .undef [(r,.arr u fun s=>(f s).set off (g s))])
         | _,_ => .fail "store: scalar"
       | _ => .fail "store: object"
     | .ptx r z j off=>match rd r with
       | some (.data e u f true)=>match decide (z=fK u/\off+i.size<=fK u),I5 (adt Prod.fst rd) u (splice (unU u fun p:σ×u.T=>p.2) off (sD Prod.fst y.cells)) with
         | true,some p=>match Wu r p.fz with
           | true => .bnd (fun s=>(f s)[j s]?) (.req p.cs (.ok .undef ((r,.data e u (fun q=>(f q.1).set (j q.1) (p.f q)) true)::p.fz)))
           | false => .fail "store: of itself"
         | _,_ => .fail "store: element"
       | some (.arr u f)=>match decide (i.size=1/\z=1/\off=0),pk1 u y with
         | true,some g => .req [fun s=>decide (j s<(f s).length)] (.ok .undef [(r,.arr u fun s=>(f s).set (j s) (g s))])
         | _,_ => .fail "store: scalar"
       | some (.mix cs)=>match adk (cs.drop off) with
         | some k=>match OU k y.cells,y.cells.all (Ba (Qy rd)) with
           | some gs,true => .req [fun s=>decide (j s*z+gs.length<=(vO k (cs.drop off)).length)] (.bnd (fun s=>some (adl (OV s (vO k (cs.drop off))) (j s*z) (OV s gs))) (.ok .undef [(r,.mix (sD Prod.fst (cs.take off)++Ko k (fun p=>p.2) (vO k (cs.drop off)).length 0++sD Prod.fst (cs.drop (off+(vO k (cs.drop off)).length))))]))
           | _,_ => .fail "store: integers"
         | none => .fail "store: object"
       | _ => .fail "store: object"
     | _ => .fail "store"
 | none => .fail "store: type"
def Yh (T:Ty) (rd:Nat->Option AO) (t:Nat) (x y:AV):Option (AV×List (Nat×AO)) :=
 match T t with
  | some i=>match x with
    | .ptr r off=>let new:=y.cellsOf
      match rd r with
      | some (.mix cs)=>if new.length=i.size/\off+i.size<=cs.length/\zo (kinds rd) y/\new.all (pX rd) then some (.undef,[(r,.mix (splice cs off new))]) else none
      | some (.data e s cs true)=>match gQ rd new with
        | some (ns,us)=>if new.length=i.size/\off+i.size<=cs.length/\zo (kinds rd) y/\us.all (fun u=>u.1 != r) then some (.undef,(r,.data e s (splice cs off ns) true)::us) else none
        | none=>none
      | _=>none
    | _=>none
  | none=>none
theorem Yi {u:U} {l:List u.T} {j:Nat} (h1:fK u=1) (hj:j<l.length) (x:u.T) (c:AV) (hc:[c]=(gU u x).map .d):splice ((aI u l).map .d) j [c]=(aI u (l.set j x)).map AV.d:=by
 have hne:(aI u l).length=l.length:=by rw [bI,h1,Nat.mul_one]
 have he:gU u x=splice (gU u l[j]) 0 (gU u x):=by
  rw [splice,List.drop_eq_nil_of_le (by rw [bU,bU];exact Nat.le_refl _),List.append_nil]
 have:=Ud (List.getElem?_eq_getElem hj) x (off:=0) (ns:=gU u x) (by rw [bU];omega) he;rw [h1,Nat.mul_one,Nat.add_zero] at this;rw [<-this,uU,hc]
theorem Yj (k:IntKind):∀cs:List (SV σ),(vO k cs).length<=cs.length
 | []=>Nat.le_refl _
 | x::l=>by
   rw [vO];split
   ·split
    ·rw [List.length_cons,List.length_cons];have:=Yj k l;omega
    ·exact Nat.zero_le _
   ·exact Nat.zero_le _
theorem agt (s:σ) (k:IntKind) (cs:List (SV σ)) (off p:Nat) (gs:List (σ->Int)) (hk:adk (cs.drop off)=some k) (h:p+gs.length<=(vO k (cs.drop off)).length) (a:List Int) (ha:a=adl (OV s (vO k (cs.drop off))) p (OV s gs)) :
 off+(vO k (cs.drop off)).length<=cs.length/\cL (s,a) (sD Prod.fst (cs.take off)++Ko k (fun p=>p.2) (vO k (cs.drop off)).length 0++sD Prod.fst (cs.drop (off+(vO k (cs.drop off)).length)))=splice (cL s cs) (p+off) ((OV s gs).map (dV k)):=by
 have h0:=Yj k (cs.drop off);have h1:=Wp s k (cs.drop off);have h2:=uV s (vO k (cs.drop off));have h3:=uV s gs;have hoff:off<cs.length:=by
  rcases Nat.lt_or_ge off cs.length with g | g
  ·exact g
  ·rw [List.drop_eq_nil_of_le g] at hk;cases hk
 rw [List.length_drop] at h0;have hle:off+(vO k (cs.drop off)).length<=cs.length:=by omega
 refine ⟨hle,?_⟩;generalize vO k (cs.drop off)=F at *
 have hAl:=jO (s:=s) cs;rw [pG,pG,TW (s,a) k _ _ 0 (by show 0+F.length=a.length;rw [ha,TY _ _ _ (by omega)];omega),List.drop_zero,zT,zT];show cL s (cs.take off)++a.map (dV k)++cL s (cs.drop (off+F.length))=_;rw [ha];have e1:(OV s F).map (dV k)=((cL s cs).drop off).take F.length:=by
  rw [<-h1,iK,iK,List.map_take,List.map_drop]
 have e2:cL s (cs.take off)=(cL s cs).take off:=by rw [iK,iK,List.map_take]
 have e3:cL s (cs.drop (off+F.length))=(cL s cs).drop (off+F.length):=by rw [iK,iK,List.map_drop]
 rw [e2,e3,uz _ _ _ (by omega)];unfold adl;rw [List.map_append,List.map_append,List.map_take,List.map_drop,e1,List.length_map];generalize cL s cs=A at *
 generalize (OV s gs).map (dV k)=G' at *
 rw [List.take_take,Nat.min_eq_left (by omega),h3];have t1:A.take off++(A.drop off).take p=A.take (p+off):=by rw [Nat.add_comm p off,List.take_add]
 have t2:((A.drop off).take F.length).drop (p+gs.length)++A.drop (off+F.length)=A.drop (p+off+gs.length):=by
  have hl:((A.drop off).take F.length).length=F.length:=by rw [List.length_take,List.length_drop];omega
  rw [<-List.drop_drop (i:=F.length) (j:=off),<-List.drop_append_of_le_length (by omega),List.take_append_drop,List.drop_drop];congr 1;omega
 rw [<-t1,<-t2];simp only [List.append_assoc]
theorem adu (s:σ) (T:Ty) (rd:Nat->Option (SO σ)) (t:Nat) (x y:SV σ):(Wv T rd t x y).Ok s (Yh T (iL s rd) t (x.c s) (y.c s)):=by
 unfold Wv Yh;cases hT:T t with
 | none=>trivial
 | some i =>
   simp only;split
   ·trivial
   ·rename_i hy;simp only [Bool.and_eq_true,decide_eq_true_eq] at hy;obtain ⟨hlen,hv⟩:=hy;have hlen':(y.c s).cellsOf.length=i.size:=by rw [<-rE,jO];exact hlen
    have hv':zo (kinds (iL s rd)) (y.c s)=true:=by rw [J7,uD];exact hv
    split
    ·rename_i r off;split
     ·rename_i cs hr;split
      ·rename_i hc;simp only [Bool.and_eq_true,decide_eq_true_eq] at hc;have hok:(y.c s).cellsOf.all (pX (iL s rd))=true:=by
        rw [<-rE];exact F5 s (by rw [uD];exact hc.2)
       have e1:cL s (splice cs off y.cells)=splice (cL s cs) off (y.c s).cellsOf:=by rw [iK,uU,<-iK,<-iK,rE]
       simp only [HR.Ok,SV.c,iL,hr,Option.map_some,SO.c,cO,e1];rw [if_pos ⟨hlen',by rw [jO];exact hc.1,hv',hok⟩]
      ·trivial
     ·rename_i u f hr;split
      ·rename_i g hi hg;intro hc;have hlt:=of_decide_eq_true hc.1;have hi:=of_decide_eq_true hi;obtain ⟨p1,p2⟩:=ajj s hg;have hcell:(y.c s).cellsOf=[y.c s]:=by
        have:(y.c s).cellsOf.length=1:=by omega
        cases hyc:y.c s with
        | agg cs =>
          rw [hyc] at p1;cases u<;>simp [gU] at p1<;>simp [pk1] at hg
        | _=>rfl
       have hok:pX (iL s rd) (y.c s)=true:=by
        cases hyc:y.c s with
        | agg cs =>
          rw [hyc] at p1;cases u<;>simp [gU] at p1<;>simp [pk1] at hg
        | _=>rw [hyc] at hv';simpa [pX] using hv'
       simp only [HR.Ok,SV.c,iL,hr,Option.map_some,SO.c,cO];rw [if_pos ⟨hlen',by rw [List.length_map,bI,p2];omega,hv',by rw [hcell];simpa using hok⟩,hcell,Yi p2 hlt _ _ p1]
      ·trivial
     ·trivial
    ·rename_i r z j off;split
     ·rename_i e u f hr;split
      ·rename_i p hd hp;obtain ⟨hz,hoff⟩:=of_decide_eq_true hd;split
       ·rename_i haw;intro a ha hcs;have h0:=Ub (s,a) u _ p hp hcs;rw [ags] at h0;have e1:cL (s,a) (splice (unU u fun p:σ×u.T=>p.2) off (sD Prod.fst y.cells))=splice ((gU u a).map .d) off (y.c s).cellsOf:=by
         rw [iK,uU,<-iK,<-iK,Ye,zT,rE]
        have hle:off<=((gU u a).map AV.d).length:=by rw [List.length_map,bU];omega
        rw [e1,uz _ _ _ hle,List.append_assoc] at h0;obtain ⟨x1,x2,u1,u2,q1,q2,q3,q4⟩:=zV h0;obtain ⟨x3,x4,u3,u4,q5,q6,q7,q8⟩:=zV q2;rw [<-List.map_take,yF,List.map_take,Ei] at q1;rw [<-List.map_drop,yF,List.map_drop,Ei] at q6;cases q1;cases q6;rw [List.append_nil] at q8;rw [List.nil_append] at q4;subst q8 q7;have hns:x3.length=i.size:=by rw [yh q5];exact hlen'
        have hx:gU u (p.f (s,a))=splice (gU u a) off x3:=by
         rw [q3,uz _ _ _ (by rw [bU];omega),hns,hlen',List.append_assoc]
        have hset:=Ud ha (p.f (s,a)) (off:=off) (ns:=x3) (by omega) hx;have hlen2:j s*fK u+off+i.size<=(aI u (f s)).length:=by
         have:=(List.getElem?_eq_some_iff.1 ha).1;have h2:=Nat.mul_le_mul_right (fK u) (show j s+1<=(f s).length from this);rw [Nat.succ_mul] at h2;rw [bI];omega
        have haway:=Ue (s,a) r haw;rw [q4] at haway;simp only [SV.c,iL,hr,Option.map_some,SO.c];have q5':gQ (iL s rd) (SV.c s y).cellsOf=some (x3,u2):=q5;rw [q5'];simp only;rw [hz,if_pos ⟨hlen',hlen2,hv',haway⟩,hset];simp only [HR.Ok,SV.c,cO,SO.c,q4]
       ·trivial
      ·trivial
     ·rename_i u f hr;split
      ·rename_i g hi hg;intro hc;have hlt:=of_decide_eq_true hc.1;obtain ⟨hi,hz,ho⟩:=of_decide_eq_true hi;obtain ⟨p1,p2⟩:=ajj s hg;have hcell:(y.c s).cellsOf=[y.c s]:=by
        have:(y.c s).cellsOf.length=1:=by omega
        cases hyc:y.c s with
        | agg cs =>
          rw [hyc] at p1;cases u<;>simp [gU] at p1<;>simp [pk1] at hg
        | _=>rfl
       have hok:pX (iL s rd) (y.c s)=true:=by
        cases hyc:y.c s with
        | agg cs =>
          rw [hyc] at p1;cases u<;>simp [gU] at p1<;>simp [pk1] at hg
        | _=>rw [hyc] at hv';simpa [pX] using hv'
       simp only [HR.Ok,SV.c,iL,hr,Option.map_some,SO.c,cO,hz,ho,Nat.mul_one,Nat.add_zero];rw [if_pos ⟨hlen',by rw [List.length_map,bI,p2];omega,hv',by rw [hcell];simpa using hok⟩,hcell,Yi p2 hlt _ _ p1]
      ·trivial
     ·rename_i cs hr;split
      ·rename_i k hk;split
       ·rename_i gs hg hall;intro hc a ha;have hle:=of_decide_eq_true hc.1;have hok:(y.c s).cellsOf.all (pX (iL s rd))=true:=by
         rw [<-rE];exact F5 s (by rw [uD];exact hall)
        have e1:(y.c s).cellsOf=(OV s gs).map (dV k):=by rw [<-rE,Qv s k _ _ hg]
        have e2:gs.length=i.size:=by rw [<-hlen',e1,List.length_map,uV]
        have hput:=agt s k cs off (j s*z) gs hk hle a (Option.some.inj ha).symm;simp only [HR.Ok,SV.c,iL,hr,Option.map_some,SO.c,cO];rw [if_pos ⟨hlen',by rw [jO];have:=hput.1;omega,hv',hok⟩,e1,<-hput.2]
       ·trivial
      ·trivial
     ·trivial
    ·trivial
end
section
variable {σ:Type}
def iM (rd:Nat->Option (SO σ)) (r:Nat):Bool:=match rd r with | none=>true | some _=>false
theorem uX (s:σ) {rd:Nat->Option (SO σ)} {r:Nat} (h:iM rd r=true):¬((iL s rd r).isSome=true):=by
 unfold iM at h;unfold iL;split at h
 ·rename_i e;rw [e];simp
 ·cases h
def Yk:(u:U)->Option u.T
 | .int _=>some (0:Int)
 | .bool=>some false
 | _=>none
def isZ:U->DV->Bool
 | .int k,.val (.int k' n)=>decide (k=k'/\n=0)
 | .bool,.val (.bool false)=>true
 | _,_=>false
theorem agu {u:U} {z:u.T} (hz:Yk u=some z) {d:DV} (h:isZ u d=true):gU u z=[d]:=by
 unfold Yk at hz;unfold isZ at h;split at h
 ·cases hz;obtain ⟨rfl,rfl⟩:=of_decide_eq_true h;rfl
 ·cases hz;rfl
 ·cases h
theorem Yl {u:U} {z:u.T} (hz:Yk u=some z):∀ {l:List DV},l.all (isZ u)=true->l=aI u (List.replicate l.length z)
 | [],_=>rfl
 | d::l,h=>by
   rw [List.all_cons,Bool.and_eq_true] at h;rw [List.length_cons,List.replicate_succ,show aI u (z::List.replicate l.length z)=gU u z++aI u (List.replicate l.length z) from List.flatMap_cons,agu hz h.1,<-Yl hz h.2];rfl
def Wx (T:Ty) (rd:Nat->Option (SO σ)) (slot t:Nat):HR σ :=
 match T t,iM rd slot with
 | some i,true=>match i.k with
   | .arr n e=>match decide (8<n),Kt T 20 e with
     | true,some u=>match Yk u,i.zero.all (isZ u)&&decide (i.zero.length=n) with
       | some z,true => .ok (.ptr slot 0) [(slot,.arr u fun _=>List.replicate n z)]
       | _,_ => .fail "alloc: array"
     | _,_=>match zeroS i.zero with | some z => .ok (.ptr slot 0) [(slot,.mix z)] | none => .fail "alloc"
   | _=>match zeroS i.zero with | some z => .ok (.ptr slot 0) [(slot,.mix z)] | none => .fail "alloc"
 | _,_ => .fail "alloc: type"
theorem adv (s:σ) (T:Ty) (rd:Nat->Option (SO σ)) (slot t:Nat):(Wx T rd slot t).Ok s (match T t with
 | some i=>if (iL s rd slot).isSome then none else some (.ptr slot 0,[(slot,.mix (i.zero.map .d))])
 | none=>none):=by
 unfold Wx;split
 ·rename_i i hT hn;rw [hT];simp only;rw [if_neg (uX s hn)];have plain:(match zeroS i.zero with | some z=>HR.ok (.ptr slot 0) [(slot,.mix z)] | none=>HR.fail "alloc" : HR σ).Ok s (some (.ptr slot 0,[(slot,.mix (i.zero.map .d))])):=by
   split
   ·rename_i z hz;simp only [HR.Ok,SV.c,cO,SO.c,Eh s hz]
   ·trivial
  split
  ·split
   ·split
    ·rename_i n e _ _ u _ _ z hz hall;simp only [Bool.and_eq_true,decide_eq_true_eq] at hall;have:=Yl hz hall.1;rw [hall.2] at this;simp only [HR.Ok,SV.c,cO,SO.c];rw [<-this]
    ·trivial
   ·exact plain
  ·exact plain
 ·trivial
def boxS (rd:Nat->Option (SO σ)) (slot:Nat) (v:SV σ):HR σ :=
 match iM rd slot&&TU (Qy rd) v with
 | true => .ok (.ptr slot 0) [(slot,.mix v.cells)]
 | false => .fail "box"
theorem akv (s:σ) (rd:Nat->Option (SO σ)) (slot:Nat) (v:SV σ):(boxS rd slot v).Ok s (if (iL s rd slot).isSome then none else if zo (kinds (iL s rd)) (v.c s) then some (.ptr slot 0,[(slot,.mix (v.c s).cellsOf)]) else none):=by
 unfold boxS;split
 ·rename_i h;rw [Bool.and_eq_true] at h;rw [if_neg (uX s h.1),if_pos (by rw [J7,uD];exact h.2)];simp only [HR.Ok,SV.c,cO,SO.c,rE]
 ·trivial
def bsP {σ:Type} (t:Nat):Cp σ:=bif bsB t then .unk else .full
theorem an6 (s:σ) (t n:Nat):sF s n (bsP t:Cp σ)=bsC t n:=by
 unfold bsP bsC;cases bsB t<;>rfl
def Kw (T:Ty) (rd:Nat->Option (SO σ)) (slot t n:Nat) (ps:List (Nat×SV σ)):HR σ :=
 match T t with
 | some i=>match i.k with
   | .slice e=>match T e with
     | some ei=>match iM rd slot&&decide (n*ei.size<=1000/\ei.size≠0)&&ps.all fun p=>TU (Qy rd) p.2 with
       | true=>match zeroS (qA n ei.zero) with
         | some z=>match J8 (fun j=>some (j*ei.size,ei.size)) z ps,Kt T 20 e with
           | some cells,some u=>match pkN rd u n cells,decide (fK u=ei.size) with
             | some p,true => .req p.cs (.ok (.sl slot (fK u) none (fun _=>n) (bsP t)) ((slot,.data e u p.f true)::p.fz))
             | _,_ => .fail "slice literal: elements"
           | _,_ => .fail "slice literal: parts"
         | none => .fail "slice literal: zero"
       | false => .fail "slice literal"
     | none => .fail "slice literal: type"
   | _ => .fail "slice literal: type"
 | none => .fail "slice literal: type"
theorem Wy (s:σ) (T:Ty) (rd:Nat->Option (SO σ)) (slot t n:Nat) (ps:List (Nat×SV σ)):(Kw T rd slot t n ps).Ok s (match T t with
 | some i=>match i.k with
   | .slice e=>match T e with
     | some ei=>if (iL s rd slot).isSome\/n*ei.size > 1000\/ei.size=0\/((ps.map fun p=>(p.1,p.2.c s)).all fun p=>zo (kinds (iL s rd)) p.2)=false then none else
       match oW (fun j=>some (j*ei.size,ei.size)) ((qA n ei.zero).map .d) (ps.map fun p=>(p.1,p.2.c s)) with
       | some cells=>match gQ (iL s rd) cells with
         | some (cs,us)=>some (.sl slot 0 n (bsC t n),(slot,.data e ei.size cs true)::us)
         | none=>none
       | none=>none
     | none=>none
   | _=>none
 | none=>none):=by
 unfold Kw;cases hT:T t with
 | none=>trivial
 | some i =>
   simp only;split
   ·rename_i e hk;cases hE:T e with
    | none=>trivial
    | some ei =>
      simp only;split
      ·rename_i h;simp only [Bool.and_eq_true,decide_eq_true_eq] at h;obtain ⟨⟨h1,h2,h3⟩,h4⟩:=h;have h4':((ps.map fun p=>(p.1,p.2.c s)).all fun p=>zo (kinds (iL s rd)) p.2)=true:=by
        rw [List.all_map,List.all_eq_true] at *
        intro p hp;show zo _ (p.2.c s)=true;rw [J7,uD];exact h4 p hp
       rw [if_neg (by rintro (h | h | h | h);exact uX s h1 h;omega;exact h3 h;rw [h4'] at h;cases h)];split
       ·rename_i z hz;split
        ·rename_i cells u hc hu;split
         ·rename_i p hp hsz;intro hcs;have hsz:=of_decide_eq_true hsz;obtain ⟨g1,g2⟩:=ajh s n _ p hp hcs;rw [<-Eh s hz,Jg s _ _ _ _ hc];simp only [g1,HR.Ok,SV.c,cO,SO.c,wK,Nat.zero_mul,an6,hsz]
         ·trivial
        ·trivial
       ·trivial
      ·trivial
   ·trivial
theorem agv {a b:Operand} (h:Vs a b=true):a=b:=by
 unfold Vs at h;split at h
 ·first | (cases h;done) | rw [of_decide_eq_true h]
 ·obtain ⟨rfl,rfl⟩:=of_decide_eq_true h;rfl
 ·cases h
theorem Uf {u:U} {z:u.T} {l:List DV} (h:gU u z=l):∀n,qA n l=aI u (List.replicate n z)
 | 0=>rfl
 | n+1=>by rw [qA,Uf h n,List.replicate_succ,<-h];rfl
def Qz (T:Ty) (rd:Nat->Option (SO σ)) (slot t:Nat) (same:Bool) (l c:SV σ):HR σ :=
 match T t with
 | some i=>match i.k with
   | .slice e=>match T e,Kt T 20 e with
     | some ei,some u=>match FU l,FU c with
       | some (_,n),some (_,k)=>match zeroS ei.zero with
         | some zs=>match I5 (fun _=>none) u zs with
           | some p=>match p.cs,iM rd slot&&decide (fK u=ei.size/\0<ei.size) with
             | [],true => .req [fun s=>decide (0<=n s/\n s<=k s/\k s*ei.bytes<=140737488355328/\k s<=9223372036854775807)]
                 (.ok (.sl slot (fK u) none (fun s=>(n s).toNat) (match same with | true => .full | false => .unk)) [(slot,.data e u (fun s=>List.replicate (k s).toNat (p.f s)) true)])
             | _,_ => .fail "make"
           | none => .fail "make: zero"
         | none => .fail "make: zero"
       | _,_ => .fail "make: length"
     | _,_ => .fail "make: type"
   | _ => .fail "make: type"
 | none => .fail "make: type"
theorem aaW (s:σ) (T:Ty) (rd:Nat->Option (SO σ)) (slot t:Nat) (same:Bool) (l c:SV σ) (hs:same=true->l=c):(Qz T rd slot t same l c).Ok s (match T t with
 | some i=>match i.k with
   | .slice e=>match T e with
     | some ei=>match l.c s,c.c s with
       | .d (.val (.int _ n)),.d (.val (.int _ k))=>if (iL s rd slot).isSome then none else
         if 0<=n/\n<=k/\k*ei.bytes<=140737488355328/\k<=maxLen/\0<ei.size then some (.sl slot 0 n.toNat (bif same then some k.toNat else none),[(slot,.data e ei.size (qA k.toNat (ei.zero.map wV)) true)]) else none
       | _,_=>none
     | none=>none
   | _=>none
 | none=>none):=by
 unfold Qz;cases hT:T t with
 | none=>trivial
 | some i =>
   simp only;split
   ·rename_i e hk;split
    ·rename_i ei u hE hU;split
     ·rename_i k1 n k2 k hn hkk;split
      ·rename_i zs hzs;split
       ·rename_i p hp;split
        ·rename_i hcs hall;simp only [Bool.and_eq_true,decide_eq_true_eq] at hall;obtain ⟨h1,h2,h3⟩:=hall;intro hc;have hc1:=of_decide_eq_true hc.1;have hz:=Ub s u _ p hp (by rw [hcs];trivial);rw [Eh s hzs,yF] at hz;have hz':gU u (p.f s)=ei.zero.map wV:=by
          have:=congrArg (fun x=>x.map Prod.fst) hz;simp only [Option.map_some,Option.some.injEq] at this;exact this.symm
         rw [oI hn,oI hkk,hE];simp only [dV];have hm:(maxLen:Int)=9223372036854775807:=rfl;rw [if_neg (uX s h1),if_pos ⟨hc1.1,hc1.2.1,hc1.2.2.1,by rw [hm];exact hc1.2.2.2,h3⟩,Uf hz'];simp only [HR.Ok,SV.c,cO,SO.c,wK,Nat.zero_mul,h2];cases same with
         | false=>rfl
         | true =>
           have:=hs rfl;subst this;rw [hn] at hkk;cases hkk;rfl
        ·trivial
       ·trivial
      ·trivial
     ·trivial
    ·trivial
   ·trivial
def an7 (f:σ->List UInt8):(u:U)->Option (PK σ (List u.T))
 | .int .u8=>some ⟨fun s=>(f s).map fun b=>(b.toNat:Int),[],[]⟩
 | _=>none
def WA (rd:Nat->Option (SO σ)) (u:U) (y:SV σ):Option (PK σ (List u.T)) :=
 match y with
 | .val (.slice none 0 0)=>some ⟨fun _=>[],[],[]⟩
 | .lst u' f=>match Vq u' u with | some ⟨h⟩=>some ⟨iq h f,[],[]⟩ | none=>none
 | .sl r z o n _=>match rd r with
   | some (.data e u' f wr)=>match Vq u' u,decide (z=fK u') with
     | some ⟨h⟩,true=>some ⟨iq h (rowP o n f),[Ua o n f],[]⟩
     | _,_=>none
   | _=>none
 | y=>match asS y with
   | some f=>an7 f u
   | none=>none
theorem Ky (l:List UInt8):bytesD l=aI (.int .u8) (l.map fun b=>(b.toNat:Int)):=by
 induction l with
 | nil=>rfl
 | cons b l ih =>
   rw [List.map_cons,show aI (.int .u8) (((b.toNat:Nat):Int)::l.map fun b=>((b.toNat:Nat):Int))=gU (.int .u8) ((b.toNat:Nat):Int)++aI (.int .u8) (l.map fun b=>((b.toNat:Nat):Int)) from List.flatMap_cons,<-ih];rfl
theorem WB (s:σ) {rd:Nat->Option (SO σ)} {u:U} {y:SV σ} {p:PK σ (List u.T)} (h:WA rd u y=some p) (hc:allT s p.cs):xY (iL s rd) (fK u) (y.c s)=some (aI u (p.f s),(p.f s).length):=by
 unfold WA at h;split at h
 ·cases h;rw [SV.c];rfl
 ·split at h
  ·rename_i hk _;subst hk;cases h;rw [SV.c];simp only [xY,iq];rw [if_pos (bI _ _)]
  ·cases h
 ·rename_i r z o n cap;split at h
  ·rename_i e u' f wr hr;split at h
   ·rename_i hk _ hz;subst hk;cases h;have hz:=of_decide_eq_true hz;have h1:=yH hc.1;rw [SV.c];have h2:wK s o*fK u'+n s*fK u'<=(aI u' (f s)).length:=by
     rw [bI,<-Nat.add_mul];exact Nat.mul_le_mul_right _ h1
    simp only [xY,iL,hr,Option.map_some,SO.c,iq,hz];rw [if_pos ⟨trivial,h2⟩,vY,jo,gy,List.length_take,List.length_drop,Nat.min_eq_left (by omega)]
   ·cases h
  ·cases h
 ·split at h
  ·rename_i f hf;unfold an7 at h;split at h
   ·cases h;rw [tH hf];simp only [xY];rw [if_pos (show fK (U.int .u8)=1 from rfl),Ky];have:(⟨(f s).toArray⟩:ByteArray).size=(f s).length:=by show (f s).toArray.size=_;simp
    rw [this,List.length_map]
   ·cases h
  ·cases h
def an8 {α:Type} (bytes:Nat) (F:σ->List α):σ->Bool:=fun s=>decide ((F s).length*bytes<=140737488355328)
def an9 {u:U} (slot e:Nat) (bytes:Nat) (F:σ->List u.T) (more:List (Nat×SO σ)):HR σ :=
 .req [an8 bytes F] (.ok (.sl slot (fK u) none (fun s=>(F s).length) .unk) ((slot,.data e u F true)::more))
def newS {u:U} (slot e:Nat) (bytes:Nat) (F:σ->List u.T) (more:List (Nat×SO σ)):HR σ :=
 .req [an8 bytes F] (.bnd (fun s=>some (F s)) (.ok (.sl slot (fK u) none (fun p=>p.2.length) .unk) ((slot,.data e u (fun p=>p.2) true)::jS Prod.fst more)))
theorem Jh {u:U} {slot e:Nat} {bytes:Nat} {F:σ->List u.T} {more:List (Nat×SO σ)} {s:σ} {x:Option (AV×List (Nat×AO))} (h:(an9 slot e bytes F more).Ok s x):(newS slot e bytes F more).Ok s x:=by
 intro h2 a ha;cases ha;have:=h h2;show x=some (_,_);rw [show x=some (_,_) from this];simp only [SV.c,cO,SO.c,rD,wK,sF]
theorem QA (s:σ) {rd:Nat->Option (SO σ)} {slot e bytes:Nat} {u:U} (hn:iM rd slot=true) (hb:0<bytes) {a b:List u.T} (hf:(a++b).length*bytes<=140737488355328) {n:Nat} (ha:a.length=n) :
 zA (iL s rd) slot e (fK u) bytes b.length (aI u b) n (aI u a)=some (.sl slot 0 (a++b).length none,[(slot,.data e (fK u) (aI u (a++b)) true)]):=by
 have hl:(a++b).length=n+b.length:=by rw [List.length_append,ha]
 unfold zA;rw [if_neg (uX s hn),if_pos,hl,jJ];rw [hl] at hf;refine ⟨hf,?_⟩;have:n+b.length<=(n+b.length)*bytes:=Nat.le_mul_of_pos_right _ hb;have hm:maxLen=9223372036854775807:=rfl;omega
def WC:SV σ->Bool
 | .val (.slice none 0 0)=>true
 | _=>false
theorem adw {rd:Nat->Option (SO σ)} {u:U} {y:SV σ} {p:PK σ (List u.T)} (h:WA rd u y=some p) (hn:WC y=true) (s:σ):p.cs=[]/\p.f s=[]:=by
 unfold WC at hn;split at hn
 ·unfold WA at h;simp only [Option.some.injEq] at h;subst h;exact ⟨rfl,rfl⟩
 ·cases hn
def akw (eg:Bool) (T:Ty) (rd:Nat->Option (SO σ)) (slot:Nat) (t t2:Option Nat) (x y:SV σ):HR σ :=
 match t.bind T,t2.bind T with
 | some i,some j=>match i.k,j.k.srcOk with
   | .slice e,true=>match T e,Kt T 20 e with
     | some ei,some u=>match WA rd u y,decide (fK u=ei.size/\0<ei.size/\0<ei.bytes)&&iM rd slot with
       | some p,true=>match x with
         | .val (.slice none 0 0) => .req p.cs (newS slot e ei.bytes p.f [])
         | .sl r z o n .unk=>match rd r,o with
           | some (.data e' u' f true),none=>match Vq u' u,decide (e'=e/\z=fK u) with
             | some ⟨h⟩,true => .req (p.cs++[Ua none n f]) (newS slot e ei.bytes (fun s=>iq h (fun s=>(f s).take (n s)) s++p.f s) [(r,.dead)])
             | _,_ => .fail "append: row"
           | _,_ => .fail "append: object"
         | .sl r z o n .full=>match rd r with
           | some (.data e' u' f wr)=>match Vq u' u,decide (e'=e/\z=fK u) with
             | some ⟨h⟩,true=>match WC y with
               | true => .req [fun s=>decide (n s≠0)] (.ok (.sl r z o n .full) [])
               | false=>match eg with
               | false => .req (p.cs++[Ua o n f,fun s=>decide (n s=0\/(p.f s).length≠0)]) (newS slot e ei.bytes (fun s=>iq h (rowP o n f) s++p.f s) [])
               | true => .req p.cs (.iff (fun s=>decide (n s=0\/(p.f s).length≠0)) (.req [Ua o n f] (newS slot e ei.bytes (fun s=>iq h (rowP o n f) s++p.f s) [])) (.ok (.sl r z o n .full) []))
             | _,_ => .fail "append: row"
           | _ => .fail "append: object"
         | .sl r z o n (.fn c)=>match rd r,o with
           | some (.data e' u' f true),none=>match Vq u' u,decide (e'=e/\z=fK u) with
             | some ⟨h⟩,true => .req (p.cs++[fun s=>decide (n s<c s/\n s+(p.f s).length<=c s/\n s+(p.f s).length<=(f s).length)])
                (.bnd (fun s=>some (iq h (fun s=>(f s).take (n s)) s++(p.f s++iq h (fun s=>(f s).drop (n s+(p.f s).length)) s)))
                  (.ok (.sl r z none (fun q=>n q.1+(p.f q.1).length) (.fn fun q=>c q.1)) [(r,.data e u (fun q=>q.2) true)]))
             | _,_ => .fail "append: row"
           | _,_ => .fail "append: object"
         | _ => .fail "append: to this"
       | _,_ => .fail "append: what"
     | _,_ => .fail "append: type"
   | _,_ => .fail "append: type"
 | _,_ => .fail "append: type"
theorem akx (s:σ) (eg:Bool) (T:Ty) (rd:Nat->Option (SO σ)) (slot:Nat) (t t2:Option Nat) (x y:SV σ):(akw eg T rd slot t t2 x y).Ok s (match t.bind T,t2.bind T with
 | some i,some j=>if j.k.srcOk then match i.k with
   | .slice e=>match T e with
     | some ei=>match xY (iL s rd) ei.size (y.c s) with
       | some (cells,m)=>if 0<ei.size then jM (iL s rd) slot e ei.size ei.bytes (x.c s) cells m else none
       | none=>none
     | none=>none
   | _=>none
 else none
 | _,_=>none):=by
 unfold akw;split
 ·rename_i i j hi hj;split
  ·rename_i e hk hso;rw [if_pos hso];split
   ·rename_i ei u hE hU;split
    ·rename_i p hp hd;simp only [Bool.and_eq_true,decide_eq_true_eq] at hd;obtain ⟨⟨hsz,hpos,hb⟩,hn⟩:=hd;have hsrc:allT s p.cs->xY (iL s rd) ei.size (y.c s)=some (aI u (p.f s),(p.f s).length):=fun h=>by rw [<-hsz];exact WB s hp h
     split
     ·intro h1;refine Jh ?_;intro h2;have hf:=of_decide_eq_true h2.1;simp only [hk,hE];rw [hsrc h1];simp only;rw [if_pos hpos,SV.c,<-hsz];simp only [jM];have:=QA s (e:=e) (bytes:=ei.bytes) (a:=[]) (b:=p.f s) hn hb hf (n:=0) rfl;rw [show aI u []=[] from rfl] at this;rw [this];simp only [HR.Ok,SV.c,cO,SO.c,wK,Nat.zero_mul,sF,List.nil_append]
     ·rename_i r z o n;split
      ·rename_i e' u' f hr;split
       ·rename_i hku _ hdd;subst hku;obtain ⟨rfl,hz⟩:=of_decide_eq_true hdd;intro h1;refine Jh ?_;intro h2;rw [bV] at h1;have hf:=of_decide_eq_true h2.1;have hrow:n s<=(f s).length:=of_decide_eq_true h1.2.1;simp only [hk,hE];rw [hsrc h1.1];simp only;rw [if_pos hpos,SV.c,<-hsz];simp only [jM,sF,iL,hr,Option.map_some,SO.c,wK,Nat.zero_mul];have hA:=QA s (e:=e') (bytes:=ei.bytes) (a:=(f s).take (n s)) (b:=p.f s) hn hb hf (n:=n s) (by rw [List.length_take];omega);rw [if_pos ⟨trivial,trivial,trivial,trivial⟩];have hle:n s*fK u'<=(aI u' (f s)).length:=by rw [bI];exact Nat.mul_le_mul_right _ hrow
        have fin:∀C,C=aI u' ((f s).take (n s))->(match zA (iL s rd) slot e' (fK u') ei.bytes (p.f s).length (aI u' (p.f s)) (n s) C with
         | some (v,u)=>some (v,u++[(r,AO.dead)])
         | none=>none)=some (AV.sl slot 0 ((f s).take (n s)++p.f s).length none,[(slot,.data e' (fK u') (aI u' ((f s).take (n s)++p.f s)) true),(r,AO.dead)]):=fun C hC=>by
         rw [hC,hA];rfl
        have goal:∀X,X=some (AV.sl slot 0 ((f s).take (n s)++p.f s).length none,[(slot,AO.data e' (fK u') (aI u' ((f s).take (n s)++p.f s)) true),(r,AO.dead)])->(HR.ok (.sl slot (fK u') none (fun s=>(iq rfl (fun s=>(f s).take (n s)) s++p.f s).length) .unk) [(slot,.data e' u' (fun s=>iq rfl (fun s=>(f s).take (n s)) s++p.f s) true),(r,.dead)]:HR σ).Ok s X:=fun X hX=>by
         rw [hX];simp only [HR.Ok,SV.c,cO,SO.c,wK,Nat.zero_mul,sF,iq]
        refine goal _ ?_;split
        ·rename_i heq;exact fin _ (by rw [<-gy,heq,List.take_length])
        ·first
         | exact fin _ (by rw [<-gy])
         | (rw [if_pos hle];exact fin _ (by rw [<-gy]))
       ·trivial
      ·trivial
     ·rename_i r z o n;split
      ·rename_i e' u' f wr hr;split
       ·rename_i hku _ hdd;subst hku;obtain ⟨rfl,hz⟩:=of_decide_eq_true hdd;split
        ·rename_i hny;obtain ⟨q1,q2⟩:=adw hp hny s;intro h1;have hn0:=of_decide_eq_true h1.1;have hsr:=hsrc (by rw [q1];trivial);rw [q2] at hsr;simp only [hk,hE];rw [hsr];simp only;rw [if_pos hpos,<-hsz];simp only [HR.Ok,SV.c,jM,sF,iL,hr,Option.map_some,SO.c,cO];rw [if_pos ⟨trivial,trivial⟩,if_pos trivial,if_neg hn0,if_pos (show ([]:List u'.T).length=0 from rfl)]
        cases eg with
        | false =>
          intro h1;refine Jh ?_;intro h2;rw [bV] at h1;have hf:=of_decide_eq_true h2.1;have hrow:=yH h1.2.1;have hor:=of_decide_eq_true h1.2.2.1;simp only [hk,hE];rw [hsrc h1.1];simp only;rw [if_pos hpos,SV.c,<-hsz];simp only [jM,sF,iL,hr,Option.map_some,SO.c];have hfit:(rowP o n f s++p.f s).length*ei.bytes<=140737488355328:=hf;have hlen:(rowP o n f s).length=n s:=by rw [vY,List.length_take,List.length_drop];omega
          have hA:=QA s (e:=e') (bytes:=ei.bytes) (a:=rowP o n f s) (b:=p.f s) hn hb hfit hlen;have goal:∀X,X=some (AV.sl slot 0 (rowP o n f s++p.f s).length none,[(slot,AO.data e' (fK u') (aI u' (rowP o n f s++p.f s)) true)])->(HR.ok (.sl slot (fK u') none (fun s=>(iq rfl (rowP o n f) s++p.f s).length) .unk) [(slot,.data e' u' (fun s=>iq rfl (rowP o n f) s++p.f s) true)]:HR σ).Ok s X:=fun X hX=>by
           rw [hX];simp only [HR.Ok,SV.c,cO,SO.c,wK,Nat.zero_mul,sF,iq]
          refine goal _ ?_;rw [if_pos ⟨trivial,trivial⟩,if_pos trivial];by_cases hn0:n s=0
          ·rw [if_pos hn0];have h0:rowP o n f s=[]:=List.eq_nil_of_length_eq_zero (by omega);rw [h0,hn0] at hA;rw [h0];exact hA
          ·rw [if_neg hn0,if_neg (by rcases hor with h | h;exact (hn0 h).elim;exact h)];have hle:wK s o*fK u'+n s*fK u'<=(aI u' (f s)).length:=by rw [bI,<-Nat.add_mul];exact Nat.mul_le_mul_right _ hrow
           rw [hz,if_pos hle,jo,gy,<-vY];exact hA
        | true =>
          intro h1;rw [HR.Ok];cases hc:decide (n s=0\/(p.f s).length≠0) with
          | true =>
            have hor:=of_decide_eq_true hc;intro hr1;refine Jh ?_;intro h2;have hf:=of_decide_eq_true h2.1;have hrow:=yH hr1.1;simp only [hk,hE];rw [hsrc h1];simp only;rw [if_pos hpos,SV.c,<-hsz];simp only [jM,sF,iL,hr,Option.map_some,SO.c];have hfit:(rowP o n f s++p.f s).length*ei.bytes<=140737488355328:=hf;have hlen:(rowP o n f s).length=n s:=by rw [vY,List.length_take,List.length_drop];omega
            have hA:=QA s (e:=e') (bytes:=ei.bytes) (a:=rowP o n f s) (b:=p.f s) hn hb hfit hlen;have goal:∀X,X=some (AV.sl slot 0 (rowP o n f s++p.f s).length none,[(slot,AO.data e' (fK u') (aI u' (rowP o n f s++p.f s)) true)])->(HR.ok (.sl slot (fK u') none (fun s=>(iq rfl (rowP o n f) s++p.f s).length) .unk) [(slot,.data e' u' (fun s=>iq rfl (rowP o n f) s++p.f s) true)]:HR σ).Ok s X:=fun X hX=>by
             rw [hX];simp only [HR.Ok,SV.c,cO,SO.c,wK,Nat.zero_mul,sF,iq]
            refine goal _ ?_;rw [if_pos ⟨trivial,trivial⟩,if_pos trivial];by_cases hn0:n s=0
            ·rw [if_pos hn0];have h0:rowP o n f s=[]:=List.eq_nil_of_length_eq_zero (by omega);rw [h0,hn0] at hA;rw [h0];exact hA
            ·rw [if_neg hn0,if_neg (by rcases hor with h | h;exact (hn0 h).elim;exact h)];have hle:wK s o*fK u'+n s*fK u'<=(aI u' (f s)).length:=by rw [bI,<-Nat.add_mul];exact Nat.mul_le_mul_right _ hrow
             rw [hz,if_pos hle,jo,gy,<-vY];exact hA
          | false =>
            have hno:=of_decide_eq_false hc;have hn0:¬n s=0:=fun e=>hno (.inl e);have hm0:(p.f s).length=0:=by
             rcases Nat.eq_zero_or_pos (p.f s).length with e | e
             ·exact e
             ·exact (hno (.inr (by omega))).elim
            show _=some _;simp only [hk,hE];rw [hsrc h1];simp only;rw [if_pos hpos,<-hsz];simp only [SV.c,jM,sF,iL,hr,Option.map_some,SO.c];rw [if_pos ⟨trivial,trivial⟩,if_pos trivial,if_neg hn0,if_pos hm0];rfl
       ·trivial
      ·trivial
     ·rename_i r z o n c;split
      ·rename_i e' u' f hr;split
       ·rename_i hku _ hdd;subst hku;obtain ⟨rfl,hz⟩:=of_decide_eq_true hdd;intro h1 a ha;cases ha;rw [bV] at h1;obtain ⟨g1,g2,g3⟩:=of_decide_eq_true h1.2.1;simp only [hk,hE];rw [hsrc h1.1];simp only;rw [if_pos hpos,SV.c,<-hsz];simp only [jM,sF,iL,hr,Option.map_some,SO.c,wK,Nat.zero_mul];have hle:n s*fK u'<=(aI u' (f s)).length:=by rw [bI];exact Nat.mul_le_mul_right _ (by omega)
        have hle2:(n s+(p.f s).length)*fK u'<=(aI u' (f s)).length:=by rw [bI];exact Nat.mul_le_mul_right _ g3
        have hcell:splice (aI u' (f s)) (n s*fK u') (aI u' (p.f s))=aI u' ((f s).take (n s)++(p.f s++(f s).drop (n s+(p.f s).length))):=by
         rw [uz _ _ _ hle,jJ,jJ,gy,bI,<-Nat.add_mul,jo,List.append_assoc]
        rw [if_pos ⟨trivial,trivial⟩,if_neg (by omega),if_pos ⟨trivial,trivial,g2,hle2⟩,hcell];simp only [HR.Ok,SV.c,cO,SO.c,wK,Nat.zero_mul,sF,iq]
       ·trivial
      ·trivial
     ·trivial
    ·trivial
   ·trivial
  ·trivial
 ·trivial
end
section
variable {σ:Type}
def ni (l:List Int):List UInt8:=l.map fun n=>UInt8.ofNat n.toNat
theorem Ug:∀l:List Int,ou (aI (.int .u8) l)=some (ni l)
 | []=>rfl
 | n::l=>by
   rw [show aI (.int .u8) (n::l)=DV.val (.int .u8 n)::aI (.int .u8) l from rfl,ou,Ug l];rfl
def aky:SV σ->Bool
 | .lst _ _=>true
 | .sl _ _ _ _ _=>true
 | .val (.slice none 0 0)=>true
 | _=>false
theorem akz {v:SV σ} (h:aky v=true) (s:σ):isStr (v.c s)=false:=by
 unfold aky at h;split at h
 ·rw [SV.c];rfl
 ·rw [SV.c];rfl
 ·rw [SV.c];rfl
 ·cases h
def cvS (T:Ty) (rd:Nat->Option (SO σ)) (src dst:Nat) (x:SV σ):HR σ :=
 match T src,T dst with
 | some si,some di=>match si.k,di.k with
   | .slice e,.str=>match aky x&&Fv (T e),WA rd (.int .u8) x with
     | true,some p => .req p.cs (.ok (.str fun s=>ni (p.f s)) [])
     | _,_ => .fail "convert: of this"
   | _,_ => .fail "convert: types"
 | _,_ => .fail "convert: type"
theorem aoa (s:σ) (T:Ty) (rd:Nat->Option (SO σ)) (src dst:Nat) (x:SV σ):(cvS T rd src dst x).Ok s (match T src,T dst with
 | some si,some di=>match si.k,di.k with
   | .slice e,.str=>if isStr (x.c s) || !(Fv (T e)) then none else match xY (iL s rd) 1 (x.c s) with
     | some (cells,_)=>match ou cells with
       | some l=>some (.d (.val (.string ⟨l.toArray⟩)),[])
       | none=>none
     | none=>none
   | .slice _,.slice e=>if src=dst/\Fv (T e)=true then (match x.c s with
     | .sl r off n cap=>match iL s rd r with
       | some (.data _ s cs true)=>if s=1/\0<n then some (.d (.dl ((cs.drop off).take n) n cap),[(r,.dead)]) else none
       | _=>none
     | _=>none) else none
   | _,_=>none
 | _,_=>none):=by
 unfold cvS;split
 ·split
  ·rename_i h1 h2;split
   ·rename_i p hb hp;rw [Bool.and_eq_true] at hb;intro hc;have h3:=WB s hp hc;simp only [h1,h2];rw [akz hb.1 s,hb.2,show xY (iL s rd) 1 (x.c s)=some (aI (.int .u8) (p.f s),(p.f s).length) from h3];simp only [Bool.not_true,Bool.or_false,Bool.false_eq_true,if_false,Ug,HR.Ok,SV.c,cO]
   ·trivial
  ·trivial
 ·trivial
def zW {α:Type} (f:List α) (o:Nat) (l:List α):List α:=f.take o++l++f.drop (o+l.length)
theorem akA (u:U) (f l:List u.T) (o:Nat) (h:o+l.length<=f.length):splice (aI u f) (o*fK u) (aI u l)=aI u (zW f o l):=by
 rw [uz _ _ _ (by rw [bI];exact Nat.mul_le_mul_right _ (by omega)),zW,jJ,jJ,bI,<-Nat.add_mul,jo,gy]
def oAt (o:Option (σ->Nat)):σ->Nat:=match o with | none=>fun _=>0 | some o=>o
theorem aob (s:σ) (o:Option (σ->Nat)):oAt o s=wK s o:=by cases o<;>rfl
def copyS (T:Ty) (rd:Nat->Option (SO σ)) (t:Option Nat) (x y:SV σ):HR σ :=
 match t.bind T with
 | some i=>match i.k with
   | .slice e=>match T e with
     | some ei=>match x with
       | .sl r z o n cap=>match rd r with
         | some (.data e' u f true)=>match WA rd u y,decide (fK u=ei.size/\z=fK u) with
           | some p,true => .req (p.cs++[Ua o n f]) (.ok (.int .i64 fun s=>((min (p.f s).length (n s):Nat):Int)) [(r,.data e' u (fun s=>zW (f s) (oAt o s) ((p.f s).take (n s))) true)])
           | _,_ => .fail "copy: what"
         | _ => .fail "copy: object"
       | _ => .fail "copy: to this"
     | none => .fail "copy: type"
   | _ => .fail "copy: type"
 | none => .fail "copy: type"
theorem agw (s:σ) (T:Ty) (rd:Nat->Option (SO σ)) (t:Option Nat) (x y:SV σ):(copyS T rd t x y).Ok s (match [x.c s,y.c s],t.bind T with
 | [.sl r off n cap,y],some i=>match i.k with
   | .slice e=>match T e with
     | some ei=>match xY (iL s rd) ei.size y,iL s rd r with
       | some (cells,m),some (.data e' s cs true)=>if s=ei.size/\off+n*s<=cs.length then some (dV .i64 (Nat.min m n),[(r,.data e' s (splice cs off (cells.take (Nat.min m n*s))) true)]) else none
       | _,_=>none
     | none=>none
   | _=>none
 | _,_=>none):=by
 unfold copyS;split
 ·rename_i i hi;split
  ·rename_i e hk;split
   ·rename_i ei hE;split
    ·rename_i r z o n cap;split
     ·rename_i e' u f hr;split
      ·rename_i p hp hd;obtain ⟨h1,h2⟩:=of_decide_eq_true hd;intro hc;rw [bV] at hc;have h3:=WB s hp hc.1;have h4:=yH hc.2.1;have h5:(iL s rd) r=some (.data e' (fK u) (aI u (f s)) true):=by simp only [iL,hr,Option.map_some,SO.c]
       have hm:Nat.min (p.f s).length (n s)=min (p.f s).length (n s):=rfl;simp only [SV.c,hi,hk,hE,<-h1,h3,h5,HR.Ok,cO,SO.c];rw [if_pos ⟨trivial,by rw [h2,bI,<-Nat.add_mul];exact Nat.mul_le_mul_right _ h4⟩,hm,gy,h2,akA]
       ·rw [aob];have:(p.f s).take (min (p.f s).length (n s))=(p.f s).take (n s):=by
         rcases Nat.le_total (p.f s).length (n s) with h | h
         ·rw [Nat.min_eq_left h,List.take_length,List.take_of_length_le h]
         ·rw [Nat.min_eq_right h]
        rw [this]
       ·rw [List.length_take];omega
      ·trivial
     ·trivial
    ·trivial
   ·trivial
  ·trivial
 ·trivial
def WE (T:Ty) (rd:Nat->Option (SO σ)) (slot t:Nat):HR σ :=
 match iM rd slot&&isSet T t with
 | true => .ok (.ptr slot 0) [(slot,.mp fun _=>[])]
 | false => .fail "map: type"
theorem adx (s:σ) (T:Ty) (rd:Nat->Option (SO σ)) (slot t:Nat):(WE T rd slot t).Ok s (if (iL s rd slot).isSome then none else if isSet T t then some (.ptr slot 0,[(slot,.mp [])]) else none):=by
 unfold WE;split
 ·rename_i h;rw [Bool.and_eq_true] at h;rw [if_neg (uX s h.1),if_pos h.2];simp only [HR.Ok,SV.c,cO,SO.c]
 ·trivial
def WH (T:Ty) (rd:Nat->Option (SO σ)) (t:Nat) (x y:SV σ):HR σ :=
 match isSet T t,x with
 | true,.ptr r _=>match rd r,asS y with
   | some (.mp f),some k => .ok (.bool fun s=>decide (k s∈f s)) []
   | _,_ => .fail "map: lookup"
 | _,_ => .fail "map: type"
theorem ady (s:σ) (T:Ty) (rd:Nat->Option (SO σ)) (t:Nat) (x y:SV σ):(WH T rd t x y).Ok s (if isSet T t then (match x.c s,y.c s with
 | .ptr r _,.d (.val (.string k))=>match iL s rd r with
   | some (.mp ks)=>some (eu (decide (k.data.toList∈ks)),[])
   | _=>none
 | _,_=>none) else none):=by
 unfold WH;split
 ·rename_i r off hT;split
  ·rename_i f k hr hk;rw [if_pos hT,tH hk];simp only [HR.Ok,SV.c,cO,iL,hr,Option.map_some,SO.c]
  ·trivial
 ·trivial
def isTrue (v:SV σ):Bool:=match v with | .val (.bool true)=>true | _=>false
theorem adz {v:SV σ} (h:isTrue v=true) (s:σ):v.c s = .d (.val (.bool true)):=by
 unfold isTrue at h;split at h
 ·rw [SV.c]
 ·cases h
def adA (T:Ty) (rd:Nat->Option (SO σ)) (t:Nat) (x y z:SV σ):HR σ :=
 match isSet T t&&isTrue z,x with
 | true,.ptr r _=>match rd r,asS y with
   | some (.mp f),some k => .ok .undef [(r,.mp fun s=>Dz (f s) (k s))]
   | _,_ => .fail "map: update"
 | _,_ => .fail "map: type"
theorem agx (s:σ) (T:Ty) (rd:Nat->Option (SO σ)) (t:Nat) (x y z:SV σ):(adA T rd t x y z).Ok s (if isSet T t then (match x.c s,y.c s,z.c s with
 | .ptr r _,.d (.val (.string k)),.d (.val (.bool true))=>match iL s rd r with
   | some (.mp ks)=>some (.undef,[(r,.mp (Dz ks k.data.toList))])
   | _=>none
 | _,_,_=>none) else none):=by
 unfold adA;split
 ·rename_i r off hT;rw [Bool.and_eq_true] at hT;split
  ·rename_i f k hr hk;rw [if_pos hT.1,tH hk,adz hT.2];simp only [HR.Ok,SV.c,cO,iL,hr,Option.map_some,SO.c]
  ·trivial
 ·trivial
def hS (eg:Nat->Bool) (T:Ty) (rd:Nat->Option (SO σ)) (slot:Nat) (o:Oper) (ρ:Operand->SV σ):HR σ :=
 match o.op with
 | .alloc t=>Wx T rd slot t
 | .box t x=>boxS rd slot (ρ x)
 | .buildSlice t n parts=>Kw T rd slot t n (CY ρ parts)
 | .load t x=>adr T rd t (ρ x)
 | .store t x y=>Wv T rd t (ρ x) (ρ y)
 | .makeMap t none=>WE T rd slot t
 | .lookup t x y false=>WH T rd t (ρ x) (ρ y)
 | .mapUpdate t x y z=>adA T rd t (ρ x) (ρ y) (ρ z)
 | .makeSlice t l c=>Qz T rd slot t (Vs l c) (ρ l) (ρ c)
 | .convert src dst x=>cvS T rd src dst (ρ x)
 | .call c=>match c.callee with
   | .builtin .append=>match c.args.toList.map ρ with
     | [x,y]=>akw (eg slot) T rd slot c.argTypes[0]? c.argTypes[1]? x y
     | _ => .fail "append: arguments"
   | .builtin .copy=>match c.args.toList.map ρ with
     | [x,y]=>copyS T rd c.argTypes[0]? x y
     | _ => .fail "copy: arguments"
   | _ => .fail "call"
 | _ => .fail "operation"
theorem aqH (s:σ) (eg:Nat->Bool) (T:Ty) (rd:Nat->Option (SO σ)) (slot:Nat) (o:Oper) (ρ:Operand->SV σ):(hS eg T rd slot o ρ).Ok s (Cj T (iL s rd) slot o fun x=>(ρ x).c s):=by
 unfold hS Cj;cases ho:o.op with
 | alloc t=>exact adv s T rd slot t
 | box t x=>exact akv s rd slot _
 | buildSlice t n parts =>
   have:=Wy s T rd slot t n (CY ρ parts);have e:((CY ρ parts).map fun p=>(p.1,p.2.c s))=(parts.toList.map fun (j,x)=>(j,(ρ x).c s)):=by unfold CY;rw [List.map_map];rfl
   rw [e] at this;have e2:((parts.toList.map fun ((j,x):Nat×Operand)=>(j,(ρ x).c s)).all fun p=>zo (kinds (iL s rd)) p.2)=(parts.toList.all fun ((_,x):Nat×Operand)=>zo (kinds (iL s rd)) ((ρ x).c s)):=by rw [List.all_map];rfl
   rw [e2] at this;exact this
 | load t x=>exact agr s T rd t _
 | store t x y=>exact adu s T rd t _ _
 | makeMap t r=>cases r with | none=>exact adx s T rd slot t | some r=>trivial
 | lookup t x y ok=>cases ok with | false=>exact ady s T rd t _ _ | true=>trivial
 | mapUpdate t x y z=>exact agx s T rd t _ _ _
 | makeSlice t l c=>exact aaW s T rd slot t (Vs l c) (ρ l) (ρ c) (fun h=>by rw [agv h])
 | convert src dst x=>exact aoa s T rd src dst _
 | call c =>
   simp only;split
   ·rename_i hc;simp only [hc];split
    ·rename_i x y hxy;have:=akx s (eg slot) T rd slot c.argTypes[0]? c.argTypes[1]? x y;rw [qO,hxy];simp only [cL];cases h1:c.argTypes[0]?.bind T with
     | none=>simp only [h1] at this;exact this
     | some i =>
       cases h2:c.argTypes[1]?.bind T with
       | none=>simp only [h1,h2] at this;exact this
       | some j=>simp only [h1,h2] at this;exact this
    ·trivial
   ·rename_i hc;simp only [hc];split
    ·rename_i x y hxy;rw [qO,hxy];exact agw s T rd c.argTypes[0]? x y
    ·trivial
   ·trivial
 | _=>trivial
end
end Go.Proofs.Ytkpijdndakljjaa
