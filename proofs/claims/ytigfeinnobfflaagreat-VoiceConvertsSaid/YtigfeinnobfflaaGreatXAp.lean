import Derived.Test.YtigfeinnobfflaaGreatHBp
import Derived.Test.YtigfeinnobfflaaGreatHAp
set_option linter.unusedSimpArgs false
set_option linter.unusedVariables false
namespace Go.Proofs.YtigfeinnobfflaaGreat
open Go.RowKit
mutual
theorem Ve {σ:Nat->Nat}:∀(x:AV),x.refs=[]->jZ σ x=x
 | .d x,_=>by rw [jZ]
 | .ptr r o,h=>by rw [AV.refs] at h;cases h
 | .sl r o n c,h=>by rw [AV.refs] at h;cases h
 | .dptr cs o,_=>by rw [jZ]
 | .agg cs,h=>by rw [AV.refs] at h;rw [jZ,xg h]
 | .tup cs,h=>by rw [AV.refs] at h;rw [jZ,xg h]
 | .clo f cs,h=>by rw [AV.refs] at h;rw [jZ,xg h]
 | .undef,_=>by rw [jZ]
 | .ab,_=>by rw [jZ]
 | .junk,_=>by rw [jZ]
theorem xg {σ:Nat->Nat}:∀ {xs:List AV},AV.refs.refsL xs=[]->wX σ xs=xs
 | [],_=>by rw [wX]
 | x::xs,h=>by
   rw [AV.refs.refsL,List.append_eq_nil_iff] at h;rw [wX,Ve x h.1,xg h.2]
end
theorem Vf {P:Program} {GL:Nat->Option (List DV)} {f:FuncId} {args:List AV} {n:Nat} {c:Option Nat} {e s:Nat} {cs:List DV} (h:fZ P GL f args [] (.sl 1 0 n c) [(1,.data e s cs true)]) (hra:AV.refs.refsL args=[]) {rd:Nat->Option AO} {r:Nat} (hr:rd r=none):Does P GL f args [r] (.sl r 0 n c) [(r,.data e s cs true)] rd:=by
 have W:=abg [(1,r)] h;have s1:sw [(1,r)] 1=r:=by simp [sw]
 simp only [jZ,yR,qZ,s1] at W;rw [xg hra] at W;refine qg W (fun x hx=>by cases hx) rfl (by rw [hra];rfl) (fun x hx => ?_) rfl;rcases List.mem_singleton.1 hx with rfl;exact ⟨by simp,.inl hr⟩
theorem DT {hp:List (Nat×AO)} {e s:Nat}:Back [] hp [(1,.data e s [] true)] (.sl 1 0 0 none) (.d (.val (.slice none 0 0))):=by
 refine Back.mk (fun _=>none) (fun r o h=>by cases h) ⟨fun r o h => ?_,fun r r' o o' x h1 h2 h3 h4 h5=>by cases h5⟩ ?_
 ·unfold aK look at h;split at h
  ·cases h;unfold rJ;rfl
  ·cases h
 ·rw [eY];exact ⟨rfl,.inr (.inl ⟨rfl,rfl,rfl,rfl,rfl⟩)⟩
theorem Yi {P:Program} {GL:Nat->Option (List DV)} {f:FuncId} {args:List AV} {rds rds':List Nat} {v:AV} {us:List (Nat×AO)} {rd:Nat->Option AO} (h:Does P GL f args rds v us rd) (hs:∀r∈rds,r∈rds'):Does P GL f args rds' v us rd :=
 fun E w vs hr hw hS hrel=>h E w vs (fun r hm=>hr r (hs r hm)) hw hS hrel
theorem uO {P:Program} {GL:Nat->Option (List DV)} {f:FuncId} {fn:Func} {c:Code} (hf:P.funcs[f]? = some fn) (hb:fn.body=some c) {args:List AV} (hn:args.length<=fn.ntmps) {os us:List (Nat×AO)} {x v:AV} {e:Exit} {s':SL}
 (h:To P GL fn.ntmps (aK os) c ⟨fn.ntmps,iT 0 args,os⟩ e s') (he:MJ e=true) (hx:BI (aO P) fn s'=some x) (hbk:Back os s'.hp us v x):fZ P GL f args os v us:=fun E w vs hE hw hs hrel=>by
 have hlen:=fH _ _ hrel;have hvs:vs.size=args.length:=by rw [<-Array.length_toList];exact hlen
 refine calls_of_wp hf hb ?_;have hS:vO GL fn.ntmps E {tmps:=vs++Array.replicate (fn.ntmps-vs.size) undef,defers:=[]} w (⟨fn.ntmps,iT 0 args,os⟩:SL).S:=by
  refine ⟨hw,hE,hs,?_,rfl,fun t => ?_⟩
  ·simp only [Array.size_append,Array.size_replicate];omega
  ·show Rel _ (match look t (iT 0 args) with | some x=>x | none => .junk) _;rw [lV];simp only [Nat.zero_le,if_true,Nat.sub_zero];cases hx:args[t]? with
   | none=>simp only;rw [Rel];trivial
   | some x =>
     obtain ⟨u,h1,h2⟩:=qp _ _ t x hrel hx;have ht:t<vs.size:=by
      have:=(List.getElem?_eq_some_iff.1 h1).1;simpa using this
     rw [Array.getD_eq_getD_getElem?,Array.getElem?_append_left ht];have h1':vs[t]? = some u:=by simpa using h1
     rw [h1'];exact h2
 refine wp_mono (h E w E _ w hE hS (iE.refl _ _)) fun e1 a' w' ⟨s1,E',⟨h1,h2⟩,h3,h4⟩ => ?_;subst h1 h2;obtain ⟨θ,k0,k2,k3⟩:=hbk;have fin:a'.defers=[]/\∃y,(results fn a'.tmps).run P w' = .ok y w'/\∃u E'',Ending.returned y = .returned u/\w'.heap=E''.h/\E''.hp=aK us/\eX GL E''/\Ext E E''/\mX E w E'' w'/\Rel E'' v u:=by
  obtain ⟨y,g1,g2⟩:=FH h3 hx;have hp:E'.hp=aK s'.hp:=h3.hp;rw [<-hp] at k2 k3;exact ⟨h3.df,y,g1,y,jW E' θ (aK us),rfl,h3.h,rfl,tC h3.sim k2,BH h4 k2 (fun r o ho=>by rw [hE] at ho;exact k0 r o ho),tH k2 h4.fr,wU h3.sim k2 _ _ _ k3 g2⟩
 cases e1 with
 | normal=>exact fin
 | ret=>exact fin
 | exit i=>cases he
 | goto l=>cases he
 | panic ch=>cases he
 | outgrown=>cases he
mutual
def tN (rd:Nat->Option AO):AV->Option AV
 | .d x=>some (.d x)
 | .sl r off n _=>match rd r with
   | some (.data _ s cs _)=>some (.d (.dl ((cs.drop off).take (n*s)) n none))
   | _=>none
 | .agg cs=>(I5 rd cs).map .agg
 | .tup cs=>(I5 rd cs).map .tup
 | _=>none
def I5 (rd:Nat->Option AO):List AV->Option (List AV)
 | []=>some []
 | x::xs=>match tN rd x,I5 rd xs with
   | some y,some ys=>some (y::ys)
   | _,_=>none
end
mutual
theorem MS {hp:List (Nat×AO)}:∀(x:AV) (v:AV),tN (aK hp) x=some v->eY (fun _=>none) (aK hp) (aK []) v x
 | .d x,v,h=>by rw [tN] at h;cases h;exact abj rfl rfl
 | .sl r off n c,v,h=>by
   rw [tN] at h;split at h
   ·rename_i e s cs wr hr;cases h;exact aeX hr rfl
   ·cases h
 | .agg cs,v,h=>by
   rw [tN,Option.map_eq_some_iff] at h;obtain ⟨l,h1,rfl⟩:=h;exact ae0 (FY cs l h1)
 | .tup cs,v,h=>by
   rw [tN,Option.map_eq_some_iff] at h;obtain ⟨l,h1,rfl⟩:=h;exact aeZ (FY cs l h1)
 | .ptr _ _,v,h=>by rw [tN] at h;cases h;all_goals simp
 | .dptr _ _,v,h=>by rw [tN] at h;cases h;all_goals simp
 | .clo _ _,v,h=>by rw [tN] at h;cases h;all_goals simp
 | .undef,v,h=>by rw [tN] at h;cases h;all_goals simp
 | .ab,v,h=>by rw [tN] at h;cases h;all_goals simp
 | .junk,v,h=>by rw [tN] at h;cases h;all_goals simp
theorem FY {hp:List (Nat×AO)}:∀(xs vs:List AV),I5 (aK hp) xs=some vs->gJ (fun _=>none) (aK hp) (aK []) vs xs
 | [],vs,h=>by rw [I5] at h;cases h;exact aeY
 | x::xs,vs,h=>by
   rw [I5] at h;split at h
   ·rename_i y ys h1 h2;cases h;exact abk (MS x y h1) (FY xs ys h2)
   ·cases h
end
theorem Vg {P:Program} {GL:Nat->Option (List DV)} {L:List (List (Option TI))} {cs:List Nat} (K:Facts P L cs) {l:List (Nat×Func)} (hl:IY P l) {con:Vb} (hcon:∀f args rd v us rds,con f args rd=some (v,us,rds)->qA P f=true/\Does P GL f args rds v us rd) {f:FuncId} {fn:Func} {c:Code} (hf:P.funcs[f]? = some fn) (hb:fn.body=some c) (n:Nat) {v:AV}
 (h:∀R:Bool->Option AV->Prop,iU real (fun _ _ _ _ _ _=>False) con (IZ l) (yP (aO P) L) GL (qOf cs) n fn.ntmps [] c (fun e s _=>R (MJ e) ((BI (yP (aO P) L) fn s).bind (tN (PO s)))) ⟨fn.ntmps,[],[]⟩ 0=R true (some v)):fZ P GL f [] [] v []:=by
 have h':=h (fun b o=>b=true/\o=some v);have h'':=h'.mpr ⟨rfl,rfl⟩;rw [<-K.hT] at h'';obtain ⟨e,s',F',⟨h1,h2⟩,h3⟩:=ML K.hq K.hdp K.hm (fun _ _ _ _ _ _ h=>h.elim) hcon (Ak hl) n fn.ntmps [] (aK []) c _ _ 0 (fun r hr=>by cases hr) h'';rw [Option.bind_eq_some_iff] at h2;obtain ⟨x,k1,k2⟩:=h2;rw [BL] at k2;exact uO hf hb (args:=[]) (Nat.zero_le _) h3 h1 k1 (IE (MS (hp:=s'.hp) x v k2))
inductive U where
 | int (k:IntKind) | bool | str | list (t:U) | pair (a b:U) | unit
@[reducible] def U.T:U->Type
  | .int _=>Int
  | .bool=>Bool
  | .str=>List UInt8
  | .list t=>List t.T
  | .pair a b=>a.T×b.T
  | .unit=>Unit
def gq:(t:U)->t.T->List DV
 | .int k,n=>[.val (.int k n)]
 | .bool,b=>[.val (.bool b)]
 | .str,s=>[.val (.string ⟨s.toArray⟩)]
 | .list t,l=>[.dl (l.flatMap (gq t)) l.length none]
 | .pair a b,p=>gq a p.1++gq b p.2
 | .unit,_=>[]
def eH:U->Nat
 | .pair a b=>eH a+eH b
 | .unit=>0
 | _=>1
theorem dB:∀(t:U) (x:t.T),(gq t x).length=eH t
 | .int _,_=>rfl
 | .bool,_=>rfl
 | .str,_=>rfl
 | .list _,_=>rfl
 | .pair a b,p=>by show (gq a p.1++gq b p.2).length=eH a+eH b;rw [List.length_append,dB a,dB b]
 | .unit,_=>rfl
def zh (a b:IntKind):Option (PLift (a=b)):=if h:a=b then some ⟨h⟩ else none
def Ox:(a b:U)->Option (PLift (a=b))
 | .int k,.int k'=>match zh k k' with | some ⟨h⟩=>some ⟨by rw [h]⟩ | none=>none
 | .bool,.bool=>some ⟨rfl⟩
 | .str,.str=>some ⟨rfl⟩
 | .list t,.list t'=>match Ox t t' with | some ⟨h⟩=>some ⟨by rw [h]⟩ | none=>none
 | .pair a b,.pair a' b'=>match Ox a a',Ox b b' with | some ⟨h⟩,some ⟨k⟩=>some ⟨by rw [h,k]⟩ | _,_=>none
 | .unit,.unit=>some ⟨rfl⟩
 | _,_=>none
def aS (t:U) (l:List t.T):List DV:=l.flatMap (gq t)
theorem bF (t:U) (l:List t.T):(aS t l).length=l.length*eH t:=by
 induction l with
 | nil=>simp [aS]
 | cons x l ih =>
   unfold aS at ih ⊢;rw [List.flatMap_cons,List.length_append,ih,dB,List.length_cons,Nat.succ_mul,Nat.add_comm]
theorem jm (t:U) (a b:List t.T):aS t (a++b)=aS t a++aS t b:=List.flatMap_append
theorem iO (t:U):∀(n:Nat) (l:List t.T),(aS t l).drop (n*eH t)=aS t (l.drop n)
 | 0,l=>by simp
 | n+1,[]=>by simp [aS]
 | n+1,x::l=>by
   rw [List.drop_succ_cons,<-iO t n l,show aS t (x::l)=gq t x++aS t l from List.flatMap_cons,Nat.succ_mul,List.drop_append,dB,show n*eH t+eH t-eH t=n*eH t from by omega,List.drop_eq_nil_of_le (by rw [dB];omega)];rfl
theorem fJ (t:U):∀(n:Nat) (l:List t.T),(aS t l).take (n*eH t)=aS t (l.take n)
 | 0,l=>by simp [aS]
 | n+1,[]=>by simp [aS]
 | n+1,x::l=>by
   rw [List.take_succ_cons,show aS t (x::l)=gq t x++aS t l from List.flatMap_cons,show aS t (x::l.take n)=gq t x++aS t (l.take n) from List.flatMap_cons,<-fJ t n l,Nat.succ_mul,List.take_append,dB,show n*eH t+eH t-eH t=n*eH t from by omega,List.take_of_length_le (by rw [dB];omega)]
theorem FZ (t:U) {l:List t.T} {j:Nat} {x:t.T} (h:l[j]? = some x):(aS t l).drop (j*eH t)=gq t x++aS t (l.drop (j+1)):=by
 obtain ⟨hj,rfl⟩:=List.getElem?_eq_some_iff.1 h;rw [iO,List.drop_eq_getElem_cons hj];exact List.flatMap_cons
theorem Vh (t:U) {l:List t.T} {j:Nat} {x:t.T} (h:l[j]? = some x) {o:Nat} (ho:o<eH t):(aS t l)[j*eH t+o]? = (gq t x)[o]? := by
 rw [<-List.getElem?_drop,FZ t h,List.getElem?_append_left (by rw [dB];exact ho)]
def Xv (l:List Int):AO := .mp .i64 l (l.map fun _=>bJ true)
inductive Cp (σ:Type):Type where
 | unk | full | fn (c:σ->Nat)
inductive SV (σ:Type):Type where
 | val (v:Value)
 | int (k:IntKind) (f:σ->Int)
 | bool (f:σ->Bool)
 | str (f:σ->List UInt8)
 | lst (t:U) (f:σ->List t.T)
 | ptr (r off:Nat)
 | ptx (r z:Nat) (j:σ->Nat) (off:Nat)
 | sl (r z:Nat) (o:Option (σ->Nat)) (n:σ->Nat) (cap:Cp σ)
 | dpt (t:U) (f:σ->List t.T) (j:σ->Nat) (off:Nat)
 | agg (cs:List (SV σ))
 | tup (cs:List (SV σ))
 | clo (f:Nat) (cs:List (SV σ))
 | undef | junk
inductive SO (σ:Type):Type where
 | data (e:Nat) (t:U) (f:σ->List t.T) (wr:Bool)
 | arr (t:U) (f:σ->List t.T)
 | mix (cs:List (SV σ))
 | mp (f:σ->List Int)
 | tab (kk:IntKind) (ks:List Int) (vs:List (SV σ))
 | dead
structure SS (σ:Type):Type where
 tm:List (Nat×SV σ)
 hp:List (Nat×SO σ)
section
variable {σ σ':Type} (g:σ'->σ)
def akR (o:Option (σ->Nat)):Option (σ'->Nat):=match o with | some o=>some fun s=>o (g s) | none=>none
def akS (c:Cp σ):Cp σ':=match c with | .unk => .unk | .full => .full | .fn c => .fn fun s=>c (g s)
mutual
def SV.map:SV σ->SV σ'
 | .val v => .val v
 | .int k f => .int k fun s=>f (g s)
 | .bool f => .bool fun s=>f (g s)
 | .str f => .str fun s=>f (g s)
 | .lst t f => .lst t fun s=>f (g s)
 | .ptr r off => .ptr r off
 | .ptx r z j off => .ptx r z (fun s=>j (g s)) off
 | .sl r z o n cap => .sl r z (akR g o) (fun s=>n (g s)) (akS g cap)
 | .dpt t f j off => .dpt t (fun s=>f (g s)) (fun s=>j (g s)) off
 | .agg cs => .agg (nX cs)
 | .tup cs => .tup (nX cs)
 | .clo f cs => .clo f (nX cs)
 | .undef => .undef
 | .junk => .junk
def nX:List (SV σ)->List (SV σ')
 | []=>[]
 | x::l=>x.map::nX l
end
def SO.map:SO σ->SO σ'
 | .data e t f wr => .data e t (fun s=>f (g s)) wr
 | .arr t f => .arr t fun s=>f (g s)
 | .mix cs => .mix (nX g cs)
 | .mp f => .mp fun s=>f (g s)
 | .tab kk ks vs => .tab kk ks (nX g vs)
 | .dead => .dead
def lu:List (Nat×SV σ)->List (Nat×SV σ')
 | []=>[]
 | (t,v)::l=>(t,v.map g)::lu l
def iV:List (Nat×SO σ)->List (Nat×SO σ')
 | []=>[]
 | (t,v)::l=>(t,v.map g)::iV l
def SS.map (d:SS σ):SS σ':=⟨lu g d.tm,iV g d.hp⟩
end
section
variable {σ σ':Type} (s:σ)
def sG (o:Option (σ->Nat)):Nat:=match o with | some f=>f s | none=>0
def cOf (o:Option (σ->Nat)):Option Nat:=match o with | some f=>some (f s) | none=>none
def oW (n:Nat) (c:Cp σ):Option Nat:=match c with | .unk=>none | .full=>some n | .fn c=>some (c s)
mutual
def SV.c:SV σ->AV
 | .val v => .d (.val v)
 | .int k f=>dG k (f s)
 | .bool f=>bJ (f s)
 | .str f => .d (.val (.string ⟨(f s).toArray⟩))
 | .lst t f => .d (.dl (aS t (f s)) (f s).length none)
 | .ptr r off => .ptr r off
 | .ptx r z j off => .ptr r (j s*z+off)
 | .sl r z o n cap => .sl r (sG s o*z) (n s) (oW s (n s) cap)
 | .dpt t f j off => .dptr (aS t (f s)) (j s*eH t+off)
 | .agg cs => .agg (cL cs)
 | .tup cs => .tup (cL cs)
 | .clo f cs => .clo f (cL cs)
 | .undef => .undef
 | .junk => .junk
def cL:List (SV σ)->List AV
 | []=>[]
 | x::l=>x.c::cL l
end
def SO.c:SO σ->AO
 | .data e t f wr => .data e (eH t) (aS t (f s)) wr
 | .arr t f => .mix ((aS t (f s)).map .d)
 | .mix cs => .mix (cL s cs)
 | .mp f=>Xv (f s)
 | .tab kk ks vs => .mp kk ks (cL s vs)
 | .dead => .dead
def cT:List (Nat×SV σ)->List (Nat×AV)
 | []=>[]
 | (t,v)::l=>(t,v.c s)::cT l
def cO:List (Nat×SO σ)->List (Nat×AO)
 | []=>[]
 | (t,v)::l=>(t,v.c s)::cO l
def SS.c (N:Nat) (d:SS σ):SL:=⟨N,cT s d.tm,cO s d.hp⟩
end
section
variable {σ σ':Type} (g:σ'->σ) (s:σ')
mutual
theorem Sj:∀v:SV σ,(v.map g).c s=v.c (g s)
 | .val v=>by rw [SV.map,SV.c,SV.c]
 | .int k f=>by rw [SV.map,SV.c,SV.c]
 | .bool f=>by rw [SV.map,SV.c,SV.c]
 | .str f=>by rw [SV.map,SV.c,SV.c]
 | .lst t f=>by rw [SV.map,SV.c,SV.c]
 | .ptr r off=>by rw [SV.map,SV.c,SV.c]
 | .ptx r z j off=>by rw [SV.map,SV.c,SV.c]
 | .sl r z o n cap=>by rw [SV.map,SV.c,SV.c];cases o<;>cases cap<;>rfl
 | .dpt t f j off=>by rw [SV.map,SV.c,SV.c]
 | .agg cs=>by rw [SV.map,SV.c,SV.c,uP cs]
 | .tup cs=>by rw [SV.map,SV.c,SV.c,uP cs]
 | .clo f cs=>by rw [SV.map,SV.c,SV.c,uP cs]
 | .undef=>by rw [SV.map,SV.c,SV.c]
 | .junk=>by rw [SV.map,SV.c,SV.c]
theorem uP:∀l:List (SV σ),cL s (nX g l)=cL (g s) l
 | []=>by rw [nX,cL,cL]
 | x::l=>by rw [nX,cL,cL,Sj x,uP l]
end
theorem JR (o:SO σ):(o.map g).c s=o.c (g s):=by
 cases o with
 | data e t f wr=>rfl
 | arr t f=>rfl
 | mix cs=>show AO.mix _=AO.mix _;rw [uP]
 | mp f=>rfl
 | tab kk ks vs=>show AO.mp _ _ _=AO.mp _ _ _;rw [uP]
 | dead=>rfl
theorem JU:∀l:List (Nat×SV σ),cT s (lu g l)=cT (g s) l
 | []=>rfl
 | (t,v)::l=>by rw [lu,cT,cT,Sj,JU l]
theorem oH:∀l:List (Nat×SO σ),cO s (iV g l)=cO (g s) l
 | []=>rfl
 | (t,v)::l=>by rw [iV,cO,cO,JR,oH l]
theorem Yj (N:Nat) (d:SS σ):(d.map g).c s N=d.c (g s) N:=by unfold SS.map SS.c;rw [JU,oH]
end
section
variable {σ:Type} (s:σ)
theorem gy:∀l:List (SV σ),cL s l=l.map (·.c s)
 | []=>rfl
 | x::l=>by rw [cL,gy l];rfl
theorem iq (l:List (SV σ)):(cL s l).length=l.length:=by rw [gy,List.length_map]
theorem mJ (a b:List (SV σ)):cL s (a++b)=cL s a++cL s b:=by rw [gy,gy,gy,List.map_append]
theorem EG (n:Nat) (a:List (SV σ)):cL s (a.drop n)=(cL s a).drop n:=by rw [gy,gy,List.map_drop]
theorem EH (n:Nat) (a:List (SV σ)):cL s (a.take n)=(cL s a).take n:=by rw [gy,gy,List.map_take]
theorem JW (a:List (SV σ)) (i:Nat):(cL s a)[i]? = a[i]?.map (·.c s):=by rw [gy,List.getElem?_map]
theorem tV:∀(a b:List (Nat×SV σ)),cT s (a++b)=cT s a++cT s b
 | [],b=>rfl
 | (t,v)::a,b=>by rw [List.cons_append,cT,cT,tV a b];rfl
theorem cZ:∀(a b:List (Nat×SO σ)),cO s (a++b)=cO s a++cO s b
 | [],b=>rfl
 | (t,v)::a,b=>by rw [List.cons_append,cO,cO,cZ a b];rfl
theorem mZ (k:Nat):∀l:List (Nat×SV σ),look k (cT s l)=(look k l).map (·.c s)
 | []=>rfl
 | (i,x)::l=>by
   rw [cT,look,look];by_cases h:i=k
   ·rw [if_pos h,if_pos h];rfl
   ·rw [if_neg h,if_neg h,mZ k l]
theorem jI (k:Nat):∀l:List (Nat×SO σ),look k (cO s l)=(look k l).map (·.c s)
 | []=>rfl
 | (i,x)::l=>by
   rw [cO,look,look];by_cases h:i=k
   ·rw [if_pos h,if_pos h];rfl
   ·rw [if_neg h,if_neg h,jI k l]
end
section
variable {σ:Type}
def Xw:(t:U)->(σ->t.T)->List (SV σ)
 | .int k,f=>[.int k f]
 | .bool,f=>[.bool f]
 | .str,f=>[.str f]
 | .list t,f=>[.lst t f]
 | .pair a b,f=>Xw a (fun s=>(f s).1)++Xw b (fun s=>(f s).2)
 | .unit,_=>[]
theorem Sl (s:σ):∀(t:U) (f:σ->t.T),cL s (Xw t f)=(gq t (f s)).map .d
 | .int k,f=>rfl
 | .bool,f=>rfl
 | .str,f=>rfl
 | .list t,f=>rfl
 | .pair a b,f=>by
   show cL s (Xw a _++Xw b _)=(gq a (f s).1++gq b (f s).2).map .d;rw [mJ,Sl s a,Sl s b,List.map_append]
 | .unit,f=>rfl
theorem zk:∀(t:U) (f:σ->t.T),(Xw t f).length=eH t
 | .int k,f=>rfl
 | .bool,f=>rfl
 | .str,f=>rfl
 | .list t,f=>rfl
 | .pair a b,f=>by show (Xw a _++Xw b _).length=eH a+eH b;rw [List.length_append,zk a,zk b]
 | .unit,f=>rfl
def Ap (v:SV σ):Option (IntKind×(σ->Int)) :=
 match v with
 | .val (.int k n)=>some (k,fun _=>n)
 | .int k f=>some (k,f)
 | _=>none
theorem kJ {v:SV σ} {k:IntKind} {f:σ->Int} (h:Ap v=some (k,f)) (s:σ):v.c s=dG k (f s):=by
 unfold Ap at h;split at h
 ·cases h;rw [SV.c];rfl
 ·cases h;rw [SV.c]
 ·cases h
def asB (v:SV σ):Option (σ->Bool) :=
 match v with
 | .val (.bool b)=>some (fun _=>b)
 | .bool f=>some f
 | _=>none
theorem xq {v:SV σ} {f:σ->Bool} (h:asB v=some f) (s:σ):v.c s=bJ (f s):=by
 unfold asB at h;split at h
 ·cases h;rw [SV.c];rfl
 ·cases h;rw [SV.c]
 ·cases h
def asS (v:SV σ):Option (σ->List UInt8) :=
 match v with
 | .val (.string b)=>some (fun _=>b.data.toList)
 | .str f=>some f
 | _=>none
theorem rQ {v:SV σ} {f:σ->List UInt8} (h:asS v=some f) (s:σ):v.c s = .d (.val (.string ⟨(f s).toArray⟩)):=by
 unfold asS at h;split at h
 ·cases h;rw [SV.c]
 ·cases h;rw [SV.c]
 ·cases h
end
section
variable {σ:Type}
mutual
def SV.refs:SV σ->List Nat
 | .val _=>[]
 | .int _ _=>[]
 | .bool _=>[]
 | .str _=>[]
 | .lst _ _=>[]
 | .ptr r _=>[r]
 | .ptx r _ _ _=>[r]
 | .sl r _ _ _ _=>[r]
 | .dpt _ _ _ _=>[]
 | .agg cs=>oZ cs
 | .tup cs=>oZ cs
 | .clo _ cs=>oZ cs
 | .undef=>[]
 | .junk=>[]
def oZ:List (SV σ)->List Nat
 | []=>[]
 | x::xs=>x.refs++oZ xs
end
theorem BN (x:DV):(AV.d x).refs=[]:=by simp [AV.refs]
mutual
theorem F5 (s:σ):∀v:SV σ,(v.c s).refs=v.refs
 | .ptr r off=>by rw [SV.c,SV.refs,AV.refs]
 | .ptx r z j off=>by rw [SV.c,SV.refs,AV.refs]
 | .sl r z o n cap=>by rw [SV.c,SV.refs,AV.refs]
 | .agg cs=>by rw [SV.c,SV.refs,AV.refs,rU s cs]
 | .tup cs=>by rw [SV.c,SV.refs,AV.refs,rU s cs]
 | .clo f cs=>by rw [SV.c,SV.refs,AV.refs,rU s cs]
 | .val v=>by rw [SV.c,SV.refs,BN]
 | .int k f=>by rw [SV.c,SV.refs];exact BN _
 | .bool f=>by rw [SV.c,SV.refs];exact BN _
 | .str f=>by rw [SV.c,SV.refs,BN]
 | .lst t f=>by rw [SV.c,SV.refs,BN]
 | .dpt t f j off=>by rw [SV.c,SV.refs];simp [AV.refs]
 | .undef=>by rw [SV.c,SV.refs];simp [AV.refs]
 | .junk=>by rw [SV.c,SV.refs];simp [AV.refs]
theorem rU (s:σ):∀l:List (SV σ),AV.refs.refsL (cL s l)=oZ l
 | []=>by rw [cL,AV.refs.refsL,oZ]
 | x::l=>by rw [cL,AV.refs.refsL,oZ,F5 s x,rU s l]
end
def SV.cells:SV σ->List (SV σ)
 | .agg cs=>cs
 | x=>[x]
theorem oI (s:σ) (v:SV σ):cL s v.cells=(v.c s).cellsOf:=by
 cases v<;>simp [SV.cells,SV.c,AV.cellsOf,cL,dG,bJ]
def SO.kind:SO σ->AK
 | .data _ t _ _ => .data (eH t)
 | .arr _ _ => .mix
 | .mix _ => .mix
 | .mp _ => .mp
 | .tab _ _ _ => .mp
 | .dead => .dead
theorem ae3 (s:σ) (o:SO σ):(o.c s).kind=o.kind:=by cases o<;>rfl
def JX (lk:Nat->Option AK):SV σ->Bool
 | .ptr r _=>fV lk r
 | .ptx r _ _ _=>fV lk r
 | .sl r _ _ _ _=>fV lk r
 | .tup _=>false
 | .undef=>false
 | .junk=>false
 | _=>true
theorem BO (lk:Nat->Option AK) (s:σ) (v:SV σ):sS lk (v.c s)=JX lk v:=by
 cases v<;>simp [JX,SV.c,sS,dG,bJ]
def F6 (place:Nat->Option (Nat×Nat)):List (SV σ)->List (Nat×SV σ)->Option (List (SV σ))
 | cs,[]=>some cs
 | cs,(i,v)::rest=>match place i with
   | none=>none
   | some (off,size)=>match decide (v.cells.length=size/\off+size<=cs.length) with
     | true=>F6 place (splice cs off v.cells) rest
     | false=>none
theorem qF {α β:Type} (f:α->β):∀(l:List α) (o:Nat) (new:List α),(splice l o new).map f=splice (l.map f) o (new.map f)
 | l,0,new=>by rw [splice,splice,List.map_append,List.map_drop,List.length_map]
 | [],o+1,new=>by rw [splice,List.map_nil,splice]
 | x::l,o+1,new=>by rw [splice,List.map_cons,List.map_cons,splice,qF f l o new]
theorem EI (s:σ) (place:Nat->Option (Nat×Nat)):∀(parts:List (Nat×SV σ)) (cs r:List (SV σ)),F6 place cs parts=some r->l7 place (cL s cs) (parts.map fun p=>(p.1,p.2.c s))=some (cL s r)
 | [],cs,r,h=>by rw [F6] at h;cases h;rw [List.map_nil,l7]
 | (i,v)::parts,cs,r,h=>by
   rw [F6] at h;rw [List.map_cons,l7];cases hp:place i with
   | none=>rw [hp] at h;cases h
   | some p =>
     rw [hp] at h;simp only at h ⊢;split at h
     ·rename_i hd;have hd:=of_decide_eq_true hd;have e:cL s (splice cs p.1 v.cells)=splice (cL s cs) p.1 (v.c s).cellsOf:=by rw [gy,qF,<-gy,<-gy,oI]
      rw [<-oI s v,iq,iq,if_pos hd,oI,<-e];exact EI s place parts _ r h
     ·cases h
def Aq (i:TI) (cs:List (SV σ)) (off:Nat):Option (SV σ) :=
 match i.k.isAgg with
 | true=>match decide (off+i.size<=cs.length) with
   | true=>some (.agg ((cs.drop off).take i.size))
   | false=>none
 | false=>cs[off]?
theorem uQ (s:σ) {i:TI} {cs:List (SV σ)} {off:Nat} {v:SV σ} (h:Aq i cs off=some v):fQ i (cL s cs) off=some (v.c s):=by
 unfold Aq at h;unfold fQ;split at h
 ·rename_i hk;split at h
  ·rename_i hd;cases h;rw [if_pos hk,if_pos (by rw [iq];exact of_decide_eq_true hd),SV.c,EH,EG]
  ·cases h
 ·rename_i hk;rw [if_neg (by rw [hk];simp),JW,h];rfl
def zeroS:List DV->Option (List (SV σ))
 | []=>some []
 | .val v::l=>match zeroS l with | some r=>some (.val v::r) | none=>none
 | _::_=>none
theorem Ar (s:σ):∀ {l:List DV} {r:List (SV σ)},zeroS l=some r->cL s r=l.map .d
 | [],r,h=>by rw [zeroS] at h;cases h;rfl
 | .val v::l,r,h=>by
   rw [zeroS] at h;split at h
   ·rename_i r' hr;cases h;rw [cL,Ar s hr,SV.c];rfl
   ·cases h
 | .dl _ _ _::l,r,h=>by rw [zeroS] at h;cases h;simp
def arS (op:BinOp) (k k':IntKind) (f g:σ->Int):Option (List (σ->Bool)×SV σ) :=
 match op with
 | .shl=>some ([fun s=>decide (0<=g s)],.int k fun s=>k.wrap (f s*2 ^ min (g s).toNat k.bits))
 | .shr=>some ([fun s=>decide (0<=g s)],.int k fun s=>(f s).fdiv (2 ^ min (g s).toNat k.bits))
 | op=>match zh k k' with
   | none=>none
   | some _=>match op with
     | .add=>some ([],.int k fun s=>k.wrap (f s+g s))
     | .sub=>some ([],.int k fun s=>k.wrap (f s-g s))
     | .mul=>some ([],.int k fun s=>k.wrap (f s*g s))
     | .quo=>some ([fun s=>decide (g s≠0)],.int k fun s=>k.wrap ((f s).tdiv (g s)))
     | .rem=>some ([fun s=>decide (g s≠0)],.int k fun s=>(f s).tmod (g s))
     | .and=>some ([],.int k fun s=>k.wrap (BitVec.ofInt k.bits (f s) &&& BitVec.ofInt k.bits (g s)).toNat)
     | .or=>some ([],.int k fun s=>k.wrap (BitVec.ofInt k.bits (f s) ||| BitVec.ofInt k.bits (g s)).toNat)
     | .xor=>some ([],.int k fun s=>k.wrap (BitVec.ofInt k.bits (f s) ^^^ BitVec.ofInt k.bits (g s)).toNat)
     | .andNot=>some ([],.int k fun s=>k.wrap (BitVec.ofInt k.bits (f s) &&& ~~~BitVec.ofInt k.bits (g s)).toNat)
     | .eql=>some ([],.bool fun s=>decide (f s=g s))
     | .neq=>some ([],.bool fun s=>decide (f s≠g s))
     | .lss=>some ([],.bool fun s=>decide (f s<g s))
     | .leq=>some ([],.bool fun s=>decide (f s<=g s))
     | .gtr=>some ([],.bool fun s=>decide (f s > g s))
     | .geq=>some ([],.bool fun s=>decide (f s>=g s))
     | _=>none
def allT (s:σ):List (σ->Bool)->Prop
 | []=>True
 | c::cs=>c s=true/\allT s cs
theorem bK (s:σ):∀(a b:List (σ->Bool)),allT s (a++b)↔allT s a/\allT s b
 | [],b=>by simp [allT]
 | c::a,b=>by rw [List.cons_append,allT,allT,bK s a b,and_assoc]
theorem ai0 (s:σ) {op:BinOp} {k k':IntKind} {f g:σ->Int} {cs:List (σ->Bool)} {v:SV σ} (h:arS op k k' f g=some (cs,v)) (hc:allT s cs):(sF op (.int k (f s)) (.int k' (g s))).map (fun v=>AV.d (.val v))=some (v.c s):=by
 unfold arS at h;split at h
 ·cases h;simp only [allT,decide_eq_true_eq] at hc;simp only [sF,if_pos hc.1];rw [SV.c];rfl
 ·cases h;simp only [allT,decide_eq_true_eq] at hc;simp only [sF,if_pos hc.1];rw [SV.c];rfl
 ·rename_i n1 n2;split at h
  ·cases h
  ·rename_i hk _;obtain ⟨hk⟩:=hk;subst hk;split at h
   all_goals first
    | (cases h;done)
    | (cases h;simp only [allT,decide_eq_true_eq,ne_eq] at hc;simp only [sF,if_true,if_neg hc.1];rw [SV.c];rfl)
    | (cases h;simp only [sF,if_true];rw [SV.c];first | rfl | (simp only [bJ,Option.map_some];congr 4;first | rfl | (rw [Bool.eq_iff_iff];simp)))
def stS (op:BinOp) (f g:σ->List UInt8):Option (List (σ->Bool)×SV σ) :=
 match op with
 | .eql=>some ([],.bool fun s=>decide (f s=g s))
 | .neq=>some ([],.bool fun s=>decide (f s≠g s))
 | .lss=>some ([],.bool fun s=>Op.bytesLess (f s) (g s))
 | .leq=>some ([],.bool fun s=>Op.bytesLess (f s) (g s)||decide (f s=g s))
 | .gtr=>some ([],.bool fun s => !(Op.bytesLess (f s) (g s)||decide (f s=g s)))
 | .geq=>some ([],.bool fun s => !Op.bytesLess (f s) (g s))
 | .add=>some ([fun s=>decide ((f s).length+(g s).length<=9223372036854775807)],.str fun s=>f s++g s)
 | _=>none
theorem Sr (l:List UInt8):(⟨l.toArray⟩:ByteArray).toList=l:=by rw [ByteArray.toList_eq]
theorem ae4 (a b:List UInt8):(⟨a.toArray⟩:ByteArray)++⟨b.toArray⟩=⟨(a++b).toArray⟩:=by
 apply ByteArray.ext;simp
theorem ae5 (a b:List UInt8) (h:a.length+b.length<=9223372036854775807):(((⟨a.toArray⟩:ByteArray).size+(⟨b.toArray⟩:ByteArray).size:Nat):Int)<=IntKind.i64.max:=by
 show ((a.toArray.size+b.toArray.size:Nat):Int)<=9223372036854775807;simp only [List.size_toArray];omega
theorem ai1 (s:σ) {op:BinOp} {f g:σ->List UInt8} {cs:List (σ->Bool)} {v:SV σ} (h:stS op f g=some (cs,v)) (hc:allT s cs):(sF op (.string ⟨(f s).toArray⟩) (.string ⟨(g s).toArray⟩)).map (fun v=>AV.d (.val v))=some (v.c s):=by
 unfold stS at h;split at h
 all_goals first
  | (cases h;done)
  | (cases h;simp only [allT,decide_eq_true_eq] at hc;simp only [sF,if_pos (ae5 _ _ hc.1),Option.map_some,ae4];rw [SV.c];done)
  | (cases h;simp only [sF,Sr,Option.map_some];rw [SV.c];refine congrArg (fun b=>some (AV.d (DV.val (Value.bool b)))) ?_;first | rfl | (rw [Bool.eq_iff_iff];simp))
end
section
variable {σ:Type}
abbrev QR (σ:Type):=Option (List (σ->Bool)×SV σ)
def dK (s:σ) (r:QR σ) (x:Option AV):Prop:=∀cs v,r=some (cs,v)->allT s cs->x=some (v.c s)
theorem dK.none {s:σ} {x:Option AV}:dK s none x:=fun _ _ h=>by cases h
theorem dK.pure {s:σ} {v:SV σ} {x:Option AV} (h:x=some (v.c s)):dK s (some ([],v)) x:=fun _ _ e _=>by cases e;exact h
def Yk (c a b:SV σ):QR σ :=
 match c with
 | .val (.bool true)=>some ([],a)
 | .val (.bool false)=>some ([],b)
 | .bool f=>match asB a,asB b with
   | some x,some y=>some ([],.bool fun s=>bif f s then x s else y s)
   | _,_=>match Ap a,Ap b with
     | some (k,x),some (k',y)=>match zh k k' with
       | some _=>some ([],.int k fun s=>bif f s then x s else y s)
       | none=>none
     | _,_=>match asS a,asS b with
       | some x,some y=>some ([],.str fun s=>bif f s then x s else y s)
       | _,_=>none
 | _=>none
theorem F7 (c:Bool) (x y:AV):(match x,y with
 | .d (.val (.bool a)),.d (.val (.bool b))=>some (bJ (bif c then a else b))
 | _,_=>some (bif c then x else y))=some (bif c then x else y):=by
 split
 ·cases c<;>rfl
 ·rfl
theorem abn (s:σ) (c a b:SV σ):dK s (Yk c a b) (match c.c s with
 | .d (.val (.bool c))=>match a.c s,b.c s with
   | .d (.val (.bool a)),.d (.val (.bool b))=>some (bJ (bif c then a else b))
   | _,_=>some (bif c then a.c s else b.c s)
 | _=>none):=by
 unfold Yk;split
 ·refine dK.pure ?_;rw [SV.c];simp only;rw [F7];rfl
 ·refine dK.pure ?_;rw [SV.c];simp only;rw [F7];rfl
 ·rename_i f;rw [SV.c];simp only [bJ];rw [show (match a.c s,b.c s with
   | .d (.val (.bool a)),.d (.val (.bool b))=>some (AV.d (.val (.bool (bif f s then a else b))))
   | _,_=>some (bif f s then a.c s else b.c s))=some (bif f s then a.c s else b.c s) from F7 (f s) _ _]
  split
  ·rename_i x y hx hy;refine dK.pure ?_;rw [xq hx,xq hy,SV.c];cases f s<;>rfl
  ·split
   ·rename_i k x k' y hx hy;split
    ·rename_i hk _;obtain ⟨hk⟩:=hk;subst hk;refine dK.pure ?_;rw [kJ hx,kJ hy,SV.c];cases f s<;>rfl
    ·exact dK.none
   ·split
    ·rename_i x y hx hy;refine dK.pure ?_;rw [rQ hx,rQ hy,SV.c];cases f s<;>rfl
    ·exact dK.none
 ·exact dK.none
def zl (ρ:Operand->SV σ) (parts:Array (Nat×Operand)):List (Nat×SV σ):=parts.toList.map fun p=>(p.1,ρ p.2)
def Yl (T:Ty) (lk:Nat->Option AK) (t:Nat) (ps:List (Nat×SV σ)):QR σ :=
 match T t with
 | none=>none
 | some i=>match ps.all fun p=>JX lk p.2 with
   | false=>none
   | true=>match zeroS i.zero with
     | none=>none
     | some z=>match i.k with
       | .agg fs=>match rD T fs with
         | some pl=>match F6 (fun j=>pl[j]?) z ps with | some r=>some ([],.agg r) | none=>none
         | none=>none
       | .arr n e=>match T e with
         | some ei=>match F6 (fun j=>some (j*ei.size,ei.size)) z ps with | some r=>some ([],.agg r) | none=>none
         | none=>none
       | _=>none
def abo (k:AT) (x y:SV σ):Option (σ->Bool) :=
 match k with
 | .int _=>match Ap x,Ap y with
   | some (k,f),some (k',g)=>match zh k k' with | some _=>some fun s=>decide (f s=g s) | none=>none
   | _,_=>none
 | .bool=>match asB x,asB y with | some f,some g=>some fun s=>f s==g s | _,_=>none
 | .str=>match asS x,asS y with | some f,some g=>some fun s=>decide (f s=g s) | _,_=>none
 | _=>none
theorem ae6 (s:σ) {k:AT} {x y:SV σ} {f:σ->Bool} (h:abo k x y=some f):vZ k (x.c s) (y.c s)=some (f s):=by
 unfold abo at h;split at h
 ·split at h
  ·rename_i k f k' g hx hy;split at h
   ·rename_i hk _;obtain ⟨hk⟩:=hk;subst hk;cases h;rw [kJ hx,kJ hy];simp only [dG,vZ,if_true,Option.some.injEq];rw [Bool.eq_iff_iff];simp
   ·cases h
  ·cases h
 ·split at h
  ·rename_i f g hx hy;cases h;rw [xq hx,xq hy];rfl
  ·cases h
 ·split at h
  ·rename_i f g hx hy;cases h;rw [rQ hx,rQ hy];simp only [vZ,Sr,Option.some.injEq];rw [Bool.eq_iff_iff];simp
  ·cases h
 ·cases h
def akV (a b:σ->Bool):σ->Bool:=fun s=>a s&&b s
def eqS (T:Ty) (q:Nat->Bool):Nat->Nat->List (SV σ)->List (SV σ)->Option (σ->Bool)
 | 0,_,_,_=>none
 | n+1,t,xs,ys=>match T t with
   | none=>none
   | some i=>match i.k with
     | .agg fs=>match q t with
       | true=>eqFS T (eqS T q n) fs xs ys
       | false=>none
     | _=>none
where eqFS (T:Ty) (sub:Nat->List (SV σ)->List (SV σ)->Option (σ->Bool)):List (Nat×Nat)->List (SV σ)->List (SV σ)->Option (σ->Bool)
 | [],_,_=>some fun _=>true
 | (o,ft)::fs,xs,ys=>match T ft with
   | none=>none
   | some fi=>match (match fi.k.leaf with
      | true=>(match xs[o]?,ys[o]? with
        | some x,some y=>abo fi.k x y
        | _,_=>none)
      | false=>sub ft ((xs.drop o).take fi.size) ((ys.drop o).take fi.size)) with
     | none=>none
     | some a=>match fs with
       | []=>some a
       | _=>match eqFS T sub fs xs ys with
         | some b=>some (akV a b)
         | none=>none
theorem Ym (s:σ) (T:Ty) (q:Nat->Bool) {sub:Nat->List (SV σ)->List (SV σ)->Option (σ->Bool)} {subA:Nat->List AV->List AV->Option Bool}
 (hs:∀t xs ys f,sub t xs ys=some f->subA t (cL s xs) (cL s ys)=some (f s)):∀(fs:List (Nat×Nat)) (xs ys:List (SV σ)) (f:σ->Bool),eqS.eqFS T sub fs xs ys=some f->zG.eqF T q subA fs (cL s xs) (cL s ys)=some (f s)
 | [],xs,ys,f,h=>by rw [eqS.eqFS] at h;cases h;rw [zG.eqF]
 | (o,ft)::fs,xs,ys,f,h=>by
   rw [eqS.eqFS] at h;rw [zG.eqF];cases hT:T ft with
   | none=>rw [hT] at h;cases h
   | some fi =>
     rw [hT] at h;simp only at h ⊢;have key:∀a,(match fi.k.leaf with
      | true=>(match xs[o]?,ys[o]? with
        | some x,some y=>abo fi.k x y
        | _,_=>none)
      | false=>sub ft ((xs.drop o).take fi.size) ((ys.drop o).take fi.size))=some a->(if fi.k.leaf then (match (cL s xs)[o]?,(cL s ys)[o]? with
      | some x,some y=>vZ fi.k x y
      | _,_=>none) else subA ft (((cL s xs).drop o).take fi.size) (((cL s ys).drop o).take fi.size))=some (a s):=fun a ha=>by
      split at ha
      ·rename_i hl;rw [if_pos hl];split at ha
       ·rename_i x y hx hy;rw [JW,JW,hx,hy];exact ae6 s ha
       ·cases ha
      ·rename_i hl;rw [if_neg (by rw [hl];simp),<-EG,<-EH,<-EG,<-EH];exact hs _ _ _ _ ha
     split at h
     ·cases h
     ·rename_i a ha;refine (congrArg (fun z:Option Bool=>match z,zG.eqF T q subA fs (cL s xs) (cL s ys) with | some a,some b=>some (a&&b) | _,_=>none) (key a ha)).trans ?_;split at h
      ·cases h;rw [zG.eqF];simp
      ·rename_i fs' hne;split at h
       ·rename_i b hb;cases h;rw [Ym s T q hs _ xs ys b hb];rfl
       ·cases h
theorem Yn (s:σ) (T:Ty) (q:Nat->Bool):∀(n t:Nat) (xs ys:List (SV σ)) (f:σ->Bool),eqS T q n t xs ys=some f->zG T q n t (cL s xs) (cL s ys)=some (f s)
 | 0,t,xs,ys,f,h=>by rw [eqS] at h;cases h
 | n+1,t,xs,ys,f,h=>by
   rw [eqS] at h;rw [zG];cases hT:T t with
   | none=>rw [hT] at h;cases h
   | some i =>
     rw [hT] at h;simp only at h ⊢;split at h
     ·rename_i fs hk;split at h
      ·rename_i hq;rw [hk];simp only;rw [if_pos hq];exact Ym s T q (fun t xs ys f h=>Yn s T q n t xs ys f h) fs xs ys f h
      ·cases h
     ·cases h
def Yo (lk:Nat->Option AK):SV σ->Option Bool
 | .val (.pointer none)=>some true
 | .ptr r _=>match fV lk r with | true=>some false | false=>none
 | .ptx r _ _ _=>match fV lk r with | true=>some false | false=>none
 | .dpt _ _ _ _=>some false
 | _=>none
theorem abp (s:σ) (lk:Nat->Option AK) {v:SV σ} {b:Bool} (h:Yo lk v=some b):Dl lk (v.c s)=some b:=by
 unfold Yo at h;split at h
 ·cases h;rw [SV.c];rfl
 ·split at h
  ·rename_i hl;cases h;rw [SV.c];simp only [Dl,hl,if_true]
  ·cases h
 ·split at h
  ·rename_i hl;cases h;rw [SV.c];simp only [Dl,hl,if_true]
  ·cases h
 ·cases h;rw [SV.c];rfl
 ·cases h
def ae7 (T:Ty) (q:Nat->Bool) (lk:Nat->Option AK) (op:BinOp) (t:Nat) (x y:SV σ):QR σ :=
 match asB x,asB y with
 | some f,some g=>match T t with
   | some i=>match i.k,op with
     | .bool,.eql=>some ([],.bool fun s=>f s==g s)
     | .bool,.neq=>some ([],.bool fun s=>f s != g s)
     | _,_=>none
   | none=>none
 | _,_=>match y with
   | .val (.slice none 0 0)=>match x,T t with
     | .val (.slice none 0 0),some i=>match i.k,op with
       | .slice _,.eql=>some ([],.val (.bool true))
       | .slice _,.neq=>some ([],.val (.bool false))
       | _,_=>none
     | .sl r _ _ n _,some i=>match lk r,i.k,op with
       | some (.data _),.slice _,.eql=>some ([fun s=>decide (n s≠0)],.val (.bool false))
       | some (.data _),.slice _,.neq=>some ([fun s=>decide (n s≠0)],.val (.bool true))
       | _,_,_=>none
     | _,_=>none
   | .val (.pointer none)=>match Yo lk x,T t with
     | some b,some i=>match i.k,op with
       | .ptr _,.eql=>some ([],.val (.bool b))
       | .ptr _,.neq=>some ([],.val (.bool (!b)))
       | _,_=>none
     | _,_=>none
   | _=>match x,y with
     | .val a,.val b=>match sF op a b with
       | some v=>some ([],.val v)
       | none=>none
     | _,_=>match Ap x,Ap y with
       | some (k,f),some (k',g)=>arS op k k' f g
       | _,_=>match asS x,asS y with
         | some f,some g=>stS op f g
         | _,_=>match x,y,op with
           | .agg xs,.agg ys,.eql=>match eqS T q 20 t xs ys with | some f=>some ([],.bool f) | none=>none
           | .agg xs,.agg ys,.neq=>match eqS T q 20 t xs ys with | some f=>some ([],.bool fun s => !f s) | none=>none
           | _,_,_=>none
def BP (T:Ty) (q:Nat->Bool) (lk:Nat->Option AK) (op:BinOp) (t:Nat) (x y:AV):Option AV :=
 match x,y with
  | .d (.val (.bool a)),.d (.val (.bool b))=>match T t with
    | some i=>match i.k,op with
      | .bool,.eql=>some (bJ (a==b))
      | .bool,.neq=>some (bJ (a != b))
      | _,_=>none
    | none=>none
  | v,.d (.val (.slice none 0 0))=>match Ht lk v,T t with
    | some b,some i=>match i.k,op with
      | .slice _,.eql=>some (Xt b)
      | .slice _,.neq=>some (Xt (b.map fun b => !b))
      | _,_=>none
    | _,_=>none
  | v,.d (.val (.pointer none))=>match Dl lk v,T t with
    | some b,some i=>match i.k,op with
      | .ptr _,.eql=>some (bJ b)
      | .ptr _,.neq=>some (bJ (!b))
      | _,_=>none
    | _,_=>none
  | .d (.val a),.d (.val b)=>(sF op a b).map fun v => .d (.val v)
  | .agg xs,.agg ys=>match op with
    | .eql=>(zG T q 20 t xs ys).map bJ
    | .neq=>(zG T q 20 t xs ys).map fun b=>bJ !b
    | _=>none
  | _,_=>none
theorem Vj (T:Ty) (q:Nat->Bool) (lk:Nat->Option AK) {op:BinOp} (t:Nat) {a b v:Value} (h:sF op a b=some v):BP T q lk op t (.d (.val a)) (.d (.val b))=some (.d (.val v)):=by
 have h0:=h;unfold sF at h;split at h
 all_goals first
  | (cases h;done)
  | (simp only [BP];rw [h0];rfl)
theorem Yp (T:Ty) (q:Nat->Bool) (lk:Nat->Option AK) (op:BinOp) (t:Nat) (k k':IntKind) (a b:Int):BP T q lk op t (dG k a) (dG k' b)=(sF op (.int k a) (.int k' b)).map fun v => .d (.val v):=rfl
theorem Yq (T:Ty) (q:Nat->Bool) (lk:Nat->Option AK) (op:BinOp) (t:Nat) (a b:ByteArray):BP T q lk op t (.d (.val (.string a))) (.d (.val (.string b)))=(sF op (.string a) (.string b)).map fun v => .d (.val v):=rfl
theorem ae8 (s:σ) (T:Ty) (q:Nat->Bool) (lk:Nat->Option AK) (op:BinOp) (t:Nat) (x y:SV σ):dK s (ae7 T q lk op t x y) (BP T q lk op t (x.c s) (y.c s)):=by
 unfold ae7;split
 ·rename_i f g hf hg;rw [xq hf,xq hg];cases hT:T t with
  | none=>exact dK.none
  | some i =>
    simp only;split
    ·rename_i hk;refine dK.pure ?_;simp only [bJ,BP,hT,hk];rw [SV.c];rfl
    ·rename_i hk;refine dK.pure ?_;simp only [bJ,BP,hT,hk];rw [SV.c];rfl
    ·exact dK.none
 ·split
  ·split
   ·rename_i i hT _;split
    ·rename_i hk;refine dK.pure ?_;rw [SV.c];simp only [BP,Ht,hT,hk,Xt];rw [SV.c];rfl
    ·rename_i hk;refine dK.pure ?_;rw [SV.c];simp only [BP,Ht,hT,hk,Xt];rw [SV.c];rfl
    ·exact dK.none
   ·rename_i r z o n cap i hT _;split
    ·rename_i hr hk;intro cs v h1 h2;cases h1;have hn:n s≠0:=of_decide_eq_true h2.1;simp only [SV.c,BP,Ht,hr,hT,hk,if_neg hn,Xt,bJ]
    ·rename_i hr hk;intro cs v h1 h2;cases h1;have hn:n s≠0:=of_decide_eq_true h2.1;simp only [SV.c,BP,Ht,hr,hT,hk,if_neg hn,Xt,bJ,Option.map_some,Bool.not_false]
    ·exact dK.none
   ·exact dK.none
  ·split
   ·rename_i b i hn hT;have hn':=abp s lk hn;split
    ·rename_i hk;refine dK.pure ?_;rw [show (SV.val (Value.pointer none):SV σ).c s = .d (.val (.pointer none)) from by rw [SV.c]];simp only [BP,hn',hT,hk];rw [SV.c];rfl
    ·rename_i hk;refine dK.pure ?_;rw [show (SV.val (Value.pointer none):SV σ).c s = .d (.val (.pointer none)) from by rw [SV.c]];simp only [BP,hn',hT,hk];rw [SV.c];rfl
    ·exact dK.none
   ·exact dK.none
  ·split
   ·rename_i a b _ _ _;split
    ·rename_i v hv;refine dK.pure ?_;rw [SV.c,SV.c,SV.c];exact Vj T q lk t hv
    ·exact dK.none
   ·split
    ·rename_i k f k' g hf hg;intro cs v h1 h2;rw [kJ hf,kJ hg,Yp];exact ai0 s h1 h2
    ·split
     ·rename_i f g hf hg;intro cs v h1 h2;rw [rQ hf,rQ hg,Yq];exact ai1 s h1 h2
     ·split
      ·split
       ·rename_i f hf;refine dK.pure ?_;simp only [SV.c];show Option.map _ (zG T q 20 t (cL s _) (cL s _))=_;rw [Yn s T q _ _ _ _ _ hf];rfl
       ·exact dK.none
      ·split
       ·rename_i f hf;refine dK.pure ?_;simp only [SV.c];show Option.map _ (zG T q 20 t (cL s _) (cL s _))=_;rw [Yn s T q _ _ _ _ _ hf];rfl
       ·exact dK.none
      ·exact dK.none
def unS (op:UnOp) (x:SV σ):QR σ :=
 match x with
 | .val a=>match unV op a with | some v=>some ([],.val v) | none=>none
 | .int k f=>match op with
   | .neg=>some ([],.int k fun s=>k.wrap (0-f s))
   | .xor=>some ([],.int k fun s=>k.wrap (BitVec.ofInt k.bits (if k.signed then -1 else k.max) ^^^ BitVec.ofInt k.bits (f s)).toNat)
   | _=>none
 | .bool f=>match op with
   | .not=>some ([],.bool fun s => !f s)
   | _=>none
 | _=>none
def unA (op:UnOp) (x:AV):Option AV :=
 match x with
  | .d (.val a)=>(unV op a).map fun v => .d (.val v)
  | _=>none
theorem ai2 (s:σ) (op:UnOp) (x:SV σ):dK s (unS op x) (unA op (x.c s)):=by
 unfold unS;split
 ·split
  ·rename_i v hv;refine dK.pure ?_;rw [SV.c,SV.c];simp only [unA,hv,Option.map_some]
  ·exact dK.none
 ·split
  ·refine dK.pure ?_;rw [SV.c,SV.c];rfl
  ·refine dK.pure ?_;rw [SV.c,SV.c];rfl
  ·exact dK.none
 ·split
  ·refine dK.pure ?_;rw [SV.c,SV.c];rfl
  ·exact dK.none
 ·exact dK.none
def Yr (T:Ty) (src dst:Nat) (x:SV σ):QR σ :=
 match T src,T dst with
 | some si,some di=>match si.k,di.k,x with
   | .int _,.int k,.val (.int _ n)=>some ([],.val (.int k (k.wrap n)))
   | .int _,.int k,.int k0 f=>match zh k0 k with
     | some _=>some ([],.int k fun s=>k.wrap (f s))
     | none=>some ([],.int k fun s=>k.wrap (f s))
   | .str,.str,.val (.string b)=>some ([],.val (.string b))
   | .str,.str,.str f=>some ([],.str f)
   | _,_,_=>none
 | _,_=>none
def adI (T:Ty) (src dst:Nat) (x:AV):Option AV :=
 match T src,T dst with
  | some si,some di=>match si.k,di.k,x with
    | .int _,.int k,.d (.val (.int _ n))=>some (dG k (k.wrap n))
    | .str,.str,.d (.val (.string s))=>some (.d (.val (.string s)))
    | _,_,_=>none
  | _,_=>none
theorem abq (s:σ) (T:Ty) (src dst:Nat) (x:SV σ):dK s (Yr T src dst x) (adI T src dst (x.c s)):=by
 unfold Yr adI;split
 ·split
  ·rename_i h1 h2;refine dK.pure ?_;rw [SV.c,SV.c];simp only [h1,h2];rfl
  ·rename_i h1 h2;split
   ·refine dK.pure ?_;rw [SV.c,SV.c];simp only [h1,h2,dG]
   ·refine dK.pure ?_;rw [SV.c,SV.c];simp only [h1,h2,dG]
  ·rename_i h1 h2;refine dK.pure ?_;rw [SV.c];simp only [h1,h2]
  ·rename_i h1 h2;refine dK.pure ?_;rw [SV.c];simp only [h1,h2]
  ·exact dK.none
 ·exact dK.none
def abr (v:SV σ) (n:Nat):Option Nat :=
 match v with
 | .val (.int _ i)=>match decide (0<=i/\i<(n:Int)) with | true=>some i.toNat | false=>none
 | _=>none
theorem Yt (s:σ) {v:SV σ} {n j:Nat} (h:abr v n=some j):idx? (v.c s) n=some j:=by
 unfold abr at h;split at h
 ·split at h
  ·rename_i hd;cases h;rw [SV.c];simp only [idx?,if_pos (of_decide_eq_true hd)]
  ·cases h
 ·cases h
theorem yA (s:σ) {v:SV σ} {k:IntKind} {f:σ->Int} (hv:Ap v=some (k,f)) {n:Nat} (h:decide (0<=f s/\f s<(n:Int))=true):idx? (v.c s) n=some (f s).toNat:=by
 rw [kJ hv];simp only [idx?,dG,if_pos (of_decide_eq_true h)]
theorem I7 (s:σ) {v:SV σ} {k:IntKind} {f:σ->Int} (hv:Ap v=some (k,f)) {n:Nat} (h:decide (0<=f s/\f s<=(n:Int))=true):idxLe? (v.c s) n=some (f s).toNat:=by
 rw [kJ hv];simp only [idxLe?,dG,if_pos (of_decide_eq_true h)]
end
section
variable {σ:Type}
def Yu (lk:Nat->Option AK) (v:SV σ):QR σ :=
 match v with
 | .ptr r off=>match fV lk r with | true=>some ([],.ptr r off) | false=>none
 | .ptx r z j off=>match fV lk r with | true=>some ([],.ptx r z j off) | false=>none
 | .dpt t f j off=>some ([],.dpt t f j off)
 | .clo f cs=>some ([],.clo f cs)
 | .val v=>match invV v with | true=>some ([],.val v) | false=>none
 | _=>none
theorem abt (s:σ) (lk:Nat->Option AK) (v:SV σ):dK s (Yu lk v) (match v.c s with
 | .ptr r off=>if fV lk r then some (.ptr r off) else none
 | .dptr cells off=>some (.dptr cells off)
 | .clo f caps=>some (.clo f caps)
 | .d (.val v)=>if invV v=true then some (.d (.val v)) else none
 | _=>none):=by
 unfold Yu;split
 ·split
  ·rename_i h;refine dK.pure ?_;rw [SV.c];simp only [h,if_true]
  ·exact dK.none
 ·split
  ·rename_i h;refine dK.pure ?_;rw [SV.c];simp only [h,if_true]
  ·exact dK.none
 ·refine dK.pure ?_;rw [SV.c]
 ·refine dK.pure ?_;rw [SV.c]
 ·split
  ·rename_i h;refine dK.pure ?_;rw [SV.c];simp only [h,if_true]
  ·exact dK.none
 ·exact dK.none
def faS (T:Ty) (lk:Nat->Option AK) (t j:Nat) (v:SV σ):QR σ :=
 match T t with
 | some i=>match i.k with
   | .agg fs=>match fs[j]? with
     | some (fo,ft)=>match T ft with
       | some fi=>match decide (fi.size=0) with
         | true=>none
         | false=>match v with
           | .ptr r off=>match fV lk r with | true=>some ([],.ptr r (off+fo)) | false=>none
           | .ptx r z j off=>match fV lk r with | true=>some ([],.ptx r z j (off+fo)) | false=>none
           | .dpt t f j off=>some ([],.dpt t f j (off+fo))
           | _=>none
       | none=>none
     | none=>none
   | _=>none
 | none=>none
theorem ai3 (s:σ) (T:Ty) (lk:Nat->Option AK) (t j:Nat) (v:SV σ):dK s (faS T lk t j v) (match T t with
 | some i=>match i.k with
   | .agg fs=>match fs[j]? with
     | some (fo,ft)=>match T ft with
       | some fi=>if fi.size=0 then none else match v.c s with
         | .ptr r off=>if fV lk r then some (.ptr r (off+fo)) else none
         | .dptr cells off=>some (.dptr cells (off+fo))
         | _=>none
       | none=>none
     | none=>none
   | _=>none
 | none=>none):=by
 unfold faS;cases hT:T t with
 | none=>exact dK.none
 | some i =>
   simp only;split
   ·rename_i fs hk;cases hj:fs[j]? with
    | none=>exact dK.none
    | some p =>
      obtain ⟨fo,ft⟩:=p;simp only;cases hF:T ft with
      | none=>exact dK.none
      | some fi =>
        simp only;split
        ·exact dK.none
        ·rename_i hd;have hd:=of_decide_eq_false hd;rw [if_neg hd];split
         ·split
          ·rename_i h;refine dK.pure ?_;rw [SV.c];simp only [h,if_true];rw [SV.c]
          ·exact dK.none
         ·split
          ·rename_i h;refine dK.pure ?_;rw [SV.c];simp only [h,if_true];rw [SV.c,Nat.add_assoc]
          ·exact dK.none
         ·refine dK.pure ?_;rw [SV.c];simp only;rw [SV.c,Nat.add_assoc]
         ·exact dK.none
   ·exact dK.none
def fdS (T:Ty) (t j:Nat) (v:SV σ):QR σ :=
 match T t with
 | some i=>match i.k with
   | .agg fs=>match fs[j]? with
     | some (fo,ft)=>match T ft with
       | some fi=>match v with
         | .agg cs=>match Aq fi cs fo with | some x=>some ([],x) | none=>none
         | _=>none
       | none=>none
     | none=>none
   | _=>none
 | none=>none
theorem ai4 (s:σ) (T:Ty) (t j:Nat) (v:SV σ):dK s (fdS T t j v) (match T t with
 | some i=>match i.k with
   | .agg fs=>match fs[j]? with
     | some (fo,ft)=>match T ft with
       | some fi=>match v.c s with
         | .agg cs=>fQ fi cs fo
         | _=>none
       | none=>none
     | none=>none
   | _=>none
 | none=>none):=by
 unfold fdS;cases hT:T t with
 | none=>exact dK.none
 | some i =>
   simp only;split
   ·rename_i fs hk;cases hj:fs[j]? with
    | none=>exact dK.none
    | some p =>
      obtain ⟨fo,ft⟩:=p;simp only;cases hF:T ft with
      | none=>exact dK.none
      | some fi =>
        simp only;split
        ·split
         ·rename_i x hx;refine dK.pure ?_;rw [SV.c];exact uQ s hx
         ·exact dK.none
        ·exact dK.none
   ·exact dK.none
def iaS (T:Ty) (lk:Nat->Option AK) (t:Nat) (x ix:SV σ):QR σ :=
 match T t with
 | some i=>match i.k with
   | .arr n e=>match T e with
     | some ei=>match abr ix n with
       | some j=>match x with
         | .ptr r off=>match fV lk r with | true=>some ([],.ptr r (off+j*ei.size)) | false=>none
         | .ptx r z j' off=>match fV lk r with | true=>some ([],.ptx r z j' (off+j*ei.size)) | false=>none
         | .dpt t f j' off=>match decide (off=0/\eH t=ei.size) with
           | true=>some ([],.dpt t f (fun s=>j' s+j) 0)
           | false=>some ([],.dpt t f j' (off+j*ei.size))
         | _=>none
       | none=>match Ap ix,x with
         | some (_,f),.ptr r off=>match fV lk r with
           | true=>some ([fun s=>decide (0<=f s/\f s<(n:Int))],.ptx r ei.size (fun s=>(f s).toNat) off)
           | false=>none
         | some (_,f),.ptx r z j off=>match fV lk r&&decide (z=(z / ei.size)*ei.size) with
           | true=>some ([fun s=>decide (0<=f s/\f s<(n:Int))],.ptx r ei.size (fun s=>j s*(z / ei.size)+(f s).toNat) off)
           | false=>none
         | some (_,f),.dpt t l j' off=>match decide (off=0/\eH t=ei.size) with
           | true=>some ([fun s=>decide (0<=f s/\f s<(n:Int))],.dpt t l (fun s=>j' s+(f s).toNat) 0)
           | false=>none
         | _,_=>none
     | none=>none
   | .slice e=>match T e with
     | some ei=>match Ap ix,x with
       | some (_,f),.sl r z o n cap=>match decide (z=ei.size)&&fV lk r with
         | true=>some ([fun s=>decide (0<=f s/\f s<(n s:Int))],.ptx r z (match o with | some o=>fun s=>o s+(f s).toNat | none=>fun s=>(f s).toNat) 0)
         | false=>none
       | some (_,f),.lst t l=>match decide (eH t=ei.size/\0<eH t) with
         | true=>some ([fun s=>decide (0<=f s/\f s<((l s).length:Int))],.dpt t l (fun s=>(f s).toNat) 0)
         | false=>none
       | _,_=>none
     | none=>none
   | _=>none
 | none=>none
def iaA (T:Ty) (lk:Nat->Option AK) (t:Nat) (x ix:AV):Option AV :=
 match T t with
  | some i=>match i.k with
    | .arr n e=>match T e with
      | some ei=>match idx? ix n with
        | some j=>match x with
          | .ptr r off=>if fV lk r then some (.ptr r (off+j*ei.size)) else none
          | .dptr cells off=>some (.dptr cells (off+j*ei.size))
          | _=>none
        | none=>none
      | none=>none
    | .slice e=>match T e with
      | some ei=>match x with
        | .sl r off n cap=>match idx? ix n with
          | some j=>if fV lk r then some (.ptr r (off+j*ei.size)) else none
          | none=>none
        | .d (.dl cells n cap)=>match idx? ix n with
          | some j=>if cells.isEmpty then none else some (.dptr cells (j*ei.size))
          | none=>none
        | _=>none
      | none=>none
    | _=>none
  | none=>none
theorem ai5 (s:σ) (T:Ty) (lk:Nat->Option AK) (t:Nat) (x ix:SV σ):dK s (iaS T lk t x ix) (iaA T lk t (x.c s) (ix.c s)):=by
 unfold iaS iaA;cases hT:T t with
 | none=>exact dK.none
 | some i =>
   simp only;split
   ·rename_i n e hk;cases hE:T e with
    | none=>exact dK.none
    | some ei =>
      simp only;split
      ·rename_i j hj;rw [Yt s hj];simp only;split
       ·split
        ·rename_i h;refine dK.pure ?_;rw [SV.c];simp only [h,if_true];rw [SV.c]
        ·exact dK.none
       ·split
        ·rename_i h;refine dK.pure ?_;rw [SV.c];simp only [h,if_true];rw [SV.c,Nat.add_assoc]
        ·exact dK.none
       ·split
        ·rename_i h;simp only [decide_eq_true_eq] at h;obtain ⟨rfl,hz⟩:=h;refine dK.pure ?_;rw [SV.c];simp only;rw [SV.c,<-hz,Nat.add_mul];rfl
        ·refine dK.pure ?_;rw [SV.c];simp only;rw [SV.c,Nat.add_assoc]
       ·exact dK.none
      ·split
       ·rename_i k f r off hf;split
        ·rename_i h;intro cs v h1 h2;cases h1;rw [yA s hf h2.1,SV.c];simp only [h,if_true];rw [SV.c,Nat.add_comm]
        ·exact dK.none
       ·rename_i k f r z j off hf;split
        ·rename_i h;simp only [Bool.and_eq_true,decide_eq_true_eq] at h;obtain ⟨h,hz⟩:=h;intro cs v h1 h2;cases h1;rw [yA s hf h2.1,SV.c];simp only [h,if_true];rw [SV.c,Nat.add_mul,Nat.mul_assoc,<-hz];congr 2;omega
        ·exact dK.none
       ·rename_i k f t l j' off hf;split
        ·rename_i h;simp only [decide_eq_true_eq] at h;obtain ⟨rfl,hz⟩:=h;intro cs v h1 h2;cases h1;rw [yA s hf h2.1,SV.c];simp only;rw [SV.c,<-hz,Nat.add_mul];rfl
        ·exact dK.none
       ·exact dK.none
   ·rename_i e hk;cases hE:T e with
    | none=>exact dK.none
    | some ei =>
      simp only;split
      ·rename_i k f r z o n cap hf;split
       ·rename_i h;simp only [Bool.and_eq_true,decide_eq_true_eq] at h;obtain ⟨hz,h⟩:=h;intro cs v h1 h2;cases h1;simp only [SV.c];rw [yA s hf h2.1];simp only [h,if_true];rw [Nat.add_zero,<-hz];cases o with
        | none=>simp only [sG,Nat.zero_mul,Nat.zero_add]
        | some o=>simp only [sG,Nat.add_mul]
       ·exact dK.none
      ·rename_i k f t' l hf;split
       ·rename_i h;obtain ⟨hz,hp⟩:=of_decide_eq_true h;intro cs v h1 h2;cases h1;simp only [SV.c];rw [yA s hf h2.1];have hlt:=of_decide_eq_true h2.1;have hne:(aS t' (l s)).isEmpty=false:=by
         have hlen:=bF t' (l s);have hpos:0<(l s).length*eH t':=Nat.mul_pos (by omega) hp;cases hc:aS t' (l s) with
         | nil=>rw [hc] at hlen;simp at hlen;omega
         | cons _ _=>rfl
        simp only [hne,Bool.false_eq_true,if_false];rw [Nat.add_zero,hz]
       ·exact dK.none
      ·exact dK.none
   ·exact dK.none
def I8 (k:IntKind):List (SV σ)->Option (List (σ->Int))
 | []=>some []
 | x::l=>match Ap x,I8 k l with
   | some (k',f),some fs=>match decide (k'=k) with | true=>some (f::fs) | false=>none
   | _,_=>none
def I9 (s:σ):List (σ->Int)->List Int
 | []=>[]
 | f::l=>f s::I9 s l
theorem JY (s:σ) (k:IntKind):∀(cs:List (SV σ)) (fs:List (σ->Int)),I8 k cs=some fs->cL s cs=(I9 s fs).map (dG k)
 | [],fs,h=>by rw [I8] at h;cases h;rfl
 | x::l,fs,h=>by
   rw [I8] at h;split at h
   ·rename_i k' f fs' hx hl;split at h
    ·rename_i hk;have hk:=of_decide_eq_true hk;cases h;subst hk;rw [cL,I9,List.map_cons,JY s _ l fs' hl,kJ hx]
    ·cases h
   ·cases h
def ixD (n:Nat) (ei:TI) (cs:List (SV σ)) (ix:SV σ):QR σ :=
 match Ap ix,cs.head?.bind Ap with
 | some (_,g),some (k,_)=>match I8 k cs,decide (ei.size=1/\cs.length=n/\ei.k.isAgg=false) with
   | some fs,true=>some ([fun s=>decide (0<=g s/\g s<(n:Int))],.int k fun s=>(I9 s fs).getD (g s).toNat 0)
   | _,_=>none
 | _,_=>none
def ru (k:IntKind):List (SV σ)->List (σ->Int)
 | []=>[]
 | x::l=>match Ap x with
   | some (k',f)=>match decide (k'=k) with | true=>f::ru k l | false=>[]
   | none=>[]
theorem PW (s:σ) (k:IntKind):∀cs:List (SV σ),cL s (cs.take (ru k cs).length)=(I9 s (ru k cs)).map (dG k)
 | []=>rfl
 | x::l=>by
   rw [ru];split
   ·rename_i k' f hx;split
    ·rename_i hk;have hk:=of_decide_eq_true hk;subst hk;rw [List.length_cons,List.take_succ_cons,cL,I9,List.map_cons,PW s _ l,kJ hx]
    ·rfl
   ·rfl
def Yv:List (SV σ)->Option IntKind
 | []=>none
 | x::_=>match Ap x with
   | some (k,_)=>some k
   | none=>none
def Yw (L:List Int) (p:Nat) (new:List Int):List Int:=L.take p++new++L.drop (p+new.length)
def F8 (k:IntKind) (L:σ->List Int):Nat->Nat->List (SV σ)
 | 0,_=>[]
 | n+1,q => .int k (fun s=>(L s).getD q 0)::F8 k L n (q+1)
theorem MV (s:σ) (k:IntKind) (L:σ->List Int):∀n q,q+n=(L s).length->cL s (F8 k L n q)=((L s).drop q).map (dG k)
 | 0,q,h=>by rw [List.drop_eq_nil_of_le (by omega)];rfl
 | n+1,q,h=>by
   have hq:q<(L s).length:=by omega
   rw [F8,cL,MV s k L n (q+1) (by omega),List.drop_eq_getElem_cons hq,List.map_cons,SV.c,List.getD_eq_getElem?_getD,List.getElem?_eq_getElem hq];rfl
theorem MW (L:List Int) (p:Nat) (new:List Int) (h:p+new.length<=L.length):(Yw L p new).length=L.length:=by
 unfold Yw;rw [List.length_append,List.length_append,List.length_take,List.length_drop];omega
theorem qG (s:σ):∀fs:List (σ->Int),(I9 s fs).length=fs.length
 | []=>rfl
 | f::l=>by rw [I9,List.length_cons,List.length_cons,qG s l]
theorem ai6 (s:σ) (n:Nat) (ei:TI) (cs:List (SV σ)) (ix:SV σ):dK s (ixD n ei cs ix) (match idx? (ix.c s) n with
 | some j=>fQ ei (cL s cs) (j*ei.size)
 | none=>none):=by
 unfold ixD;split
 ·rename_i k0 g k f0 hg h0;split
  ·rename_i fs hfs hd;obtain ⟨h1,h2,h3⟩:=of_decide_eq_true hd;intro cs' v e1 e2;cases e1;rw [yA s hg e2.1];have hb:=of_decide_eq_true e2.1;have hc:=JY s k cs fs hfs;have hl:(I9 s fs).length=n:=by rw [<-h2,<-iq s cs,hc,List.length_map]
   have hj:(g s).toNat<(I9 s fs).length:=by omega
   simp only [fQ,h1,h3,Nat.mul_one,Bool.false_eq_true,if_false,hc];rw [List.getElem?_map,List.getElem?_eq_getElem hj,SV.c,List.getD_eq_getElem?_getD,List.getElem?_eq_getElem hj];rfl
  ·exact dK.none
 ·exact dK.none
def ixS (T:Ty) (t:Nat) (x ix:SV σ):QR σ :=
 match T t with
 | some i=>match i.k with
   | .arr n e=>match T e with
     | some ei=>match abr ix n,x with
       | some j,.agg cs=>match Aq ei cs (j*ei.size) with | some v=>some ([],v) | none=>none
       | none,.agg cs=>ixD n ei cs ix
       | _,_=>none
     | none=>none
   | .str=>match asS x,Ap ix with
     | some f,some (_,g)=>some ([fun s=>decide (0<=g s/\g s<((f s).length:Int))],.int .u8 fun s=>(((f s).getD (g s).toNat 0).toNat:Int))
     | _,_=>none
   | _=>none
 | none=>none
theorem ai7 (s:σ) (T:Ty) (t:Nat) (x ix:SV σ):dK s (ixS T t x ix) (match T t with
 | some i=>match i.k with
   | .arr n e=>match T e with
     | some ei=>match idx? (ix.c s) n,x.c s with
       | some j,.agg cs=>fQ ei cs (j*ei.size)
       | _,_=>none
     | none=>none
   | .str=>match x.c s,ix.c s with
     | .d (.val (.string s)),.d (.val (.int _ j))=>if 0<=j then (match s.data.toList[j.toNat]? with
       | some b=>some (dG .u8 b.toNat)
       | none=>none) else none
     | _,_=>none
   | _=>none
 | none=>none):=by
 unfold ixS;cases hT:T t with
 | none=>exact dK.none
 | some i =>
   simp only;split
   ·rename_i n e hk;cases hE:T e with
    | none=>exact dK.none
    | some ei =>
      simp only;split
      ·rename_i j cs hj;rw [Yt s hj];split
       ·rename_i v hv;refine dK.pure ?_;rw [SV.c];exact uQ s hv
       ·exact dK.none
      ·rename_i cs hj;have:=ai6 s n ei cs ix;rw [SV.c];cases hx:idx? (ix.c s) n with
       | none=>rw [hx] at this;exact this
       | some j=>rw [hx] at this;exact this
      ·exact dK.none
   ·split
    ·rename_i f k g hf hg;intro cs v h1 h2;cases h1;rw [rQ hf,kJ hg];have hd:=of_decide_eq_true h2.1;simp only [dG];rw [if_pos hd.1];have hlt:(g s).toNat<(f s).length:=by omega
     show (match (f s)[(g s).toNat]? with | some b=>some (AV.d (.val (.int .u8 b.toNat))) | none=>none)=_;rw [List.getElem?_eq_getElem hlt,SV.c];simp only [dG,List.getD_eq_getElem?_getD,List.getElem?_eq_getElem hlt,Option.getD_some]
    ·exact dK.none
   ·exact dK.none
structure Bd (σ:Type) where
 cs:List (σ->Bool)
 l:Option (σ->Nat)
 h:σ->Nat
 m:Option (σ->Nat)
def hiS (n:σ->Nat) (hi:Option (SV σ)):Option (List (σ->Bool)×(σ->Nat)) :=
 match hi with
 | none=>some ([],n)
 | some v=>match Ap v with
   | some (_,f)=>some ([fun s=>decide (0<=f s/\f s<=(n s:Int))],fun s=>(f s).toNat)
   | none=>none
def loS (n:σ->Nat) (lo:Option (SV σ)):Option (List (σ->Bool)×Option (σ->Nat)) :=
 match lo with
 | none=>some ([],none)
 | some v=>match Ap v with
   | some (_,f)=>some ([fun s=>decide (0<=f s/\f s<=(n s:Int))],some fun s=>(f s).toNat)
   | none=>none
def bdS (n:σ->Nat) (lo hi mx:Option (SV σ)):Option (Bd σ) :=
 match mx with
 | none=>match hiS n hi with
   | none=>none
   | some (c1,h)=>match loS h lo with
     | none=>none
     | some (c2,l)=>some ⟨c1++c2,l,h,none⟩
 | some mv=>match hi with
   | none=>none
   | some hv=>match hiS n (some mv) with
     | none=>none
     | some (c0,m)=>match hiS m (some hv) with
       | none=>none
       | some (c1,h)=>match loS h lo with
         | none=>none
         | some (c2,l)=>some ⟨c0++(c1++c2),l,h,some m⟩
theorem Yx (s:σ) {n:σ->Nat} {hi:Option (SV σ)} {c:List (σ->Bool)} {h:σ->Nat} (e:hiS n hi=some (c,h)) (hc:allT s c):zI (hi.map (·.c s)) (n s) (n s)=some (h s)/\h s<=n s:=by
 unfold hiS at e;split at e
 ·cases e;exact ⟨rfl,Nat.le_refl _⟩
 ·split at e
  ·rename_i hf;cases e;have:=of_decide_eq_true hc.1;exact ⟨I7 s hf hc.1,by show (_:Int).toNat<=_;omega⟩
  ·cases e
theorem adJ (s:σ) {n:σ->Nat} {lo:Option (SV σ)} {c:List (σ->Bool)} {l:Option (σ->Nat)} (e:loS n lo=some (c,l)) (hc:allT s c):zI (lo.map (·.c s)) 0 (n s)=some (sG s l)/\sG s l<=n s:=by
 unfold loS at e;split at e
 ·cases e;exact ⟨rfl,Nat.zero_le _⟩
 ·split at e
  ·rename_i hf;cases e;have:=of_decide_eq_true hc.1;exact ⟨I7 s hf hc.1,by simp only [sG];omega⟩
  ·cases e
theorem Sv (s:σ) {n:σ->Nat} {lo hi mx:Option (SV σ)} {b:Bd σ} (e:bdS n lo hi mx=some b) (hc:allT s b.cs):Hr (n s) (lo.map (·.c s)) (hi.map (·.c s)) (mx.map (·.c s))=some (sG s b.l,b.h s,cOf s b.m)/\sG s b.l<=b.h s/\b.h s<=n s:=by
 unfold bdS at e;split at e
 ·split at e
  ·cases e
  ·rename_i c1 h h1;split at e
   ·cases e
   ·rename_i c2 l h2;cases e;rw [bK] at hc;obtain ⟨g1,g2⟩:=Yx s h1 hc.1;obtain ⟨g3,g4⟩:=adJ s h2 hc.2;refine ⟨?_,g4,g2⟩;simp only [Hr,Option.map_none,g1,g3];rfl
 ·split at e
  ·cases e
  ·split at e
   ·cases e
   ·rename_i c0 m h0;split at e
    ·cases e
    ·rename_i c1 h h1;split at e
     ·cases e
     ·rename_i c2 l h2;cases e;rw [bK,bK] at hc;obtain ⟨q1,q2⟩:=Yx s h0 hc.1;obtain ⟨g1,g2⟩:=Yx s h1 hc.2.1;obtain ⟨g3,g4⟩:=adJ s h2 hc.2.2;refine ⟨?_,g4,Nat.le_trans g2 q2⟩;simp only [Option.map_some,zI] at q1 g1;simp only [Hr,Option.map_some,q1,g1,g3];rfl
def abv {α:Type} (l:Option (σ->Nat)) (h:Option (σ->Nat)) (f:σ->List α):σ->List α :=
 match l,h with
 | none,none=>f
 | none,some h=>fun s=>(f s).take (h s)
 | some l,none=>fun s=>(f s).drop (l s)
 | some l,some h=>fun s=>((f s).drop (l s)).take (h s-l s)
theorem Yy {α:Type} (s:σ) (l h:Option (σ->Nat)) (f:σ->List α) {n:Nat} (hn:n=match h with | some h=>h s | none=>(f s).length):abv l h f s=((f s).drop (sG s l)).take (n-sG s l):=by
 cases l<;>cases h<;>simp only [abv,sG,List.drop_zero,Nat.sub_zero] at * <;> subst hn<;>try rfl
 ·rw [List.take_length]
 ·rw [List.take_of_length_le];simp
end
section
variable {σ:Type}
def addN (a b:Option (σ->Nat)):Option (σ->Nat) :=
 match a,b with
 | none,b=>b
 | a,none=>a
 | some a,some b=>some fun s=>a s+b s
theorem ae9 (s:σ) (a b:Option (σ->Nat)):sG s (addN a b)=sG s a+sG s b:=by
 cases a<;>cases b<;>simp [addN,sG]
def PX (h:σ->Nat) (l:Option (σ->Nat)):σ->Nat :=
 match l with
 | none=>h
 | some l=>fun s=>h s-l s
theorem F9 (s:σ) (h:σ->Nat) (l:Option (σ->Nat)):PX h l s=h s-sG s l:=by
 cases l<;>simp [PX,sG]
def Vk (n:σ->Nat) (cap:Cp σ) (h:Option (σ->Nat)) (m l:Option (σ->Nat)):Cp σ :=
 match m with
 | none=>match cap with
   | .unk => .unk
   | .full=>match h with | none => .full | some _ => .fn (PX n l)
   | .fn c => .fn (PX c l)
 | some m => .fn (PX m l)
theorem afa (s:σ) (n:σ->Nat) (cap:Cp σ) (h m l:Option (σ->Nat)) (hh:σ->Nat) (hn:hh s=match h with | some h=>h s | none=>n s):oW s (PX hh l s) (Vk n cap h m l)=capOf (oW s (n s) cap) (cOf s m) (sG s l):=by
 cases m with
 | none=>cases cap with
   | unk=>rfl
   | full=>cases h with
     | none=>simp only [Vk,cOf,oW,capOf,Option.map_some,F9,hn]
     | some h=>simp only [Vk,cOf,oW,capOf,Option.map_some,F9]
   | fn c=>simp only [Vk,cOf,oW,capOf,Option.map_some,F9]
 | some m=>simp only [Vk,cOf,oW,capOf,F9]
def hiO (hi:Option (SV σ)) (h:σ->Nat):Option (σ->Nat):=match hi with | none=>none | some _=>some h
def afb (T:Ty) (lk:Nat->Option AK) (t:Nat) (x:SV σ) (lo hi mx:Option (SV σ)):QR σ :=
 match T t with
 | some i=>match i.k with
   | .slice e=>match T e with
     | some ei=>match x with
       | .sl r z o n cap=>match lk r with
         | some (.data z')=>match decide (z'=ei.size/\z=ei.size),bdS n lo hi mx with
           | true,some b=>some (b.cs,.sl r z (addN o b.l) (PX b.h b.l) (Vk n cap (hiO hi b.h) b.m b.l))
           | _,_=>none
         | _=>none
       | .val (.slice none 0 0)=>match bdS (fun _=>0) lo hi mx with
         | some b=>some (b.cs,.val (.slice none 0 0))
         | none=>none
       | .lst u f=>match decide (eH u=ei.size),bdS (fun s=>(f s).length) lo hi mx with
         | true,some b=>some (b.cs,.lst u (abv b.l (hiO hi b.h) f))
         | _,_=>none
       | _=>none
     | none=>none
   | .str=>match mx with
     | some _=>none
     | none=>match asS x with
       | some f=>match bdS (fun s=>(f s).length) lo hi none with
         | some b=>some (b.cs,.str (abv b.l (hiO hi b.h) f))
         | none=>none
       | none=>none
   | _=>none
 | none=>none
def ai8 (T:Ty) (lk:Nat->Option AK) (t:Nat) (x:AV) (lo hi mx:Option AV):Option AV :=
 match T t with
  | some i=>match i.k with
    | .slice e=>match T e with
      | some ei=>match x with
        | .sl r off n cap=>match lk r with
          | some (.data s)=>if s=ei.size then jU ei.size (.sl r off n cap) lo hi mx else none
          | _=>none
        | .d (.val (.slice none 0 0))=>jU ei.size (.d (.val (.slice none 0 0))) lo hi mx
        | .d (.dl cells n cap)=>jU ei.size (.d (.dl cells n cap)) lo hi mx
        | _=>none
      | none=>none
    | .str=>match x with
      | .d (.val (.string s))=>jU 0 (.d (.val (.string s))) lo hi mx
      | _=>none
    | _=>none
  | none=>none
theorem Yz (s:σ) {n:σ->Nat} {lo hi mx:Option (SV σ)} {b:Bd σ} (e:bdS n lo hi mx=some b):b.h s=match hiO hi b.h with | some h=>h s | none=>n s:=by
 cases hi with
 | some _=>rfl
 | none =>
   cases mx with
   | none =>
     simp only [bdS,hiS] at e;split at e
     ·cases e
     ·cases e;rfl
   | some _=>simp only [bdS] at e;cases e
theorem afc (l:List UInt8) (a b:Nat):(⟨l.toArray⟩:ByteArray).extract a b=⟨((l.drop a).take (b-a)).toArray⟩:=by
 apply ByteArray.ext;rw [ByteArray.data_extract];simp
theorem afd (s:σ) (T:Ty) (lk:Nat->Option AK) (t:Nat) (x:SV σ) (lo hi mx:Option (SV σ)):dK s (afb T lk t x lo hi mx) (ai8 T lk t (x.c s) (lo.map (·.c s)) (hi.map (·.c s)) (mx.map (·.c s))):=by
 unfold afb ai8;cases hT:T t with
 | none=>exact dK.none
 | some i =>
   simp only;split
   ·rename_i e hk;cases hE:T e with
    | none=>exact dK.none
    | some ei =>
      simp only;split
      ·rename_i r z o n cap;split
       ·rename_i z' hl;split
        ·rename_i b hd hb;obtain ⟨h1,h2⟩:=of_decide_eq_true hd;intro cs v e1 e2;cases e1;obtain ⟨g1,g2,g3⟩:=Sv s hb e2;simp only [SV.c,hl];rw [if_pos h1];simp only [jU,g1];rw [ae9,afa s n cap _ _ _ _ (Yz s hb),F9,Nat.add_mul,h2]
        ·exact dK.none
       ·exact dK.none
      ·split
       ·rename_i b hb;intro cs v e1 e2;cases e1;obtain ⟨g1,g2,g3⟩:=Sv s hb e2;simp only [SV.c,jU,g1]
       ·exact dK.none
      ·rename_i u f;split
       ·rename_i b hd hb;have h1:=of_decide_eq_true hd;intro cs v e1 e2;cases e1;obtain ⟨g1,g2,g3⟩:=Sv s hb e2;have hn:=Yz s hb;have hcap:capD none (cOf s b.m) (sG s b.l)=none:=by cases b.m<;>rfl
        simp only [SV.c,jU,g1,hcap];have hcut:=Yy s b.l (hiO hi b.h) f (n:=b.h s) hn;rw [hcut,<-h1,iO,fJ];simp only [List.length_take,List.length_drop];rw [Nat.min_eq_left (by omega)]
       ·exact dK.none
      ·exact dK.none
   ·split
    ·exact dK.none
    ·split
     ·rename_i f hf;split
      ·rename_i b hb;intro cs v e1 e2;cases e1;obtain ⟨g1,g2,g3⟩:=Sv s hb e2;have hn:=Yz s hb;simp only [Option.map_none] at g1;have hcut:=Yy s b.l (hiO hi b.h) f (n:=b.h s) hn;rw [rQ hf];have hsz:(⟨(f s).toArray⟩:ByteArray).size=(f s).length:=by show (f s).toArray.size=_;simp
       simp only [SV.c,jU,Option.map_none,hsz,g1,afc,hcut]
      ·exact dK.none
     ·exact dK.none
   ·exact dK.none
def Ja (f:Int->Int->Int) (a:σ->Int):List (SV σ)->Option (σ->Int)
 | []=>some a
 | v::l=>match Ap v with
   | some (_,b)=>Ja f (fun s=>f (a s) (b s)) l
   | none=>none
theorem JZ (s:σ) (f:Int->Int->Int) (k:IntKind):∀(l:List (SV σ)) (a r:σ->Int),Ja f a l=some r->wo f k (a s) (cL s l)=some (r s)
 | [],a,r,h=>by rw [Ja] at h;cases h;rw [cL,wo]
 | v::l,a,r,h=>by
   rw [Ja] at h;split at h
   ·rename_i k' b hb;rw [cL,kJ hb,dG,wo];exact JZ s f k l _ r h
   ·cases h
def biS (T:Ty) (b:Builtin) (ts:List Nat) (args:List (SV σ)):QR σ :=
 match b,args with
 | .len,[x]=>match ts with
   | t::_=>match T t with
     | some i=>match i.k,x with
       | .str,.val (.string b)=>some ([],.val (.int .i64 b.size))
       | .str,.str f=>some ([],.int .i64 fun s=>((f s).length:Int))
       | .slice _,.lst u f=>some ([],.int .i64 fun s=>((f s).length:Int))
       | .slice _,.val (.slice none 0 0)=>some ([],.val (.int .i64 0))
       | .slice _,.sl _ _ _ n _=>some ([],.int .i64 fun s=>(n s:Int))
       | _,_=>none
     | none=>none
   | []=>none
 | .min,[.val (.int k a),.val (.int _ b)]=>some ([],.val (.int k (eU a b)))
 | .min,x::l=>match Ap x with
   | some (k,a)=>match Ja eU a l with | some r=>some ([],.int k r) | none=>none
   | none=>none
 | .max,[.val (.int k a),.val (.int _ b)]=>some ([],.val (.int k (bf a b)))
 | .max,x::l=>match Ap x with
   | some (k,a)=>match Ja bf a l with | some r=>some ([],.int k r) | none=>none
   | none=>none
 | _,_=>none
theorem ai9 (s:σ) (T:Ty) (b:Builtin) (ts:List Nat) (args:List (SV σ)):dK s (biS T b ts args) (Um T b ts (cL s args)):=by
 unfold biS Um;split
 ·split
  ·rename_i t _;cases hT:T t with
   | none=>exact dK.none
   | some i =>
     simp only;split
     ·rename_i h1;refine dK.pure ?_;simp only [cL,SV.c,h1,hT,dG]
     ·rename_i h1;refine dK.pure ?_;simp only [cL,SV.c,h1,hT,dG];show some (AV.d (.val (.int .i64 (((_:List UInt8).toArray.size:Nat):Int))))=_;simp
     ·rename_i h1;refine dK.pure ?_;simp only [cL,SV.c,h1,hT,dG]
     ·rename_i h1;refine dK.pure ?_;simp only [cL,SV.c,h1,hT,dG]
     ·rename_i h1;refine dK.pure ?_;simp only [cL,SV.c,h1,hT,dG]
     ·exact dK.none
  ·exact dK.none
 ·refine dK.pure ?_;simp only [cL,SV.c];rfl
 ·split
  ·rename_i k a ha;split
   ·rename_i r hr;refine dK.pure ?_;simp only [cL,kJ ha,dG];rw [JZ s eU k _ _ _ hr,SV.c];rfl
   ·exact dK.none
  ·exact dK.none
 ·refine dK.pure ?_;simp only [cL,SV.c];rfl
 ·split
  ·rename_i k a ha;split
   ·rename_i r hr;refine dK.pure ?_;simp only [cL,kJ ha,dG];rw [JZ s bf k _ _ _ hr,SV.c];rfl
   ·exact dK.none
  ·exact dK.none
 ·exact dK.none
def J3 (lk:Nat->Option AK):SV σ->Bool
 | .sl r _ _ _ _=>fV lk r
 | _=>true
theorem Vm (s:σ) (lk:Nat->Option AK) (v:SV σ) (h:J3 lk v=true):wu lk (v.c s)=true:=by
 cases v<;>simp_all [J3,SV.c,wu,dG,bJ]
def ifS (T:Ty) (t:Nat) (v:SV σ):QR σ:=match T t,v with
 | some i,.agg []=>(match i.k with | .agg _=>some ([],.val (.iface t (.agg #[]))) | _=>none)
 | _,_=>none
theorem aja (s:σ) (T:Ty) (t:Nat) (v:SV σ):dK s (ifS T t v) (ifA T t (v.c s)):=by
 unfold ifS ifA;split
 ·rename_i i hi;split
  ·rename_i fs hk;refine dK.pure ?_;simp only [hi,SV.c,cL,hk]
  ·exact dK.none
 ·exact dK.none
def afe (n:String) (l:List (SV σ)):QR σ:=match l with
 | [.val (.iface t v)]=>some ([],.val (.func (.method n) #[.iface t v] #[]))
 | _=>none
theorem aff (s:σ) (n:String) (l:List (SV σ)):dK s (afe n l) (Xz n (cL s l)):=by
 unfold afe Xz;split
 ·refine dK.pure ?_;simp only [cL,SV.c]
 ·exact dK.none
def sQ (T:Ty) (q:Nat->Bool) (lk:Nat->Option AK) (o:Oper) (ρ:Operand->SV σ):QR σ :=
 match o.op with
 | .move x=>some ([],ρ x)
 | .assign x=>some ([],ρ x)
 | .pick c a b=>Yk (ρ c) (ρ a) (ρ b)
 | .build t parts=>Yl T lk t (zl ρ parts)
 | .nilCheck x=>Yu lk (ρ x)
 | .binOp op t x y _=>ae7 T q lk op t (ρ x) (ρ y)
 | .unOp op _ x=>unS op (ρ x)
 | .convert src dst x=>Yr T src dst (ρ x)
 | .makeFunc fn first caps=>match fn with
   | .func f=>match Nat.blt f 1048576 with
     | true=>some ([],.clo (f+1048576*first.size) (first.toList.map ρ++caps.toList.map ρ))
     | false=>none
   | .method n=>match caps.toList.isEmpty with | true=>afe n (first.toList.map ρ) | false=>none
   | _=>none
 | .makeInterface t x=>ifS T t (ρ x)
 | .fieldAddr t x j=>faS T lk t j (ρ x)
 | .field t x j=>fdS T t j (ρ x)
 | .indexAddr t x ix=>iaS T lk t (ρ x) (ρ ix)
 | .index t x ix=>ixS T t (ρ x) (ρ ix)
 | .slice t x lo hi mx=>afb T lk t (ρ x) (lo.map ρ) (hi.map ρ) (mx.map ρ)
 | .extract x j=>match ρ x with
   | .tup vs=>match vs[j]? with | some v=>some ([],v) | none=>none
   | _=>none
 | .call c=>match c.callee with
   | .builtin b=>match c.args.toList.all fun x=>J3 lk (ρ x) with
     | true=>biS T b c.argTypes.toList (c.args.toList.map ρ)
     | false=>none
   | _=>none
 | _=>none
theorem BQ (s:σ) (ρ:Operand->SV σ) (x:Option Operand):x.map (fun x=>(ρ x).c s)=(x.map ρ).map (·.c s):=by cases x<;>rfl
theorem kK (s:σ) (ρ:Operand->SV σ) (l:List Operand):l.map (fun x=>(ρ x).c s)=cL s (l.map ρ):=by rw [gy,List.map_map];rfl
theorem ak4 (s:σ) (T:Ty) (q:Nat->Bool) (lk:Nat->Option AK) (o:Oper) (ρ:Operand->SV σ):dK s (sQ T q lk o ρ) (zJ T q lk o fun x=>(ρ x).c s):=by
 unfold sQ zJ;cases ho:o.op with
 | move x=>exact dK.pure rfl
 | assign x=>exact dK.pure rfl
 | pick c a b=>exact abn s _ _ _
 | build t parts =>
   simp only;unfold Yl;cases hT:T t with
   | none=>exact dK.none
   | some i =>
     simp only;split
     ·exact dK.none
     ·rename_i hall;have hall':(parts.toList.all fun p=>sS lk ((ρ p.2).c s))=true:=by
       rw [List.all_eq_true] at hall ⊢;intro p hp;rw [BO];exact hall (p.1,ρ p.2) (List.mem_map.2 ⟨p,hp,rfl⟩)
      rw [if_neg (by rw [hall'];simp)];split
      ·exact dK.none
      ·rename_i z hz;have hz':=Ar s hz;have hp':(parts.toList.map fun p=>(p.1,(ρ p.2).c s))=(zl ρ parts).map fun p=>(p.1,p.2.c s):=by unfold zl;rw [List.map_map];rfl
       split
       ·rename_i fs hk;split
        ·rename_i pl hpl;split
         ·rename_i r hr;refine dK.pure ?_;simp only [hk,hpl];rw [SV.c,<-hz',hp',EI s _ _ _ _ hr,Option.map_some]
         ·exact dK.none
        ·exact dK.none
       ·rename_i n e hk;split
        ·rename_i ei hei;split
         ·rename_i r hr;refine dK.pure ?_;simp only [hk,hei];rw [SV.c,<-hz',hp',EI s _ _ _ _ hr,Option.map_some]
         ·exact dK.none
        ·exact dK.none
       ·exact dK.none
 | nilCheck x=>exact abt s lk _
 | binOp op t x y ty=>exact ae8 s T q lk _ _ _ _
 | unOp op t x=>exact ai2 s _ _
 | convert a b x=>exact abq s T _ _ _
 | makeFunc fn first caps =>
   simp only;cases fn with
   | func f =>
     simp only;split
     ·rename_i hb;refine dK.pure ?_;rw [if_pos hb,SV.c,mJ,kK,kK]
     ·exact dK.none
   | method n =>
     simp only;split
     ·rename_i hc;rw [if_pos hc,kK];exact aff s n _
     ·exact dK.none
   | _=>exact dK.none
 | makeInterface t x=>exact aja s T t _
 | fieldAddr t x j=>exact ai3 s T lk _ _ _
 | field t x j=>exact ai4 s T _ _ _
 | indexAddr t x ix=>exact ai5 s T lk _ _ _
 | index t x ix=>exact ai7 s T _ _ _
 | slice t x lo hi mx =>
   have:=afd s T lk t (ρ x) (lo.map ρ) (hi.map ρ) (mx.map ρ);rw [<-BQ,<-BQ,<-BQ] at this;exact this
 | extract x j =>
   simp only;split
   ·rename_i vs hv;split
    ·rename_i v hj;refine dK.pure ?_;rw [hv,SV.c];show (cL s vs)[j]? = _;rw [JW,hj,Option.map_some]
    ·exact dK.none
   ·exact dK.none
 | call c =>
   simp only;cases hc:c.callee with
   | builtin b =>
     simp only;split
     ·rename_i hall;have hall':c.args.toList.all (fun x=>wu lk ((ρ x).c s))=true:=List.all_eq_true.2 fun x hx=>Vm s lk _ (List.all_eq_true.1 hall x hx);rw [if_pos hall',kK];exact ai9 s T _ _ _
     ·exact dK.none
   | _=>exact dK.none
 | _=>exact dK.none
end
inductive HR:Type->Type 1 where
 | ok {σ:Type} (v:SV σ) (us:List (Nat×SO σ)):HR σ
 | req {σ:Type} (c:List (σ->Bool)) (r:HR σ):HR σ
 | bnd {σ α:Type} (f:σ->Option α) (r:HR (σ×α)):HR σ
 | fail {σ:Type} (msg:String):HR σ
 | iff {σ:Type} (c:σ->Bool) (t e:HR σ):HR σ
def HR.Ok:{σ:Type}->HR σ->σ->Option (AV×List (Nat×AO))->Prop
 | _,.ok v us,s,x=>x=some (v.c s,cO s us)
 | _,.req c r,s,x=>allT s c->r.Ok s x
 | _,.bnd f r,s,x=>∀a,f s=some a->r.Ok (s,a) x
 | _,.fail _,_,_=>True
 | _,.iff c t e,s,x=>bif c s then t.Ok s x else e.Ok s x
theorem Au:∀(t:U) (x:t.T),(gq t x).map sU=gq t x
 | .int k,n=>rfl
 | .bool,b=>rfl
 | .str,s=>rfl
 | .list t,l=>rfl
 | .pair a b,p=>by
   show (gq a p.1++gq b p.2).map sU=gq a p.1++gq b p.2;rw [List.map_append,Au a,Au b]
 | .unit,_=>rfl
theorem uS (rd:Nat->Option AO):∀l:List DV,fG rd (l.map .d)=some (l.map sU,[])
 | []=>rfl
 | x::l=>by rw [List.map_cons,fG,zK,uS rd l];rfl
theorem uT {rd:Nat->Option AO}:∀ {a b:List AV} {xs ys:List DV} {us vs:List (Nat×AO)},fG rd a=some (xs,us)->fG rd b=some (ys,vs)->fG rd (a++b)=some (xs++ys,us++vs)
 | [],b,xs,ys,us,vs,h,k=>by rw [fG] at h;cases h;exact k
 | x::a,b,xs,ys,us,vs,h,k=>by
   rw [fG] at h;rw [List.cons_append,fG];cases hx:zK rd x with
   | none=>rw [hx] at h;cases h
   | some y =>
     rw [hx] at h;cases ha:fG rd a with
     | none=>rw [ha] at h;cases h
     | some r =>
       rw [ha] at h;cases h;rw [uT ha k];simp
theorem xu {rd:Nat->Option AO}:∀ {a b:List AV} {xs:List DV} {us:List (Nat×AO)},fG rd (a++b)=some (xs,us)->∃x1 x2 u1 u2,fG rd a=some (x1,u1)/\fG rd b=some (x2,u2)/\xs=x1++x2/\us=u1++u2
 | [],b,xs,us,h=>⟨[],xs,[],us,rfl,h,rfl,rfl⟩
 | x::a,b,xs,us,h=>by
   rw [List.cons_append,fG] at h;cases hx:zK rd x with
   | none=>rw [hx] at h;cases h
   | some y =>
     rw [hx] at h;cases ha:fG rd (a++b) with
     | none=>rw [ha] at h;cases h
     | some r =>
       rw [ha] at h;cases h;obtain ⟨x1,x2,u1,u2,h1,h2,h3,h4⟩:=xu ha;refine ⟨y.1::x1,x2,y.2++u1,u2,by rw [fG,hx,h1],h2,by rw [h3];rfl,by rw [h4,List.append_assoc]⟩
theorem Gf:∀(n:Nat) (cs:List DV) (o:Nat),o+n<=cs.length->takeD cs o n=some (((cs.drop o).take n).map .d)
 | 0,cs,o,h=>by simp [takeD]
 | n+1,cs,o,h=>by
   rw [takeD,List.getElem?_eq_getElem (by omega),Gf n cs (o+1) (by omega),List.drop_eq_getElem_cons (by omega:o<cs.length)];rfl
section
variable {σ:Type}
def fP {a b:U} (h:a=b) (f:σ->List a.T):σ->List b.T:=h▸f
def rowP {α:Type} (o:Option (σ->Nat)) (n:σ->Nat) (f:σ->List α):σ->List α :=
 match o with
 | none=>fun s=>(f s).take (n s)
 | some o=>fun s=>((f s).drop (o s)).take (n s)
theorem rV {α:Type} (s:σ) (o:Option (σ->Nat)) (n:σ->Nat) (f:σ->List α):rowP o n f s=((f s).drop (sG s o)).take (n s):=by
 cases o<;>simp [rowP,sG]
def MX {α:Type} (o:Option (σ->Nat)) (n:σ->Nat) (f:σ->List α):σ->Bool :=
 match o with
 | none=>fun s=>decide (n s<=(f s).length)
 | some o=>fun s=>decide (o s+n s<=(f s).length)
theorem uU {α:Type} {s:σ} {o:Option (σ->Nat)} {n:σ->Nat} {f:σ->List α} (h:MX o n f s=true):sG s o+n s<=(f s).length:=by
 cases o<;>simp only [MX,decide_eq_true_eq,sG] at * <;> omega
structure PK (σ:Type) (t:Type) where
 f:σ->t
 cs:List (σ->Bool)
 fz:List (Nat×SO σ)
def pkL (rd:Nat->Option (SO σ)) (t:U) (v:SV σ):Option (PK σ (List t.T)) :=
 match v with
 | .lst u f=>match Ox u t with | some ⟨h⟩=>some ⟨fP h f,[],[]⟩ | none=>none
 | .val (.slice none 0 0)=>some ⟨fun _=>[],[],[]⟩
 | .sl r z o n _=>match rd r with
   | some (.data e u f wr)=>match Ox u t,decide (z=eH u) with
     | some ⟨h⟩,true=>some ⟨fP h (rowP o n f),[MX o n f],[(r,.data e u f false)]⟩
     | _,_=>none
   | _=>none
 | _=>none
def Ep (rd:Nat->Option (SO σ)):(t:U)->List (SV σ)->Option (PK σ t.T)
 | .int k,cells=>match cells with
   | [v]=>match Ap v with
     | some (k',f)=>match zh k k' with | some _=>some ⟨f,[],[]⟩ | none=>none
     | none=>none
   | _=>none
 | .bool,cells=>match cells with
   | [v]=>match asB v with | some f=>some ⟨f,[],[]⟩ | none=>none
   | _=>none
 | .str,cells=>match cells with
   | [v]=>match asS v with | some f=>some ⟨f,[],[]⟩ | none=>none
   | _=>none
 | .list t,cells=>match cells with
   | [v]=>pkL rd t v
   | _=>none
 | .pair a b,cells=>match Ep rd a (cells.take (eH a)),Ep rd b (cells.drop (eH a)) with
   | some x,some y=>some ⟨fun s=>(x.f s,y.f s),x.cs++y.cs,x.fz++y.fz⟩
   | _,_=>none
 | .unit,cells=>match cells with
   | []=>some ⟨fun _=>(),[],[]⟩
   | _=>none
def gu (s:σ) (rd:Nat->Option (SO σ)):Nat->Option AO:=fun r=>(rd r).map (·.c s)
theorem ajb (s:σ) {rd:Nat->Option (SO σ)} {t:U} {v:SV σ} {p:PK σ (List t.T)} (h:pkL rd t v=some p) (hc:allT s p.cs):zK (gu s rd) (v.c s)=some (.dl (aS t (p.f s)) (p.f s).length none,cO s p.fz):=by
 unfold pkL at h;split at h
 ·split at h
  ·rename_i hk _;subst hk;cases h;rw [SV.c];rfl
  ·cases h
 ·cases h;rw [SV.c];rfl
 ·rename_i r z o n cap;split at h
  ·rename_i e u f wr hr;split at h
   ·rename_i hk _ hz;subst hk;cases h;have hz:=of_decide_eq_true hz;have h1:=uU hc.1;rw [SV.c];simp only [zK,gu,hr,Option.map_some,SO.c,fP,cO];rw [rV,hz,iO,fJ,List.length_take,List.length_drop,Nat.min_eq_left (by omega)]
   ·cases h
  ·cases h
 ·cases h
theorem MZ (s:σ) {rd:Nat->Option (SO σ)}:∀(t:U) (cells:List (SV σ)) (p:PK σ t.T),Ep rd t cells=some p->allT s p.cs->fG (gu s rd) (cL s cells)=some (gq t (p.f s),cO s p.fz)
 | .int k,cells,p,h,hc=>by
   simp only [Ep] at h;split at h
   ·split at h
    ·rename_i hf;split at h
     ·rename_i hk _;obtain ⟨hk⟩:=hk;subst hk;cases h;simp only [cL,kJ hf,dG,fG,zK];rfl
     ·cases h
    ·cases h
   ·cases h
 | .bool,cells,p,h,hc=>by
   simp only [Ep] at h;split at h
   ·split at h
    ·rename_i hf;cases h;simp only [cL,xq hf,bJ,fG,zK];rfl
    ·cases h
   ·cases h
 | .str,cells,p,h,hc=>by
   simp only [Ep] at h;split at h
   ·split at h
    ·rename_i hf;cases h;simp only [cL,rQ hf,fG,zK];rfl
    ·cases h
   ·cases h
 | .list t,cells,p,h,hc=>by
   simp only [Ep] at h;split at h
   ·have:=ajb s h hc;simp only [cL,fG,this,List.append_nil];rfl
   ·cases h
 | .pair a b,cells,p,h,hc=>by
   simp only [Ep] at h;split at h
   ·rename_i x y hx hy;cases h;rw [bK] at hc;have h1:=MZ s a _ x hx hc.1;have h2:=MZ s b _ y hy hc.2;have:=uT h1 h2;rw [<-mJ,List.take_append_drop] at this;rw [this,cZ];rfl
   ·cases h
 | .unit,cells,p,h,hc=>by
   simp only [Ep] at h;split at h
   ·cases h;rfl
   ·cases h
def pkN (rd:Nat->Option (SO σ)) (t:U):Nat->List (SV σ)->Option (PK σ (List t.T))
 | 0,cells=>match cells with | []=>some ⟨fun _=>[],[],[]⟩ | _=>none
 | n+1,cells=>match Ep rd t (cells.take (eH t)),pkN rd t n (cells.drop (eH t)) with
   | some x,some y=>some ⟨fun s=>x.f s::y.f s,x.cs++y.cs,x.fz++y.fz⟩
   | _,_=>none
theorem adK (s:σ) {rd:Nat->Option (SO σ)} {t:U}:∀(n:Nat) (cells:List (SV σ)) (p:PK σ (List t.T)),pkN rd t n cells=some p->allT s p.cs->fG (gu s rd) (cL s cells)=some (aS t (p.f s),cO s p.fz)/\(p.f s).length=n
 | 0,cells,p,h,hc=>by
   simp only [pkN] at h;split at h
   ·cases h;exact ⟨rfl,rfl⟩
   ·cases h
 | n+1,cells,p,h,hc=>by
   simp only [pkN] at h;split at h
   ·rename_i x y hx hy;cases h;rw [bK] at hc;have h1:=MZ s t _ x hx hc.1;obtain ⟨h2,h3⟩:=adK s n _ y hy hc.2;have:=uT h1 h2;rw [<-mJ,List.take_append_drop] at this;exact ⟨by rw [this,cZ];rfl,by rw [List.length_cons,h3]⟩
   ·cases h
def Gg (T:Ty):Nat->Nat->Option U
 | 0,_=>none
 | n+1,t=>match T t with
   | none=>none
   | some i=>match i.k with
     | .int k=>some (.int k)
     | .bool=>some .bool
     | .str=>some .str
     | .slice e=>match Gg T n e with | some u=>some (.list u) | none=>none
     | .agg fs=>pairs (fs.map fun f=>Gg T n f.2)
     | .arr m e=>pairs (List.replicate m (Gg T n e))
     | _=>none
where pairs:List (Option U)->Option U
 | []=>some .unit
 | [u]=>u
 | u::l=>match u,pairs l with | some u,some v=>some (.pair u v) | _,_=>none
def Gh (i:TI) (u:U) (off:Nat):Option (SV (σ×u.T)):=Aq i (Xw u fun p=>p.2) off
theorem BR {σ:Type} (s:σ) {i:TI} {u:U} {l:List u.T} {j off:Nat} {x:u.T} (hx:l[j]? = some x) {v:SV (σ×u.T)} (h:Gh i u off=some v) (hs:off<eH u\/i.k.isAgg=true):wz i (aS u l) (j*eH u+off)=some (v.c (s,x)):=by
 unfold Gh at h;have hp:=uQ (s,x) h;rw [Sl] at hp;unfold fQ at hp;unfold wz;split
 ·rename_i hk;rw [if_pos hk] at hp;split at hp
  ·rename_i hle;rw [List.length_map,dB] at hle;rw [<-Option.some.inj hp];have hlen:(j+1)*eH u<=(aS u l).length:=by
    rw [bF];exact Nat.mul_le_mul_right _ (List.getElem?_eq_some_iff.1 hx).1
   rw [Nat.succ_mul] at hlen;rw [Gf _ _ _ (by omega),Option.map_some];congr 2;rw [<-List.drop_drop,FZ u hx,List.drop_append_of_le_length (by rw [dB];omega),List.take_append_of_le_length (by rw [List.length_drop,dB];omega),List.map_take,List.map_drop]
  ·cases hp
 ·rename_i hk;rw [if_neg hk] at hp;rw [Vh u hx (by rcases hs with h | h;exact h;exact (hk h).elim)];rw [List.getElem?_map] at hp;exact hp
theorem Jb {σ:Type} (s:σ) {i:TI} {u:U} {l:List u.T} {j off:Nat} {x:u.T} (hx:l[j]? = some x) {v:SV (σ×u.T)} (h:Gh i u off=some v) (hs:off<eH u\/i.k.isAgg=true):fQ i ((aS u l).map .d) (j*eH u+off)=some (v.c (s,x)):=by
 have h1:=BR s hx h hs;unfold wz at h1;unfold fQ;split
 ·rename_i hk;rw [if_pos hk] at h1;have hlen:(j+1)*eH u<=(aS u l).length:=by
   rw [bF];exact Nat.mul_le_mul_right _ (List.getElem?_eq_some_iff.1 hx).1
  rw [Nat.succ_mul] at hlen;have hle:off+i.size<=eH u:=by
   have hp:=uQ (s,x) (show Aq i (Xw u fun p=>p.2) off=some v from h);unfold fQ at hp;rw [if_pos hk] at hp;split at hp
   ·rename_i hle;rw [iq,zk] at hle;exact hle
   ·cases hp
  rw [if_pos (by rw [List.length_map];omega)];rw [Gf _ _ _ (by omega)] at h1;simp only [Option.map_some] at h1;rw [<-h1,List.map_take,List.map_drop]
 ·rename_i hk;rw [if_neg hk] at h1;rw [List.getElem?_map];exact h1
def Na (i:TI) (u:U) (off:Nat):Bool:=decide (off<eH u)||i.k.isAgg
theorem abw (s:σ) (k:IntKind) (cs:List (SV σ)) (off j:Nat) (a:Int) (h:(I9 s (ru k (cs.drop off)))[j]? = some a):(cL s cs)[j+off]? = some (dG k a):=by
 have h1:=PW s k (cs.drop off);have h2:=qG s (ru k (cs.drop off));have hj:=(List.getElem?_eq_some_iff.1 h).1;generalize hF:ru k (cs.drop off)=F at *
 have e:((cs.drop off).take F.length)[j]? = cs[j+off]? := by
  rw [List.getElem?_take,if_pos (by omega),List.getElem?_drop,Nat.add_comm]
 have e2:(cL s ((cs.drop off).take F.length))[j]? = (cL s cs)[j+off]? := by
  rw [gy,gy,List.getElem?_map,List.getElem?_map,e]
 rw [<-e2,h1,List.getElem?_map,h];rfl
def YA (i:TI) (cs:List (SV σ)) (z:Nat) (j:σ->Nat) (off:Nat):Nat->HR σ
 | 0 => .fail "load: index"
 | n+1=>match Aq i cs (n*z+off) with
   | some v => .iff (fun s=>decide (j s=n)) (.ok v []) (YA i cs z j off n)
   | none=>YA i cs z j off n
theorem PY (s:σ) (i:TI) (cs:List (SV σ)) (z:Nat) (j:σ->Nat) (off:Nat):∀n,(YA i cs z j off n).Ok s ((fQ i (cL s cs) (j s*z+off)).map fun v=>(v,[]))
 | 0=>trivial
 | n+1=>by
   rw [YA];split
   ·rename_i v hv;rw [HR.Ok];cases h:decide (j s=n) with
    | true =>
      rw [of_decide_eq_true h,uQ s hv];rfl
    | false=>exact PY s i cs z j off n
   ·exact PY s i cs z j off n
def YB (T:Ty) (rd:Nat->Option (SO σ)) (t:Nat) (x:SV σ):HR σ :=
 match T t with
 | some i=>match x with
   | .ptr r off=>match rd r with
     | some (.mix cs)=>match Aq i cs off with | some v => .ok v [] | none => .fail "load: part"
     | some (.arr u f)=>match decide (eH u=1),i.k.isAgg with
       | true,false=>match (Gh i u 0:Option (SV (σ×u.T))) with
         | some v => .bnd (fun s=>(f s)[off]?) (.ok v [])
         | none => .fail "load: element"
       | _,_ => .fail "load: array"
     | _ => .fail "load: object"
   | .ptx r z j off=>match rd r with
     | some (.data e u f wr)=>match decide (z=eH u)&&Na i u off,(Gh i u off:Option (SV (σ×u.T))) with
       | true,some v => .bnd (fun s=>(f s)[j s]?) (.ok v [])
       | _,_ => .fail "load: element"
     | some (.arr u f)=>match decide (z=eH u)&&Na i u off,(Gh i u off:Option (SV (σ×u.T))) with
       | true,some v => .bnd (fun s=>(f s)[j s]?) (.ok v [])
       | _,_ => .fail "load: element"
     | some (.mix cs)=>match Yv (cs.drop off),decide (i.size=1/\z=1/\i.k.isAgg=false) with
       | some k,true => .bnd (fun s=>(I9 s (ru k (cs.drop off)))[j s]?) (.ok (.int k fun p=>p.2) [])
       | _,_=>match decide (0<z/\cs.length<=40) with
         | true=>YA i cs z j off ((cs.length-off+z-1) / z)
         | false => .fail "load: object"
     | _ => .fail "load: object"
   | .dpt u f j off=>match Na i u off&&decide (0<eH u),(Gh i u off:Option (SV (σ×u.T))) with
     | true,some v => .bnd (fun s=>(f s)[j s]?) (.ok v [])
     | _,_ => .fail "load: element"
   | _ => .fail "load"
 | none => .fail "load: type"
def YC (T:Ty) (rd:Nat->Option AO) (t:Nat) (x:AV):Option (AV×List (Nat×AO)) :=
 match T t with
  | some i=>match x with
    | .ptr r off=>match rd r with
      | some (.data _ _ cs _)=>wz i cs off |>.map fun v=>(v,[])
      | some (.mix cs)=>fQ i cs off |>.map fun v=>(v,[])
      | _=>none
    | .dptr cells off=>if cells.isEmpty then none else wz i cells off |>.map fun v=>(v,[])
    | _=>none
  | none=>none
theorem abx {u:U} {l:List u.T} {j:Nat} {x:u.T} (h:l[j]? = some x) (hu:0<eH u):(aS u l).isEmpty=false:=by
 have h1:=(List.getElem?_eq_some_iff.1 h).1;have hlen:=bF u l;have hpos:0<l.length*eH u:=Nat.mul_pos (by omega) hu;cases hc:aS u l with
 | nil=>rw [hc] at hlen;simp at hlen;omega
 | cons _ _=>rfl
theorem Gi {i:TI} {u:U} {off:Nat} (h:Na i u off=true):off<eH u\/i.k.isAgg=true:=by
 unfold Na at h;simpa using h
theorem aby (s:σ) (T:Ty) (rd:Nat->Option (SO σ)) (t:Nat) (x:SV σ):(YB T rd t x).Ok s (YC T (gu s rd) t (x.c s)):=by
 unfold YB YC;cases hT:T t with
 | none=>trivial
 | some i =>
   simp only;split
   ·rename_i r off;split
    ·rename_i cs hr;split
     ·rename_i v hv;simp only [HR.Ok,SV.c,gu,hr,Option.map_some,SO.c,uQ s hv,cO]
     ·trivial
    ·rename_i u f hr;split
     ·rename_i hz hk;split
      ·rename_i v hv;intro a ha;have hz:=of_decide_eq_true hz;have:=Jb s ha hv (.inl (by omega));rw [hz,Nat.mul_one,Nat.add_zero] at this;simp only [HR.Ok,SV.c,gu,hr,Option.map_some,SO.c,this,cO]
      ·trivial
     ·trivial
    ·trivial
   ·rename_i r z j off;split
    ·rename_i e u f wr hr;split
     ·rename_i v hz hv;simp only [Bool.and_eq_true,decide_eq_true_eq] at hz;intro a ha;have:=BR s ha hv (Gi hz.2);simp only [HR.Ok,SV.c,gu,hr,Option.map_some,SO.c,hz.1,this,cO]
     ·trivial
    ·rename_i u f hr;split
     ·rename_i v hz hv;simp only [Bool.and_eq_true,decide_eq_true_eq] at hz;intro a ha;have:=Jb s ha hv (Gi hz.2);simp only [HR.Ok,SV.c,gu,hr,Option.map_some,SO.c,hz.1,this,cO]
     ·trivial
    ·rename_i cs hr;split
     ·rename_i k hk hd;obtain ⟨h1,h2,h3⟩:=of_decide_eq_true hd;intro a ha;have:=abw s k cs off (j s) a ha;simp only [HR.Ok,SV.c,gu,hr,Option.map_some,SO.c,cO];rw [h2,Nat.mul_one];unfold fQ;rw [if_neg (by rw [h3];decide),this,Option.map_some]
     ·split
      ·have:=PY s i cs z j off ((cs.length-off+z-1) / z);simp only [SV.c,gu,hr,Option.map_some,SO.c];exact this
      ·trivial
    ·trivial
   ·rename_i u f j off;split
    ·rename_i v hz hv;simp only [Bool.and_eq_true,decide_eq_true_eq] at hz;intro a ha;have:=BR s ha hv (Gi hz.1);simp only [HR.Ok,SV.c,abx ha hz.2,this,Option.map_some,cO];rfl
    ·trivial
   ·trivial
end
theorem Aw {α:Type}:∀(A L:List α) (o:Nat) (new:List α),splice (A++L) (A.length+o) new=A++splice L o new
 | [],L,o,new=>by simp
 | a::A,L,o,new=>by
   rw [List.cons_append,List.length_cons,show A.length+1+o=(A.length+o)+1 from by omega,splice,Aw A L o new];rfl
theorem DU {α:Type}:∀(X B:List α) (o:Nat) (new:List α),o+new.length<=X.length->splice (X++B) o new=splice X o new++B
 | X,B,0,new,h=>by rw [splice,splice,List.drop_append_of_le_length (by omega),List.append_assoc]
 | [],B,o+1,new,h=>by simp at h
 | x::X,B,o+1,new,h=>by
   rw [List.cons_append,splice,splice,DU X B o new (by simp at h;omega)];rfl
theorem ql {α:Type}:∀(l:List α) (o:Nat) (new:List α),o<=l.length->splice l o new=l.take o++new++l.drop (o+new.length)
 | l,0,new,h=>by rw [splice];simp
 | [],o+1,new,h=>by simp at h
 | x::l,o+1,new,h=>by
   rw [splice,ql l o new (by simp at h;omega),List.take_succ_cons,show o+1+new.length=(o+new.length)+1 from by omega,List.drop_succ_cons];rfl
theorem Nb {u:U} {l:List u.T} {j:Nat} {x:u.T} (h:l[j]? = some x) (x':u.T) {off:Nat} {ns:List DV} (hn:off+ns.length<=eH u) (he:gq u x'=splice (gq u x) off ns):splice (aS u l) (j*eH u+off) ns=aS u (l.set j x'):=by
 obtain ⟨hj,hx⟩:=List.getElem?_eq_some_iff.1 h;have h1:aS u l=aS u (l.take j)++(gq u x++aS u (l.drop (j+1))):=by
  rw [<-FZ u h,iO,<-jm,List.take_append_drop]
 have h2:(aS u (l.take j)).length=j*eH u:=by rw [bF,List.length_take,Nat.min_eq_left (by omega)]
 rw [h1,<-h2,Aw,DU _ _ _ _ (by rw [dB];exact hn),<-he,List.set_eq_take_append_cons_drop,if_pos hj,jm];rfl
section
variable {σ:Type}
def yB (lk:Nat->Option AK):SV σ->Bool
 | .agg _=>false
 | x=>JX lk x
theorem Vo (s:σ) {rd:Nat->Option AO} {v:SV σ} (h:yB (kinds rd) v=true):mQ rd (v.c s)=true:=by
 have h2:JX (kinds rd) v=true:=by
  unfold yB at h;split at h
  ·cases h
  ·exact h
 rw [<-BO _ s] at h2;cases v with
 | agg cs=>simp [yB] at h
 | _=>simp only [SV.c,dG,bJ] at h2 ⊢;simpa [mQ] using h2
theorem BU (s:σ) {rd:Nat->Option AO}:∀ {l:List (SV σ)},l.all (yB (kinds rd))=true->(cL s l).all (mQ rd)=true
 | [],_=>rfl
 | v::l,h=>by
   rw [List.all_cons,Bool.and_eq_true] at h;rw [cL,List.all_cons,Vo s h.1,BU s h.2];rfl
def Ib (rd:Nat->Option (SO σ)):Nat->Option AK:=fun r=>(rd r).map SO.kind
theorem nY (s:σ) (rd:Nat->Option (SO σ)):kinds (gu s rd)=Ib rd:=by
 funext r;unfold kinds gu Ib;cases rd r with
 | none=>rfl
 | some o=>simp only [Option.map_some,ae3]
def YD {σ':Type} (g:σ'->σ) (rd:Nat->Option (SO σ)):Nat->Option (SO σ'):=fun r=>match rd r with | some o=>some (o.map g) | none=>none
theorem abz {σ':Type} (g:σ'->σ) (s:σ') (rd:Nat->Option (SO σ)):gu s (YD g rd)=gu (g s) rd:=by
 funext r;unfold gu YD;cases rd r with
 | none=>rfl
 | some o=>simp only [Option.map_some,JR]
def pk1 (u:U) (v:SV σ):Option (σ->u.T) :=
 match u with
 | .int k=>match Ap v with
   | some (k',f)=>match zh k k' with
     | some _=>some f
     | none=>none
   | none=>none
 | .bool=>asB v
 | _=>none
theorem adM (s:σ) {u:U} {v:SV σ} {f:σ->u.T} (h:pk1 u v=some f):[v.c s]=(gq u (f s)).map .d/\eH u=1:=by
 unfold pk1 at h;split at h
 ·split at h
  ·rename_i hf;split at h
   ·rename_i hk _;obtain ⟨hk⟩:=hk;subst hk;cases h;exact ⟨by rw [kJ hf];rfl,rfl⟩
   ·cases h
  ·cases h
 ·exact ⟨by rw [xq h];rfl,rfl⟩
 ·cases h
def PZ (r:Nat) (fz:List (Nat×SO σ)):Bool:=fz.all fun p=>p.1 != r
theorem Nc (s:σ) (r:Nat):∀ {fz:List (Nat×SO σ)},PZ r fz=true->(cO s fz).all (fun u=>u.1 != r)=true
 | [],_=>rfl
 | (k,o)::l,h=>by
   unfold PZ at h;rw [List.all_cons,Bool.and_eq_true] at h;rw [cO,List.all_cons,h.1,Nc s r h.2];rfl
def P5 (T:Ty) (rd:Nat->Option (SO σ)) (t:Nat) (x y:SV σ):HR σ :=
 match T t with
 | some i=>match decide (y.cells.length=i.size)&&JX (Ib rd) y with
   | false => .fail "store: value"
   | true=>match x with
     | .ptr r off=>match rd r with
       | some (.mix cs)=>match decide (off+i.size<=cs.length)&&y.cells.all (yB (Ib rd)) with
         | true => .ok .undef [(r,.mix (splice cs off y.cells))]
         | false => .fail "store: cells"
       | some (.arr u f)=>match decide (i.size=1),pk1 u y with
         | true,some g => .req [fun s=>decide (off<(f s).length)] (.ok .undef [(r,.arr u fun s=>(f s).set off (g s))])
         | _,_ => .fail "store: scalar"
       | _ => .fail "store: object"
     | .ptx r z j off=>match rd r with
       | some (.data e u f true)=>match decide (z=eH u/\off+i.size<=eH u),Ep (YD Prod.fst rd) u (splice (Xw u fun p:σ×u.T=>p.2) off (nX Prod.fst y.cells)) with
         | true,some p=>match PZ r p.fz with
           | true => .bnd (fun s=>(f s)[j s]?) (.req p.cs (.ok .undef ((r,.data e u (fun q=>(f q.1).set (j q.1) (p.f q)) true)::p.fz)))
           | false => .fail "store: of itself"
         | _,_ => .fail "store: element"
       | some (.arr u f)=>match decide (i.size=1/\z=1/\off=0),pk1 u y with
         | true,some g => .req [fun s=>decide (j s<(f s).length)] (.ok .undef [(r,.arr u fun s=>(f s).set (j s) (g s))])
         | _,_ => .fail "store: scalar"
       | some (.mix cs)=>match Yv (cs.drop off) with
         | some k=>match I8 k y.cells,y.cells.all (yB (Ib rd)) with
           | some gs,true => .req [fun s=>decide (j s*z+gs.length<=(ru k (cs.drop off)).length)] (.bnd (fun s=>some (Yw (I9 s (ru k (cs.drop off))) (j s*z) (I9 s gs))) (.ok .undef [(r,.mix (nX Prod.fst (cs.take off)++F8 k (fun p=>p.2) (ru k (cs.drop off)).length 0++nX Prod.fst (cs.drop (off+(ru k (cs.drop off)).length))))]))
           | _,_ => .fail "store: integers"
         | none => .fail "store: object"
       | _ => .fail "store: object"
     | _ => .fail "store"
 | none => .fail "store: type"
def Sz (T:Ty) (rd:Nat->Option AO) (t:Nat) (x y:AV):Option (AV×List (Nat×AO)) :=
 match T t with
  | some i=>match x with
    | .ptr r off=>let new:=y.cellsOf
      match rd r with
      | some (.mix cs)=>if new.length=i.size/\off+i.size<=cs.length/\sS (kinds rd) y/\new.all (mQ rd) then some (.undef,[(r,.mix (splice cs off new))]) else none
      | some (.data e s cs true)=>match fG rd new with
        | some (ns,us)=>if new.length=i.size/\off+i.size<=cs.length/\sS (kinds rd) y/\us.all (fun u=>u.1 != r) then some (.undef,(r,.data e s (splice cs off ns) true)::us) else none
        | none=>none
      | _=>none
    | _=>none
  | none=>none
theorem SA {u:U} {l:List u.T} {j:Nat} (h1:eH u=1) (hj:j<l.length) (x:u.T) (c:AV) (hc:[c]=(gq u x).map .d):splice ((aS u l).map .d) j [c]=(aS u (l.set j x)).map AV.d:=by
 have hne:(aS u l).length=l.length:=by rw [bF,h1,Nat.mul_one]
 have he:gq u x=splice (gq u l[j]) 0 (gq u x):=by
  rw [splice,List.drop_eq_nil_of_le (by rw [dB,dB];exact Nat.le_refl _),List.append_nil]
 have:=Nb (List.getElem?_eq_getElem hj) x (off:=0) (ns:=gq u x) (by rw [dB];omega) he;rw [h1,Nat.mul_one,Nat.add_zero] at this;rw [<-this,qF,hc]
theorem SB (k:IntKind):∀cs:List (SV σ),(ru k cs).length<=cs.length
 | []=>Nat.le_refl _
 | x::l=>by
   rw [ru];split
   ·split
    ·rw [List.length_cons,List.length_cons];have:=SB k l;omega
    ·exact Nat.zero_le _
   ·exact Nat.zero_le _
theorem abA (s:σ) (k:IntKind) (cs:List (SV σ)) (off p:Nat) (gs:List (σ->Int)) (hk:Yv (cs.drop off)=some k) (h:p+gs.length<=(ru k (cs.drop off)).length) (a:List Int) (ha:a=Yw (I9 s (ru k (cs.drop off))) p (I9 s gs)) :
 off+(ru k (cs.drop off)).length<=cs.length/\cL (s,a) (nX Prod.fst (cs.take off)++F8 k (fun p=>p.2) (ru k (cs.drop off)).length 0++nX Prod.fst (cs.drop (off+(ru k (cs.drop off)).length)))=splice (cL s cs) (p+off) ((I9 s gs).map (dG k)):=by
 have h0:=SB k (cs.drop off);have h1:=PW s k (cs.drop off);have h2:=qG s (ru k (cs.drop off));have h3:=qG s gs;have hoff:off<cs.length:=by
  rcases Nat.lt_or_ge off cs.length with g | g
  ·exact g
  ·rw [List.drop_eq_nil_of_le g] at hk;cases hk
 rw [List.length_drop] at h0;have hle:off+(ru k (cs.drop off)).length<=cs.length:=by omega
 refine ⟨hle,?_⟩;generalize ru k (cs.drop off)=F at *
 have hAl:=iq (s:=s) cs;rw [mJ,mJ,MV (s,a) k _ _ 0 (by show 0+F.length=a.length;rw [ha,MW _ _ _ (by omega)];omega),List.drop_zero,uP,uP];show cL s (cs.take off)++a.map (dG k)++cL s (cs.drop (off+F.length))=_;rw [ha];have e1:(I9 s F).map (dG k)=((cL s cs).drop off).take F.length:=by
  rw [<-h1,gy,gy,List.map_take,List.map_drop]
 have e2:cL s (cs.take off)=(cL s cs).take off:=by rw [gy,gy,List.map_take]
 have e3:cL s (cs.drop (off+F.length))=(cL s cs).drop (off+F.length):=by rw [gy,gy,List.map_drop]
 rw [e2,e3,ql _ _ _ (by omega)];unfold Yw;rw [List.map_append,List.map_append,List.map_take,List.map_drop,e1,List.length_map];generalize cL s cs=A at *
 generalize (I9 s gs).map (dG k)=G' at *
 rw [List.take_take,Nat.min_eq_left (by omega),h3];have t1:A.take off++(A.drop off).take p=A.take (p+off):=by rw [Nat.add_comm p off,List.take_add]
 have t2:((A.drop off).take F.length).drop (p+gs.length)++A.drop (off+F.length)=A.drop (p+off+gs.length):=by
  have hl:((A.drop off).take F.length).length=F.length:=by rw [List.length_take,List.length_drop];omega
  rw [<-List.drop_drop (i:=F.length) (j:=off),<-List.drop_append_of_le_length (by omega),List.take_append_drop,List.drop_drop];congr 1;omega
 rw [<-t1,<-t2];simp only [List.append_assoc]
theorem YE (s:σ) (T:Ty) (rd:Nat->Option (SO σ)) (t:Nat) (x y:SV σ):(P5 T rd t x y).Ok s (Sz T (gu s rd) t (x.c s) (y.c s)):=by
 unfold P5 Sz;cases hT:T t with
 | none=>trivial
 | some i =>
   simp only;split
   ·trivial
   ·rename_i hy;simp only [Bool.and_eq_true,decide_eq_true_eq] at hy;obtain ⟨hlen,hv⟩:=hy;have hlen':(y.c s).cellsOf.length=i.size:=by rw [<-oI,iq];exact hlen
    have hv':sS (kinds (gu s rd)) (y.c s)=true:=by rw [BO,nY];exact hv
    split
    ·rename_i r off;split
     ·rename_i cs hr;split
      ·rename_i hc;simp only [Bool.and_eq_true,decide_eq_true_eq] at hc;have hok:(y.c s).cellsOf.all (mQ (gu s rd))=true:=by
        rw [<-oI];exact BU s (by rw [nY];exact hc.2)
       have e1:cL s (splice cs off y.cells)=splice (cL s cs) off (y.c s).cellsOf:=by rw [gy,qF,<-gy,<-gy,oI]
       simp only [HR.Ok,SV.c,gu,hr,Option.map_some,SO.c,cO,e1];rw [if_pos ⟨hlen',by rw [iq];exact hc.1,hv',hok⟩]
      ·trivial
     ·rename_i u f hr;split
      ·rename_i g hi hg;intro hc;have hlt:=of_decide_eq_true hc.1;have hi:=of_decide_eq_true hi;obtain ⟨p1,p2⟩:=adM s hg;have hcell:(y.c s).cellsOf=[y.c s]:=by
        have:(y.c s).cellsOf.length=1:=by omega
        cases hyc:y.c s with
        | agg cs =>
          rw [hyc] at p1;cases u<;>simp [gq] at p1<;>simp [pk1] at hg
        | _=>rfl
       have hok:mQ (gu s rd) (y.c s)=true:=by
        cases hyc:y.c s with
        | agg cs =>
          rw [hyc] at p1;cases u<;>simp [gq] at p1<;>simp [pk1] at hg
        | _=>rw [hyc] at hv';simpa [mQ] using hv'
       simp only [HR.Ok,SV.c,gu,hr,Option.map_some,SO.c,cO];rw [if_pos ⟨hlen',by rw [List.length_map,bF,p2];omega,hv',by rw [hcell];simpa using hok⟩,hcell,SA p2 hlt _ _ p1]
      ·trivial
     ·trivial
    ·rename_i r z j off;split
     ·rename_i e u f hr;split
      ·rename_i p hd hp;obtain ⟨hz,hoff⟩:=of_decide_eq_true hd;split
       ·rename_i haw;intro a ha hcs;have h0:=MZ (s,a) u _ p hp hcs;rw [abz] at h0;have e1:cL (s,a) (splice (Xw u fun p:σ×u.T=>p.2) off (nX Prod.fst y.cells))=splice ((gq u a).map .d) off (y.c s).cellsOf:=by
         rw [gy,qF,<-gy,<-gy,Sl,uP,oI]
        have hle:off<=((gq u a).map AV.d).length:=by rw [List.length_map,dB];omega
        rw [e1,ql _ _ _ hle,List.append_assoc] at h0;obtain ⟨x1,x2,u1,u2,q1,q2,q3,q4⟩:=xu h0;obtain ⟨x3,x4,u3,u4,q5,q6,q7,q8⟩:=xu q2;rw [<-List.map_take,uS,List.map_take,Au] at q1;rw [<-List.map_drop,uS,List.map_drop,Au] at q6;cases q1;cases q6;rw [List.append_nil] at q8;rw [List.nil_append] at q4;subst q8 q7;have hns:x3.length=i.size:=by rw [uH q5];exact hlen'
        have hx:gq u (p.f (s,a))=splice (gq u a) off x3:=by
         rw [q3,ql _ _ _ (by rw [dB];omega),hns,hlen',List.append_assoc]
        have hset:=Nb ha (p.f (s,a)) (off:=off) (ns:=x3) (by omega) hx;have hlen2:j s*eH u+off+i.size<=(aS u (f s)).length:=by
         have:=(List.getElem?_eq_some_iff.1 ha).1;have h2:=Nat.mul_le_mul_right (eH u) (show j s+1<=(f s).length from this);rw [Nat.succ_mul] at h2;rw [bF];omega
        have haway:=Nc (s,a) r haw;rw [q4] at haway;simp only [SV.c,gu,hr,Option.map_some,SO.c];have q5':fG (gu s rd) (SV.c s y).cellsOf=some (x3,u2):=q5;rw [q5'];simp only;rw [hz,if_pos ⟨hlen',hlen2,hv',haway⟩,hset];simp only [HR.Ok,SV.c,cO,SO.c,q4]
       ·trivial
      ·trivial
     ·rename_i u f hr;split
      ·rename_i g hi hg;intro hc;have hlt:=of_decide_eq_true hc.1;obtain ⟨hi,hz,ho⟩:=of_decide_eq_true hi;obtain ⟨p1,p2⟩:=adM s hg;have hcell:(y.c s).cellsOf=[y.c s]:=by
        have:(y.c s).cellsOf.length=1:=by omega
        cases hyc:y.c s with
        | agg cs =>
          rw [hyc] at p1;cases u<;>simp [gq] at p1<;>simp [pk1] at hg
        | _=>rfl
       have hok:mQ (gu s rd) (y.c s)=true:=by
        cases hyc:y.c s with
        | agg cs =>
          rw [hyc] at p1;cases u<;>simp [gq] at p1<;>simp [pk1] at hg
        | _=>rw [hyc] at hv';simpa [mQ] using hv'
       simp only [HR.Ok,SV.c,gu,hr,Option.map_some,SO.c,cO,hz,ho,Nat.mul_one,Nat.add_zero];rw [if_pos ⟨hlen',by rw [List.length_map,bF,p2];omega,hv',by rw [hcell];simpa using hok⟩,hcell,SA p2 hlt _ _ p1]
      ·trivial
     ·rename_i cs hr;split
      ·rename_i k hk;split
       ·rename_i gs hg hall;intro hc a ha;have hle:=of_decide_eq_true hc.1;have hok:(y.c s).cellsOf.all (mQ (gu s rd))=true:=by
         rw [<-oI];exact BU s (by rw [nY];exact hall)
        have e1:(y.c s).cellsOf=(I9 s gs).map (dG k):=by rw [<-oI,JY s k _ _ hg]
        have e2:gs.length=i.size:=by rw [<-hlen',e1,List.length_map,qG]
        have hput:=abA s k cs off (j s*z) gs hk hle a (Option.some.inj ha).symm;simp only [HR.Ok,SV.c,gu,hr,Option.map_some,SO.c,cO];rw [if_pos ⟨hlen',by rw [iq];have:=hput.1;omega,hv',hok⟩,e1,<-hput.2]
       ·trivial
      ·trivial
     ·trivial
    ·trivial
end
section
variable {σ:Type}
def gB (rd:Nat->Option (SO σ)) (r:Nat):Bool:=match rd r with | none=>true | some _=>false
theorem qH (s:σ) {rd:Nat->Option (SO σ)} {r:Nat} (h:gB rd r=true):¬((gu s rd r).isSome=true):=by
 unfold gB at h;unfold gu;split at h
 ·rename_i e;rw [e];simp
 ·cases h
def SC:(u:U)->Option u.T
 | .int _=>some (0:Int)
 | .bool=>some false
 | _=>none
def isZ:U->DV->Bool
 | .int k,.val (.int k' n)=>decide (k=k'/\n=0)
 | .bool,.val (.bool false)=>true
 | _,_=>false
theorem abB {u:U} {z:u.T} (hz:SC u=some z) {d:DV} (h:isZ u d=true):gq u z=[d]:=by
 unfold SC at hz;unfold isZ at h;split at h
 ·cases hz;obtain ⟨rfl,rfl⟩:=of_decide_eq_true h;rfl
 ·cases hz;rfl
 ·cases h
theorem SE {u:U} {z:u.T} (hz:SC u=some z):∀ {l:List DV},l.all (isZ u)=true->l=aS u (List.replicate l.length z)
 | [],_=>rfl
 | d::l,h=>by
   rw [List.all_cons,Bool.and_eq_true] at h;rw [List.length_cons,List.replicate_succ,show aS u (z::List.replicate l.length z)=gq u z++aS u (List.replicate l.length z) from List.flatMap_cons,abB hz h.1,<-SE hz h.2];rfl
def P6 (T:Ty) (rd:Nat->Option (SO σ)) (slot t:Nat):HR σ :=
 match T t,gB rd slot with
 | some i,true=>match i.k with
   | .arr n e=>match decide (8<n/\n≠89),Gg T 20 e with
     | true,some u=>match SC u,i.zero.all (isZ u)&&decide (i.zero.length=n) with
       | some z,true => .ok (.ptr slot 0) [(slot,.arr u fun _=>List.replicate n z)]
       | _,_ => .fail "alloc: array"
     | _,_=>match zeroS i.zero with | some z => .ok (.ptr slot 0) [(slot,.mix z)] | none => .fail "alloc"
   | _=>match zeroS i.zero with | some z => .ok (.ptr slot 0) [(slot,.mix z)] | none => .fail "alloc"
 | _,_ => .fail "alloc: type"
theorem YF (s:σ) (T:Ty) (rd:Nat->Option (SO σ)) (slot t:Nat):(P6 T rd slot t).Ok s (match T t with
 | some i=>if (gu s rd slot).isSome then none else some (.ptr slot 0,[(slot,.mix (i.zero.map .d))])
 | none=>none):=by
 unfold P6;split
 ·rename_i i hT hn;rw [hT];simp only;rw [if_neg (qH s hn)];have plain:(match zeroS i.zero with | some z=>HR.ok (.ptr slot 0) [(slot,.mix z)] | none=>HR.fail "alloc" : HR σ).Ok s (some (.ptr slot 0,[(slot,.mix (i.zero.map .d))])):=by
   split
   ·rename_i z hz;simp only [HR.Ok,SV.c,cO,SO.c,Ar s hz]
   ·trivial
  split
  ·split
   ·split
    ·rename_i n e _ _ u _ _ z hz hall;simp only [Bool.and_eq_true,decide_eq_true_eq] at hall;have:=SE hz hall.1;rw [hall.2] at this;simp only [HR.Ok,SV.c,cO,SO.c];rw [<-this]
    ·trivial
   ·exact plain
  ·exact plain
 ·trivial
def boxS (rd:Nat->Option (SO σ)) (slot:Nat) (v:SV σ):HR σ :=
 match gB rd slot&&JX (Ib rd) v with
 | true => .ok (.ptr slot 0) [(slot,.mix v.cells)]
 | false => .fail "box"
theorem afg (s:σ) (rd:Nat->Option (SO σ)) (slot:Nat) (v:SV σ):(boxS rd slot v).Ok s (if (gu s rd slot).isSome then none else if sS (kinds (gu s rd)) (v.c s) then some (.ptr slot 0,[(slot,.mix (v.c s).cellsOf)]) else none):=by
 unfold boxS;split
 ·rename_i h;rw [Bool.and_eq_true] at h;rw [if_neg (qH s h.1),if_pos (by rw [BO,nY];exact h.2)];simp only [HR.Ok,SV.c,cO,SO.c,oI]
 ·trivial
def bsP {σ:Type} (t:Nat):Cp σ:=bif bsB t then .unk else .full
theorem ajd (s:σ) (t n:Nat):oW s n (bsP t:Cp σ)=bsC t n:=by
 unfold bsP bsC;cases bsB t<;>rfl
def Gj (T:Ty) (rd:Nat->Option (SO σ)) (slot t n:Nat) (ps:List (Nat×SV σ)):HR σ :=
 match T t with
 | some i=>match i.k with
   | .slice e=>match T e with
     | some ei=>match gB rd slot&&decide (n*ei.size<=1000/\ei.size≠0)&&ps.all fun p=>JX (Ib rd) p.2 with
       | true=>match zeroS (nO n ei.zero) with
         | some z=>match F6 (fun j=>some (j*ei.size,ei.size)) z ps,Gg T 20 e with
           | some cells,some u=>match pkN rd u n cells,decide (eH u=ei.size) with
             | some p,true => .req p.cs (.ok (.sl slot (eH u) none (fun _=>n) (bsP t)) ((slot,.data e u p.f true)::p.fz))
             | _,_ => .fail "slice literal: elements"
           | _,_ => .fail "slice literal: parts"
         | none => .fail "slice literal: zero"
       | false => .fail "slice literal"
     | none => .fail "slice literal: type"
   | _ => .fail "slice literal: type"
 | none => .fail "slice literal: type"
theorem P7 (s:σ) (T:Ty) (rd:Nat->Option (SO σ)) (slot t n:Nat) (ps:List (Nat×SV σ)):(Gj T rd slot t n ps).Ok s (match T t with
 | some i=>match i.k with
   | .slice e=>match T e with
     | some ei=>if (gu s rd slot).isSome\/n*ei.size > 1000\/ei.size=0\/((ps.map fun p=>(p.1,p.2.c s)).all fun p=>sS (kinds (gu s rd)) p.2)=false then none else
       match l7 (fun j=>some (j*ei.size,ei.size)) ((nO n ei.zero).map .d) (ps.map fun p=>(p.1,p.2.c s)) with
       | some cells=>match fG (gu s rd) cells with
         | some (cs,us)=>some (.sl slot 0 n (bsC t n),(slot,.data e ei.size cs true)::us)
         | none=>none
       | none=>none
     | none=>none
   | _=>none
 | none=>none):=by
 unfold Gj;cases hT:T t with
 | none=>trivial
 | some i =>
   simp only;split
   ·rename_i e hk;cases hE:T e with
    | none=>trivial
    | some ei =>
      simp only;split
      ·rename_i h;simp only [Bool.and_eq_true,decide_eq_true_eq] at h;obtain ⟨⟨h1,h2,h3⟩,h4⟩:=h;have h4':((ps.map fun p=>(p.1,p.2.c s)).all fun p=>sS (kinds (gu s rd)) p.2)=true:=by
        rw [List.all_map,List.all_eq_true] at *
        intro p hp;show sS _ (p.2.c s)=true;rw [BO,nY];exact h4 p hp
       rw [if_neg (by rintro (h | h | h | h);exact qH s h1 h;omega;exact h3 h;rw [h4'] at h;cases h)];split
       ·rename_i z hz;split
        ·rename_i cells u hc hu;split
         ·rename_i p hp hsz;intro hcs;have hsz:=of_decide_eq_true hsz;obtain ⟨g1,g2⟩:=adK s n _ p hp hcs;rw [<-Ar s hz,EI s _ _ _ _ hc];simp only [g1,HR.Ok,SV.c,cO,SO.c,sG,Nat.zero_mul,ajd,hsz]
         ·trivial
        ·trivial
       ·trivial
      ·trivial
   ·trivial
theorem abC {a b:Operand} (h:OB a b=true):a=b:=by
 unfold OB at h;split at h
 ·first | (cases h;done) | rw [of_decide_eq_true h] | rw [(of_decide_eq_true h).1]
 ·obtain ⟨rfl,rfl⟩:=of_decide_eq_true h;rfl
 ·cases h
theorem Nh {u:U} {z:u.T} {l:List DV} (h:gq u z=l):∀n,nO n l=aS u (List.replicate n z)
 | 0=>rfl
 | n+1=>by rw [nO,Nh h n,List.replicate_succ,<-h];rfl
def J4 (T:Ty) (rd:Nat->Option (SO σ)) (slot t:Nat) (same:Bool) (l c:SV σ):HR σ :=
 match T t with
 | some i=>match i.k with
   | .slice e=>match T e,Gg T 20 e with
     | some ei,some u=>match Ap l,Ap c with
       | some (_,n),some (_,k)=>match zeroS ei.zero with
         | some zs=>match Ep (fun _=>none) u zs with
           | some p=>match p.cs,gB rd slot&&decide (eH u=ei.size/\0<ei.size) with
             | [],true => .req [fun s=>decide (0<=n s/\n s<=k s/\k s*ei.bytes<=140737488355328/\k s<=9223372036854775807)]
                 (.ok (.sl slot (eH u) none (fun s=>(n s).toNat) (match same with | true => .full | false => .unk)) [(slot,.data e u (fun s=>List.replicate (k s).toNat (p.f s)) true)])
             | _,_ => .fail "make"
           | none => .fail "make: zero"
         | none => .fail "make: zero"
       | _,_ => .fail "make: length"
     | _,_ => .fail "make: type"
   | _ => .fail "make: type"
 | none => .fail "make: type"
theorem Vp (s:σ) (T:Ty) (rd:Nat->Option (SO σ)) (slot t:Nat) (same:Bool) (l c:SV σ) (hs:same=true->l=c):(J4 T rd slot t same l c).Ok s (match T t with
 | some i=>match i.k with
   | .slice e=>match T e with
     | some ei=>match l.c s,c.c s with
       | .d (.val (.int _ n)),.d (.val (.int _ k))=>if (gu s rd slot).isSome then none else
         if 0<=n/\n<=k/\k*ei.bytes<=140737488355328/\k<=maxLen/\0<ei.size then some (.sl slot 0 n.toNat (bif same then some k.toNat else none),[(slot,.data e ei.size (nO k.toNat (ei.zero.map sU)) true)]) else none
       | _,_=>none
     | none=>none
   | _=>none
 | none=>none):=by
 unfold J4;cases hT:T t with
 | none=>trivial
 | some i =>
   simp only;split
   ·rename_i e hk;split
    ·rename_i ei u hE hU;split
     ·rename_i k1 n k2 k hn hkk;split
      ·rename_i zs hzs;split
       ·rename_i p hp;split
        ·rename_i hcs hall;simp only [Bool.and_eq_true,decide_eq_true_eq] at hall;obtain ⟨h1,h2,h3⟩:=hall;intro hc;have hc1:=of_decide_eq_true hc.1;have hz:=MZ s u _ p hp (by rw [hcs];trivial);rw [Ar s hzs,uS] at hz;have hz':gq u (p.f s)=ei.zero.map sU:=by
          have:=congrArg (fun x=>x.map Prod.fst) hz;simp only [Option.map_some,Option.some.injEq] at this;exact this.symm
         rw [kJ hn,kJ hkk,hE];simp only [dG];have hm:(maxLen:Int)=9223372036854775807:=rfl;rw [if_neg (qH s h1),if_pos ⟨hc1.1,hc1.2.1,hc1.2.2.1,by rw [hm];exact hc1.2.2.2,h3⟩,Nh hz'];simp only [HR.Ok,SV.c,cO,SO.c,sG,Nat.zero_mul,h2];cases same with
         | false=>rfl
         | true =>
           have:=hs rfl;subst this;rw [hn] at hkk;cases hkk;rfl
        ·trivial
       ·trivial
      ·trivial
     ·trivial
    ·trivial
   ·trivial
def aje (f:σ->List UInt8):(u:U)->Option (PK σ (List u.T))
 | .int .u8=>some ⟨fun s=>(f s).map fun b=>(b.toNat:Int),[],[]⟩
 | _=>none
def P8 (rd:Nat->Option (SO σ)) (u:U) (y:SV σ):Option (PK σ (List u.T)) :=
 match y with
 | .val (.slice none 0 0)=>some ⟨fun _=>[],[],[]⟩
 | .lst u' f=>match Ox u' u with | some ⟨h⟩=>some ⟨fP h f,[],[]⟩ | none=>none
 | .sl r z o n _=>match rd r with
   | some (.data e u' f wr)=>match Ox u' u,decide (z=eH u') with
     | some ⟨h⟩,true=>some ⟨fP h (rowP o n f),[MX o n f],[]⟩
     | _,_=>none
   | _=>none
 | y=>match asS y with
   | some f=>aje f u
   | none=>none
theorem Gl (l:List UInt8):bytesD l=aS (.int .u8) (l.map fun b=>(b.toNat:Int)):=by
 induction l with
 | nil=>rfl
 | cons b l ih =>
   rw [List.map_cons,show aS (.int .u8) (((b.toNat:Nat):Int)::l.map fun b=>((b.toNat:Nat):Int))=gq (.int .u8) ((b.toNat:Nat):Int)++aS (.int .u8) (l.map fun b=>((b.toNat:Nat):Int)) from List.flatMap_cons,<-ih];rfl
theorem P9 (s:σ) {rd:Nat->Option (SO σ)} {u:U} {y:SV σ} {p:PK σ (List u.T)} (h:P8 rd u y=some p) (hc:allT s p.cs):uy (gu s rd) (eH u) (y.c s)=some (aS u (p.f s),(p.f s).length):=by
 unfold P8 at h;split at h
 ·cases h;rw [SV.c];rfl
 ·split at h
  ·rename_i hk _;subst hk;cases h;rw [SV.c];simp only [uy,fP];rw [if_pos (bF _ _)]
  ·cases h
 ·rename_i r z o n cap;split at h
  ·rename_i e u' f wr hr;split at h
   ·rename_i hk _ hz;subst hk;cases h;have hz:=of_decide_eq_true hz;have h1:=uU hc.1;rw [SV.c];have h2:sG s o*eH u'+n s*eH u'<=(aS u' (f s)).length:=by
     rw [bF,<-Nat.add_mul];exact Nat.mul_le_mul_right _ h1
    simp only [uy,gu,hr,Option.map_some,SO.c,fP,hz];rw [if_pos ⟨trivial,h2⟩,rV,iO,fJ,List.length_take,List.length_drop,Nat.min_eq_left (by omega)]
   ·cases h
  ·cases h
 ·split at h
  ·rename_i f hf;unfold aje at h;split at h
   ·cases h;rw [rQ hf];simp only [uy];rw [if_pos (show eH (U.int .u8)=1 from rfl),Gl];have:(⟨(f s).toArray⟩:ByteArray).size=(f s).length:=by show (f s).toArray.size=_;simp
    rw [this,List.length_map]
   ·cases h
  ·cases h
def ajf {α:Type} (bytes:Nat) (F:σ->List α):σ->Bool:=fun s=>decide ((F s).length*bytes<=140737488355328)
def ajg {u:U} (slot e:Nat) (bytes:Nat) (F:σ->List u.T) (more:List (Nat×SO σ)):HR σ :=
 .req [ajf bytes F] (.ok (.sl slot (eH u) none (fun s=>(F s).length) .unk) ((slot,.data e u F true)::more))
def newS {u:U} (slot e:Nat) (bytes:Nat) (F:σ->List u.T) (more:List (Nat×SO σ)):HR σ :=
 .req [ajf bytes F] (.bnd (fun s=>some (F s)) (.ok (.sl slot (eH u) none (fun p=>p.2.length) .unk) ((slot,.data e u (fun p=>p.2) true)::iV Prod.fst more)))
theorem EJ {u:U} {slot e:Nat} {bytes:Nat} {F:σ->List u.T} {more:List (Nat×SO σ)} {s:σ} {x:Option (AV×List (Nat×AO))} (h:(ajg slot e bytes F more).Ok s x):(newS slot e bytes F more).Ok s x:=by
 intro h2 a ha;cases ha;have:=h h2;show x=some (_,_);rw [show x=some (_,_) from this];simp only [SV.c,cO,SO.c,oH,sG,oW]
theorem J5 (s:σ) {rd:Nat->Option (SO σ)} {slot e bytes:Nat} {u:U} (hn:gB rd slot=true) (hb:0<bytes) {a b:List u.T} (hf:(a++b).length*bytes<=140737488355328) {n:Nat} (ha:a.length=n) :
 wB (gu s rd) slot e (eH u) bytes b.length (aS u b) n (aS u a)=some (.sl slot 0 (a++b).length none,[(slot,.data e (eH u) (aS u (a++b)) true)]):=by
 have hl:(a++b).length=n+b.length:=by rw [List.length_append,ha]
 unfold wB;rw [if_neg (qH s hn),if_pos,hl,jm];rw [hl] at hf;refine ⟨hf,?_⟩;have:n+b.length<=(n+b.length)*bytes:=Nat.le_mul_of_pos_right _ hb;have hm:maxLen=9223372036854775807:=rfl;omega
def Qa:SV σ->Bool
 | .val (.slice none 0 0)=>true
 | _=>false
theorem YG {rd:Nat->Option (SO σ)} {u:U} {y:SV σ} {p:PK σ (List u.T)} (h:P8 rd u y=some p) (hn:Qa y=true) (s:σ):p.cs=[]/\p.f s=[]:=by
 unfold Qa at hn;split at hn
 ·unfold P8 at h;simp only [Option.some.injEq] at h;subst h;exact ⟨rfl,rfl⟩
 ·cases hn
def afh (eg:Bool) (T:Ty) (rd:Nat->Option (SO σ)) (slot:Nat) (t t2:Option Nat) (x y:SV σ):HR σ :=
 match t.bind T,t2.bind T with
 | some i,some j=>match i.k,j.k.srcOk with
   | .slice e,true=>match T e,Gg T 20 e with
     | some ei,some u=>match P8 rd u y,decide (eH u=ei.size/\0<ei.size/\0<ei.bytes)&&gB rd slot with
       | some p,true=>match x with
         | .val (.slice none 0 0) => .req p.cs (newS slot e ei.bytes p.f [])
         | .sl r z o n .unk=>match rd r,o with
           | some (.data e' u' f true),none=>match Ox u' u,decide (e'=e/\z=eH u) with
             | some ⟨h⟩,true => .req (p.cs++[MX none n f]) (newS slot e ei.bytes (fun s=>fP h (fun s=>(f s).take (n s)) s++p.f s) [(r,.dead)])
             | _,_ => .fail "append: row"
           | _,_ => .fail "append: object"
         | .sl r z o n .full=>match rd r with
           | some (.data e' u' f wr)=>match Ox u' u,decide (e'=e/\z=eH u) with
             | some ⟨h⟩,true=>match Qa y with
               | true => .req [fun s=>decide (n s≠0)] (.ok (.sl r z o n .full) [])
               | false=>match eg with
               | false => .req (p.cs++[MX o n f,fun s=>decide (n s=0\/(p.f s).length≠0)]) (newS slot e ei.bytes (fun s=>fP h (rowP o n f) s++p.f s) [])
               | true => .req p.cs (.iff (fun s=>decide (n s=0\/(p.f s).length≠0)) (.req [MX o n f] (newS slot e ei.bytes (fun s=>fP h (rowP o n f) s++p.f s) [])) (.ok (.sl r z o n .full) []))
             | _,_ => .fail "append: row"
           | _ => .fail "append: object"
         | .sl r z o n (.fn c)=>match rd r,o with
           | some (.data e' u' f true),none=>match Ox u' u,decide (e'=e/\z=eH u) with
             | some ⟨h⟩,true => .req (p.cs++[fun s=>decide (n s<c s/\n s+(p.f s).length<=c s/\n s+(p.f s).length<=(f s).length)])
                (.bnd (fun s=>some (fP h (fun s=>(f s).take (n s)) s++(p.f s++fP h (fun s=>(f s).drop (n s+(p.f s).length)) s)))
                  (.ok (.sl r z none (fun q=>n q.1+(p.f q.1).length) (.fn fun q=>c q.1)) [(r,.data e u (fun q=>q.2) true)]))
             | _,_ => .fail "append: row"
           | _,_ => .fail "append: object"
         | _ => .fail "append: to this"
       | _,_ => .fail "append: what"
     | _,_ => .fail "append: type"
   | _,_ => .fail "append: type"
 | _,_ => .fail "append: type"
theorem afi (s:σ) (eg:Bool) (T:Ty) (rd:Nat->Option (SO σ)) (slot:Nat) (t t2:Option Nat) (x y:SV σ):(afh eg T rd slot t t2 x y).Ok s (match t.bind T,t2.bind T with
 | some i,some j=>if j.k.srcOk then match i.k with
   | .slice e=>match T e with
     | some ei=>match uy (gu s rd) ei.size (y.c s) with
       | some (cells,m)=>if 0<ei.size then iM (gu s rd) slot e ei.size ei.bytes (x.c s) cells m else none
       | none=>none
     | none=>none
   | _=>none
 else none
 | _,_=>none):=by
 unfold afh;split
 ·rename_i i j hi hj;split
  ·rename_i e hk hso;rw [if_pos hso];split
   ·rename_i ei u hE hU;split
    ·rename_i p hp hd;simp only [Bool.and_eq_true,decide_eq_true_eq] at hd;obtain ⟨⟨hsz,hpos,hb⟩,hn⟩:=hd;have hsrc:allT s p.cs->uy (gu s rd) ei.size (y.c s)=some (aS u (p.f s),(p.f s).length):=fun h=>by rw [<-hsz];exact P9 s hp h
     split
     ·intro h1;refine EJ ?_;intro h2;have hf:=of_decide_eq_true h2.1;simp only [hk,hE];rw [hsrc h1];simp only;rw [if_pos hpos,SV.c,<-hsz];simp only [iM];have:=J5 s (e:=e) (bytes:=ei.bytes) (a:=[]) (b:=p.f s) hn hb hf (n:=0) rfl;rw [show aS u []=[] from rfl] at this;rw [this];simp only [HR.Ok,SV.c,cO,SO.c,sG,Nat.zero_mul,oW,List.nil_append]
     ·rename_i r z o n;split
      ·rename_i e' u' f hr;split
       ·rename_i hku _ hdd;subst hku;obtain ⟨rfl,hz⟩:=of_decide_eq_true hdd;intro h1;refine EJ ?_;intro h2;rw [bK] at h1;have hf:=of_decide_eq_true h2.1;have hrow:n s<=(f s).length:=of_decide_eq_true h1.2.1;simp only [hk,hE];rw [hsrc h1.1];simp only;rw [if_pos hpos,SV.c,<-hsz];simp only [iM,oW,gu,hr,Option.map_some,SO.c,sG,Nat.zero_mul];have hA:=J5 s (e:=e') (bytes:=ei.bytes) (a:=(f s).take (n s)) (b:=p.f s) hn hb hf (n:=n s) (by rw [List.length_take];omega);rw [if_pos ⟨trivial,trivial,trivial,trivial⟩];have hle:n s*eH u'<=(aS u' (f s)).length:=by rw [bF];exact Nat.mul_le_mul_right _ hrow
        have fin:∀C,C=aS u' ((f s).take (n s))->(match wB (gu s rd) slot e' (eH u') ei.bytes (p.f s).length (aS u' (p.f s)) (n s) C with
         | some (v,u)=>some (v,u++[(r,AO.dead)])
         | none=>none)=some (AV.sl slot 0 ((f s).take (n s)++p.f s).length none,[(slot,.data e' (eH u') (aS u' ((f s).take (n s)++p.f s)) true),(r,AO.dead)]):=fun C hC=>by
         rw [hC,hA];rfl
        have goal:∀X,X=some (AV.sl slot 0 ((f s).take (n s)++p.f s).length none,[(slot,AO.data e' (eH u') (aS u' ((f s).take (n s)++p.f s)) true),(r,AO.dead)])->(HR.ok (.sl slot (eH u') none (fun s=>(fP rfl (fun s=>(f s).take (n s)) s++p.f s).length) .unk) [(slot,.data e' u' (fun s=>fP rfl (fun s=>(f s).take (n s)) s++p.f s) true),(r,.dead)]:HR σ).Ok s X:=fun X hX=>by
         rw [hX];simp only [HR.Ok,SV.c,cO,SO.c,sG,Nat.zero_mul,oW,fP]
        refine goal _ ?_;split
        ·rename_i heq;exact fin _ (by rw [<-fJ,heq,List.take_length])
        ·first
         | exact fin _ (by rw [<-fJ])
         | (rw [if_pos hle];exact fin _ (by rw [<-fJ]))
       ·trivial
      ·trivial
     ·rename_i r z o n;split
      ·rename_i e' u' f wr hr;split
       ·rename_i hku _ hdd;subst hku;obtain ⟨rfl,hz⟩:=of_decide_eq_true hdd;split
        ·rename_i hny;obtain ⟨q1,q2⟩:=YG hp hny s;intro h1;have hn0:=of_decide_eq_true h1.1;have hsr:=hsrc (by rw [q1];trivial);rw [q2] at hsr;simp only [hk,hE];rw [hsr];simp only;rw [if_pos hpos,<-hsz];simp only [HR.Ok,SV.c,iM,oW,gu,hr,Option.map_some,SO.c,cO];rw [if_pos ⟨trivial,trivial⟩,if_pos trivial,if_neg hn0,if_pos (show ([]:List u'.T).length=0 from rfl)]
        cases eg with
        | false =>
          intro h1;refine EJ ?_;intro h2;rw [bK] at h1;have hf:=of_decide_eq_true h2.1;have hrow:=uU h1.2.1;have hor:=of_decide_eq_true h1.2.2.1;simp only [hk,hE];rw [hsrc h1.1];simp only;rw [if_pos hpos,SV.c,<-hsz];simp only [iM,oW,gu,hr,Option.map_some,SO.c];have hfit:(rowP o n f s++p.f s).length*ei.bytes<=140737488355328:=hf;have hlen:(rowP o n f s).length=n s:=by rw [rV,List.length_take,List.length_drop];omega
          have hA:=J5 s (e:=e') (bytes:=ei.bytes) (a:=rowP o n f s) (b:=p.f s) hn hb hfit hlen;have goal:∀X,X=some (AV.sl slot 0 (rowP o n f s++p.f s).length none,[(slot,AO.data e' (eH u') (aS u' (rowP o n f s++p.f s)) true)])->(HR.ok (.sl slot (eH u') none (fun s=>(fP rfl (rowP o n f) s++p.f s).length) .unk) [(slot,.data e' u' (fun s=>fP rfl (rowP o n f) s++p.f s) true)]:HR σ).Ok s X:=fun X hX=>by
           rw [hX];simp only [HR.Ok,SV.c,cO,SO.c,sG,Nat.zero_mul,oW,fP]
          refine goal _ ?_;rw [if_pos ⟨trivial,trivial⟩,if_pos trivial];by_cases hn0:n s=0
          ·rw [if_pos hn0];have h0:rowP o n f s=[]:=List.eq_nil_of_length_eq_zero (by omega);rw [h0,hn0] at hA;rw [h0];exact hA
          ·rw [if_neg hn0,if_neg (by rcases hor with h | h;exact (hn0 h).elim;exact h)];have hle:sG s o*eH u'+n s*eH u'<=(aS u' (f s)).length:=by rw [bF,<-Nat.add_mul];exact Nat.mul_le_mul_right _ hrow
           rw [hz,if_pos hle,iO,fJ,<-rV];exact hA
        | true =>
          intro h1;rw [HR.Ok];cases hc:decide (n s=0\/(p.f s).length≠0) with
          | true =>
            have hor:=of_decide_eq_true hc;intro hr1;refine EJ ?_;intro h2;have hf:=of_decide_eq_true h2.1;have hrow:=uU hr1.1;simp only [hk,hE];rw [hsrc h1];simp only;rw [if_pos hpos,SV.c,<-hsz];simp only [iM,oW,gu,hr,Option.map_some,SO.c];have hfit:(rowP o n f s++p.f s).length*ei.bytes<=140737488355328:=hf;have hlen:(rowP o n f s).length=n s:=by rw [rV,List.length_take,List.length_drop];omega
            have hA:=J5 s (e:=e') (bytes:=ei.bytes) (a:=rowP o n f s) (b:=p.f s) hn hb hfit hlen;have goal:∀X,X=some (AV.sl slot 0 (rowP o n f s++p.f s).length none,[(slot,AO.data e' (eH u') (aS u' (rowP o n f s++p.f s)) true)])->(HR.ok (.sl slot (eH u') none (fun s=>(fP rfl (rowP o n f) s++p.f s).length) .unk) [(slot,.data e' u' (fun s=>fP rfl (rowP o n f) s++p.f s) true)]:HR σ).Ok s X:=fun X hX=>by
             rw [hX];simp only [HR.Ok,SV.c,cO,SO.c,sG,Nat.zero_mul,oW,fP]
            refine goal _ ?_;rw [if_pos ⟨trivial,trivial⟩,if_pos trivial];by_cases hn0:n s=0
            ·rw [if_pos hn0];have h0:rowP o n f s=[]:=List.eq_nil_of_length_eq_zero (by omega);rw [h0,hn0] at hA;rw [h0];exact hA
            ·rw [if_neg hn0,if_neg (by rcases hor with h | h;exact (hn0 h).elim;exact h)];have hle:sG s o*eH u'+n s*eH u'<=(aS u' (f s)).length:=by rw [bF,<-Nat.add_mul];exact Nat.mul_le_mul_right _ hrow
             rw [hz,if_pos hle,iO,fJ,<-rV];exact hA
          | false =>
            have hno:=of_decide_eq_false hc;have hn0:¬n s=0:=fun e=>hno (.inl e);have hm0:(p.f s).length=0:=by
             rcases Nat.eq_zero_or_pos (p.f s).length with e | e
             ·exact e
             ·exact (hno (.inr (by omega))).elim
            show _=some _;simp only [hk,hE];rw [hsrc h1];simp only;rw [if_pos hpos,<-hsz];simp only [SV.c,iM,oW,gu,hr,Option.map_some,SO.c];rw [if_pos ⟨trivial,trivial⟩,if_pos trivial,if_neg hn0,if_pos hm0];rfl
       ·trivial
      ·trivial
     ·rename_i r z o n c;split
      ·rename_i e' u' f hr;split
       ·rename_i hku _ hdd;subst hku;obtain ⟨rfl,hz⟩:=of_decide_eq_true hdd;intro h1 a ha;cases ha;rw [bK] at h1;obtain ⟨g1,g2,g3⟩:=of_decide_eq_true h1.2.1;simp only [hk,hE];rw [hsrc h1.1];simp only;rw [if_pos hpos,SV.c,<-hsz];simp only [iM,oW,gu,hr,Option.map_some,SO.c,sG,Nat.zero_mul];have hle:n s*eH u'<=(aS u' (f s)).length:=by rw [bF];exact Nat.mul_le_mul_right _ (by omega)
        have hle2:(n s+(p.f s).length)*eH u'<=(aS u' (f s)).length:=by rw [bF];exact Nat.mul_le_mul_right _ g3
        have hcell:splice (aS u' (f s)) (n s*eH u') (aS u' (p.f s))=aS u' ((f s).take (n s)++(p.f s++(f s).drop (n s+(p.f s).length))):=by
         rw [ql _ _ _ hle,jm,jm,fJ,bF,<-Nat.add_mul,iO,List.append_assoc]
        rw [if_pos ⟨trivial,trivial⟩,if_neg (by omega),if_pos ⟨trivial,trivial,g2,hle2⟩,hcell];simp only [HR.Ok,SV.c,cO,SO.c,sG,Nat.zero_mul,oW,fP]
       ·trivial
      ·trivial
     ·trivial
    ·trivial
   ·trivial
  ·trivial
 ·trivial
end
section
variable {σ:Type}
def J6 (l:List Int):List UInt8:=l.map fun n=>UInt8.ofNat n.toNat
theorem Nj:∀l:List Int,lq (aS (.int .u8) l)=some (J6 l)
 | []=>rfl
 | n::l=>by
   rw [show aS (.int .u8) (n::l)=DV.val (.int .u8 n)::aS (.int .u8) l from rfl,lq,Nj l];rfl
def afj:SV σ->Bool
 | .lst _ _=>true
 | .sl _ _ _ _ _=>true
 | .val (.slice none 0 0)=>true
 | _=>false
theorem afk {v:SV σ} (h:afj v=true) (s:σ):isStr (v.c s)=false:=by
 unfold afj at h;split at h
 ·rw [SV.c];rfl
 ·rw [SV.c];rfl
 ·rw [SV.c];rfl
 ·cases h
def cvS (T:Ty) (rd:Nat->Option (SO σ)) (src dst:Nat) (x:SV σ):HR σ :=
 match T src,T dst with
 | some si,some di=>match si.k,di.k with
   | .slice e,.str=>match afj x&&Bq (T e),P8 rd (.int .u8) x with
     | true,some p => .req p.cs (.ok (.str fun s=>J6 (p.f s)) [])
     | _,_ => .fail "convert: of this"
   | _,_ => .fail "convert: types"
 | _,_ => .fail "convert: type"
theorem ajh (s:σ) (T:Ty) (rd:Nat->Option (SO σ)) (src dst:Nat) (x:SV σ):(cvS T rd src dst x).Ok s (match T src,T dst with
 | some si,some di=>match si.k,di.k with
   | .slice e,.str=>if isStr (x.c s) || !(Bq (T e)) then none else match uy (gu s rd) 1 (x.c s) with
     | some (cells,_)=>match lq cells with
       | some l=>some (.d (.val (.string ⟨l.toArray⟩)),[])
       | none=>none
     | none=>none
   | .slice _,.slice e=>if src=dst/\Bq (T e)=true then (match x.c s with
     | .sl r off n cap=>match gu s rd r with
       | some (.data _ s cs true)=>if s=1/\0<n then some (.d (.dl ((cs.drop off).take n) n cap),[(r,.dead)]) else none
       | _=>none
     | _=>none) else none
   | _,_=>none
 | _,_=>none):=by
 unfold cvS;split
 ·split
  ·rename_i h1 h2;split
   ·rename_i p hb hp;rw [Bool.and_eq_true] at hb;intro hc;have h3:=P9 s hp hc;simp only [h1,h2];rw [afk hb.1 s,hb.2,show uy (gu s rd) 1 (x.c s)=some (aS (.int .u8) (p.f s),(p.f s).length) from h3];simp only [Bool.not_true,Bool.or_false,Bool.false_eq_true,if_false,Nj,HR.Ok,SV.c,cO]
   ·trivial
  ·trivial
 ·trivial
def Gm {α:Type} (f:List α) (o:Nat) (l:List α):List α:=f.take o++l++f.drop (o+l.length)
theorem afl (u:U) (f l:List u.T) (o:Nat) (h:o+l.length<=f.length):splice (aS u f) (o*eH u) (aS u l)=aS u (Gm f o l):=by
 rw [ql _ _ _ (by rw [bF];exact Nat.mul_le_mul_right _ (by omega)),Gm,jm,jm,bF,<-Nat.add_mul,iO,fJ]
def oAt (o:Option (σ->Nat)):σ->Nat:=match o with | none=>fun _=>0 | some o=>o
theorem aji (s:σ) (o:Option (σ->Nat)):oAt o s=sG s o:=by cases o<;>rfl
def copyS (T:Ty) (rd:Nat->Option (SO σ)) (t:Option Nat) (x y:SV σ):HR σ :=
 match t.bind T with
 | some i=>match i.k with
   | .slice e=>match T e with
     | some ei=>match x with
       | .sl r z o n cap=>match rd r with
         | some (.data e' u f true)=>match P8 rd u y,decide (eH u=ei.size/\z=eH u) with
           | some p,true => .req (p.cs++[MX o n f]) (.ok (.int .i64 fun s=>((min (p.f s).length (n s):Nat):Int)) [(r,.data e' u (fun s=>Gm (f s) (oAt o s) ((p.f s).take (n s))) true)])
           | _,_ => .fail "copy: what"
         | _ => .fail "copy: object"
       | _ => .fail "copy: to this"
     | none => .fail "copy: type"
   | _ => .fail "copy: type"
 | none => .fail "copy: type"
theorem abD (s:σ) (T:Ty) (rd:Nat->Option (SO σ)) (t:Option Nat) (x y:SV σ):(copyS T rd t x y).Ok s (match [x.c s,y.c s],t.bind T with
 | [.sl r off n cap,y],some i=>match i.k with
   | .slice e=>match T e with
     | some ei=>match uy (gu s rd) ei.size y,gu s rd r with
       | some (cells,m),some (.data e' s cs true)=>if s=ei.size/\off+n*s<=cs.length then some (dG .i64 (Nat.min m n),[(r,.data e' s (splice cs off (cells.take (Nat.min m n*s))) true)]) else none
       | _,_=>none
     | none=>none
   | _=>none
 | _,_=>none):=by
 unfold copyS;split
 ·rename_i i hi;split
  ·rename_i e hk;split
   ·rename_i ei hE;split
    ·rename_i r z o n cap;split
     ·rename_i e' u f hr;split
      ·rename_i p hp hd;obtain ⟨h1,h2⟩:=of_decide_eq_true hd;intro hc;rw [bK] at hc;have h3:=P9 s hp hc.1;have h4:=uU hc.2.1;have h5:(gu s rd) r=some (.data e' (eH u) (aS u (f s)) true):=by simp only [gu,hr,Option.map_some,SO.c]
       have hm:Nat.min (p.f s).length (n s)=min (p.f s).length (n s):=rfl;simp only [SV.c,hi,hk,hE,<-h1,h3,h5,HR.Ok,cO,SO.c];rw [if_pos ⟨trivial,by rw [h2,bF,<-Nat.add_mul];exact Nat.mul_le_mul_right _ h4⟩,hm,fJ,h2,afl]
       ·rw [aji];have:(p.f s).take (min (p.f s).length (n s))=(p.f s).take (n s):=by
         rcases Nat.le_total (p.f s).length (n s) with h | h
         ·rw [Nat.min_eq_left h,List.take_length,List.take_of_length_le h]
         ·rw [Nat.min_eq_right h]
        rw [this]
       ·rw [List.length_take];omega
      ·trivial
     ·trivial
    ·trivial
   ·trivial
  ·trivial
 ·trivial
theorem Jc (n:Int):∀l:List Int,pK n l (l.map fun _=>bJ true)=if n∈l then some (bJ true) else none
 | []=>rfl
 | a::l=>by
   rw [List.map_cons,pK];by_cases h:a=n
   ·rw [if_pos h,if_pos (by simp [h])]
   ·rw [if_neg h,Jc n l];by_cases h2:n∈l
    ·rw [if_pos h2,if_pos (by simp [h2])]
    ·rw [if_neg h2,if_neg (by simp [h2];exact fun e=>h e.symm)]
theorem Nk (n:Int):∀l:List Int,OA n (bJ true) l (l.map fun _=>bJ true)=l.map fun _=>bJ true
 | []=>rfl
 | a::l=>by
   rw [List.map_cons,OA,Nk n l];split<;>rfl
theorem YH (n:Int) (l:List Int):Eh l n (l.map fun _=>bJ true) (bJ true)=(uz l n).map fun _=>bJ true:=by
 unfold Eh uz;split
 ·exact Nk n l
 ·rw [List.map_append];rfl
def EL (ei:TI):Bool:=match fQ ei (ei.zero.map .d) 0 with | some (.d (.val (.bool false)))=>true | _=>false
theorem Qb {ei:TI} (h:EL ei=true):fQ ei (ei.zero.map .d) 0=some (bJ false):=by
 unfold EL at h;split at h
 ·rename_i e;exact e
 ·cases h
def SG:IntKind->Bool | .i64=>true | _=>false
theorem Gn {k:IntKind} (h:SG k=true):k = .i64:=by cases k<;>first | rfl | cases h
def Qc (T:Ty) (rd:Nat->Option (SO σ)) (slot t:Nat):HR σ :=
 match gB rd slot,vW T t with
 | true,some (kk,ei)=>match SG kk&&EL ei with
   | true => .ok (.ptr slot 0) [(slot,.mp fun _=>[])]
   | false => .ok (.ptr slot 0) [(slot,.tab kk [] [])]
 | _,_ => .fail "map: type"
theorem YI (s:σ) (T:Ty) (rd:Nat->Option (SO σ)) (slot t:Nat):(Qc T rd slot t).Ok s (if (gu s rd slot).isSome then none else match vW T t with | some (kk,_)=>some (.ptr slot 0,[(slot,.mp kk [] [])]) | none=>none):=by
 unfold Qc;split
 ·rename_i kk ei h hK;rw [if_neg (qH s h),hK];dsimp only;split
  ·rename_i h2;rw [Bool.and_eq_true] at h2;simp only [HR.Ok,SV.c,cO,SO.c,Gn h2.1];rfl
  ·simp only [HR.Ok,SV.c,cO,SO.c];rfl
 ·trivial
def dvS:DV->Option (SV σ)
 | .val v=>some (.val v)
 | _=>none
def abE:List DV->Option (List (SV σ))
 | []=>some []
 | x::l=>match dvS x,abE l with | some y,some r=>some (y::r) | _,_=>none
theorem YJ (s:σ):∀ {l:List DV} {r:List (SV σ)},abE l=some r->cL s r=l.map .d
 | [],r,h=>by cases h;rfl
 | x::l,r,h=>by
   rw [abE] at h;split at h
   ·rename_i y r' h1 h2;cases h;rw [cL,YJ s h2,List.map_cons];cases x with
    | val v=>cases h1;rw [SV.c]
    | dl c n k=>cases h1
   ·cases h
def Qd (ei:TI):Option (SV σ) :=
 match abE ei.zero with
 | some l=>match ei.k.isAgg with
   | true=>match decide (ei.size<=l.length) with
     | true=>some (.agg (l.take ei.size))
     | false=>none
   | false=>l[0]?
 | none=>none
theorem Nl (s:σ):∀(n:Nat) (l:List (SV σ)),cL s (l.take n)=(cL s l).take n
 | 0,l=>by rw [List.take_zero,List.take_zero,cL]
 | n+1,[]=>by rw [List.take_nil,cL,List.take_nil]
 | n+1,x::l=>by rw [List.take_succ_cons,cL,cL,List.take_succ_cons,Nl s n l]
theorem afm (s:σ) {l:List (SV σ)} {z:SV σ} (h:l[0]? = some z):(cL s l)[0]? = some (z.c s):=by
 cases l with
 | nil=>cases h
 | cons x l=>cases h;rw [cL];rfl
theorem YK (s:σ) {ei:TI} {z:SV σ} (h:Qd ei=some z):fQ ei (ei.zero.map .d) 0=some (z.c s):=by
 unfold Qd at h;split at h
 ·rename_i l hl;have hc:=YJ s hl;unfold fQ;rw [<-hc];have hlen:(cL s l).length=l.length:=iq s l;split at h
  ·rename_i ha;split at h
   ·rename_i hd;cases h;rw [ha,if_pos rfl,if_pos (by rw [hlen];have:=of_decide_eq_true hd;omega),List.drop_zero,SV.c,Nl]
   ·cases h
  ·rename_i ha;rw [ha,if_neg (by simp)];exact afm s h
 ·cases h
def Qe (ok:Bool) (r:Option (SV σ)) (z:SV σ):SV σ :=
 match ok with
 | true => .tup [match r with | some v=>v | none=>z,.val (.bool r.isSome)]
 | false=>match r with | some v=>v | none=>z
theorem Qg (s:σ) (ok:Bool) (r:Option (SV σ)) (z:SV σ):(Qe ok r z).c s=Xu ok (r.map (·.c s)) (z.c s):=by
 unfold Qe Xu;cases ok<;>cases r<;>simp only [Option.map_some,Option.map_none,Option.isSome_some,Option.isSome_none,SV.c,cL,bJ]
def Qh (k:σ->Int) (ok:Bool) (z:SV σ):List Int->List (SV σ)->HR σ
 | a::ks,v::vs => .iff (fun s=>decide (a=k s)) (.ok (Qe ok (some v) z) []) (Qh k ok z ks vs)
 | _,_ => .ok (Qe ok none z) []
theorem Np (s:σ) (k:σ->Int) (ok:Bool) (z:SV σ):∀(ks:List Int) (vs:List (SV σ)),(Qh k ok z ks vs).Ok s (some (Xu ok (pK (k s) ks (cL s vs)) (z.c s),[]))
 | [],vs=>by
   have e:pK (k s) [] (cL s vs)=none:=by cases (cL s vs)<;>rfl
   rw [e];show some (Xu ok none (z.c s),[])=some ((Qe ok none z).c s,cO s []);rw [Qg];rfl
 | a::ks,[]=>by
   show some (Xu ok (pK (k s) (a::ks) (cL s [])) (z.c s),[])=some ((Qe ok none z).c s,cO s []);rw [Qg];rfl
 | a::ks,v::vs=>by
   rw [cL,pK];show bif decide (a=k s) then _ else _;by_cases h:a=k s
   ·rw [decide_eq_true h,if_pos h,cond_true];show some (Xu ok (some (v.c s)) (z.c s),[])=some ((Qe ok (some v) z).c s,cO s []);rw [Qg];rfl
   ·rw [decide_eq_false h,if_neg h,cond_false];exact Np s k ok z ks vs
def eqK (a b:IntKind):Bool:=decide (a=b)
def Qi (T:Ty) (rd:Nat->Option (SO σ)) (t:Nat) (x y:SV σ) (ok:Bool):HR σ :=
 match vW T t,x,Ap y with
 | some (kk,ei),.ptr r _,some (k,f)=>match eqK k kk with
   | true=>match rd r with
     | some (.mp g)=>match SG kk&&EL ei && !ok with
       | true => .ok (.bool fun s=>decide (f s∈g s)) []
       | false => .fail "map: lookup"
     | some (.tab kk' ks vs)=>match eqK kk kk',Qd ei with
       | true,some z=>Qh f ok z ks vs
       | _,_ => .fail "map: lookup in a table"
     | _ => .fail "map: no map"
   | false => .fail "map: key"
 | _,_,_ => .fail "map: type"
theorem YL (s:σ) (T:Ty) (rd:Nat->Option (SO σ)) (t:Nat) (x y:SV σ) (ok:Bool):(Qi T rd t x y ok).Ok s (match vW T t with
 | some (kk,ei)=>(match x.c s,y.c s,fQ ei (ei.zero.map .d) 0 with
   | .ptr r _,.d (.val (.int k n)),some z=>match gu s rd r with
     | some (.mp kk' ks vs)=>if kk=kk'/\k=kk then some (Xu ok (pK n ks vs) z,[]) else none
     | _=>none
   | _,_,_=>none)
 | none=>none):=by
 unfold Qi;split
 ·rename_i kk ei r off k f hK hI;rw [hK,kJ hI];dsimp only;split
  ·rename_i hk;have hk:k=kk:=of_decide_eq_true hk;subst hk;split
   ·rename_i g hr;split
    ·rename_i hc;simp only [Bool.and_eq_true,Bool.not_eq_true'] at hc;obtain ⟨⟨h1,h2⟩,rfl⟩:=hc;rw [Qb h2];simp only [SV.c,dG,gu,hr,Option.map_some,SO.c,Xv,HR.Ok,cO];rw [if_pos ⟨Gn h1,trivial⟩,Jc];by_cases hm:f s∈g s
     ·rw [if_pos hm,decide_eq_true hm];rfl
     ·rw [if_neg hm,decide_eq_false hm];rfl
    ·trivial
   ·rename_i kk' ks vs hr;split
    ·rename_i z he hz;have he:k=kk':=of_decide_eq_true he;subst he;rw [YK s hz];simp only [SV.c,dG,gu,hr,Option.map_some,SO.c];rw [if_pos ⟨trivial,trivial⟩];exact Np s f ok z ks vs
    ·trivial
   ·trivial
  ·trivial
 ·trivial
def isTrue (v:SV σ):Bool:=match v with | .val (.bool true)=>true | _=>false
theorem YM {v:SV σ} (h:isTrue v=true) (s:σ):v.c s = .d (.val (.bool true)):=by
 unfold isTrue at h;split at h
 ·rw [SV.c]
 ·cases h
def afn (v:SV σ):Option (IntKind×Int):=match v with | .val (.int k n)=>some (k,n) | _=>none
theorem afo {v:SV σ} {k:IntKind} {n:Int} (h:afn v=some (k,n)) (s:σ):v.c s=dG k n:=by
 unfold afn at h;split at h
 ·cases h;rw [SV.c];rfl
 ·cases h
theorem YN (s:σ):∀(a b:List (SV σ)),cL s (a++b)=cL s a++cL s b
 | [],b=>by rw [cL];rfl
 | x::a,b=>by rw [List.cons_append,cL,cL,YN s a b];rfl
def SH (T:Ty) (rd:Nat->Option (SO σ)) (t:Nat) (x y z:SV σ):HR σ :=
 match vW T t,x with
 | some (kk,ei),.ptr r _=>match rd r with
   | some (.mp f)=>match isTrue z&&SG kk,Ap y with
     | true,some (k,g)=>match eqK k kk with
       | true => .ok .undef [(r,.mp fun s=>uz (f s) (g s))]
       | false => .fail "map: key"
     | _,_ => .fail "map: update"
   | some (.tab kk' ks vs)=>match afn y with
     | some (k,n)=>match eqK kk kk'&&eqK k kk&&JX (Ib rd) z && !decide (n∈ks) with
       | true => .ok .undef [(r,.tab kk (ks++[n]) (vs++[z]))]
       | false => .fail "map: insert"
     | none => .fail "map: key is no constant"
   | _ => .fail "map: no map"
 | _,_ => .fail "map: type"
theorem SI (s:σ) (T:Ty) (rd:Nat->Option (SO σ)) (t:Nat) (x y z:SV σ):(SH T rd t x y z).Ok s (match vW T t with
 | some (kk,_)=>(match x.c s,y.c s with
   | .ptr r _,.d (.val (.int k n))=>match gu s rd r with
     | some (.mp kk' ks vs)=>if kk=kk'/\k=kk/\sS (kinds (gu s rd)) (z.c s)=true then some (.undef,[(r,.mp kk (uz ks n) (Eh ks n vs (z.c s)))]) else none
     | _=>none
   | _,_=>none)
 | none=>none):=by
 unfold SH;split
 ·rename_i kk ei r off hK;rw [hK];split
  ·rename_i f hr;split
   ·rename_i k g hc hI;rw [Bool.and_eq_true] at hc;split
    ·rename_i hk;have hk:k=kk:=of_decide_eq_true hk;subst hk;rw [kJ hI,YM hc.1];have h64:=Gn hc.2;subst h64;simp only [SV.c,dG,gu,hr,Option.map_some,SO.c,Xv,HR.Ok,cO,sS];rw [if_pos ⟨trivial,trivial,trivial⟩];exact congrArg (fun l=>some (AV.undef,[(r,AO.mp .i64 (uz (f s) (g s)) l)])) (YH (g s) (f s))
    ·trivial
   ·trivial
  ·rename_i kk' ks vs hr;split
   ·rename_i k n hI;split
    ·rename_i hc;simp only [Bool.and_eq_true,Bool.not_eq_true',decide_eq_false_iff_not] at hc;obtain ⟨⟨⟨c1,c2⟩,c3⟩,c4⟩:=hc;have c1:kk=kk':=of_decide_eq_true c1;have c2:k=kk:=of_decide_eq_true c2;subst c1 c2;rw [afo hI];simp only [SV.c,dG,gu,hr,Option.map_some,SO.c,HR.Ok,cO];rw [if_pos ⟨trivial,trivial,by rw [BO,nY];exact c3⟩];unfold uz Eh;rw [if_neg c4,if_neg c4,YN];rfl
    ·trivial
   ·trivial
  ·trivial
 ·trivial
def hS (eg:Nat->Bool) (T:Ty) (rd:Nat->Option (SO σ)) (slot:Nat) (o:Oper) (ρ:Operand->SV σ):HR σ :=
 match o.op with
 | .alloc t=>P6 T rd slot t
 | .box t x=>boxS rd slot (ρ x)
 | .buildSlice t n parts=>Gj T rd slot t n (zl ρ parts)
 | .load t x=>YB T rd t (ρ x)
 | .store t x y=>P5 T rd t (ρ x) (ρ y)
 | .makeMap t none=>Qc T rd slot t
 | .lookup t x y ok=>Qi T rd t (ρ x) (ρ y) ok
 | .mapUpdate t x y z=>SH T rd t (ρ x) (ρ y) (ρ z)
 | .insert t x y z=>SH T rd t (ρ x) (ρ y) (ρ z)
 | .makeSlice t l c=>J4 T rd slot t (OB l c) (ρ l) (ρ c)
 | .convert src dst x=>cvS T rd src dst (ρ x)
 | .call c=>match c.callee with
   | .builtin .append=>match c.args.toList.map ρ with
     | [x,y]=>afh (eg slot) T rd slot c.argTypes[0]? c.argTypes[1]? x y
     | _ => .fail "append: arguments"
   | .builtin .copy=>match c.args.toList.map ρ with
     | [x,y]=>copyS T rd c.argTypes[0]? x y
     | _ => .fail "copy: arguments"
   | _ => .fail "call"
 | _ => .fail "operation"
theorem ak7 (s:σ) (eg:Nat->Bool) (T:Ty) (rd:Nat->Option (SO σ)) (slot:Nat) (o:Oper) (ρ:Operand->SV σ):(hS eg T rd slot o ρ).Ok s (zL T (gu s rd) slot o fun x=>(ρ x).c s):=by
 unfold hS zL;cases ho:o.op with
 | alloc t=>exact YF s T rd slot t
 | box t x=>exact afg s rd slot _
 | buildSlice t n parts =>
   have:=P7 s T rd slot t n (zl ρ parts);have e:((zl ρ parts).map fun p=>(p.1,p.2.c s))=(parts.toList.map fun (j,x)=>(j,(ρ x).c s)):=by unfold zl;rw [List.map_map];rfl
   rw [e] at this;have e2:((parts.toList.map fun ((j,x):Nat×Operand)=>(j,(ρ x).c s)).all fun p=>sS (kinds (gu s rd)) p.2)=(parts.toList.all fun ((_,x):Nat×Operand)=>sS (kinds (gu s rd)) ((ρ x).c s)):=by rw [List.all_map];rfl
   rw [e2] at this;exact this
 | load t x=>exact aby s T rd t _
 | store t x y=>exact YE s T rd t _ _
 | makeMap t r=>cases r with | none=>exact YI s T rd slot t | some r=>trivial
 | lookup t x y ok=>exact YL s T rd t _ _ ok
 | mapUpdate t x y z=>exact SI s T rd t _ _ _
 | insert t x y z=>exact SI s T rd t _ _ _
 | makeSlice t l c=>exact Vp s T rd slot t (OB l c) (ρ l) (ρ c) (fun h=>by rw [abC h])
 | convert src dst x=>exact ajh s T rd src dst _
 | call c =>
   simp only;split
   ·rename_i hc;simp only [hc];split
    ·rename_i x y hxy;have:=afi s (eg slot) T rd slot c.argTypes[0]? c.argTypes[1]? x y;rw [kK,hxy];simp only [cL];cases h1:c.argTypes[0]?.bind T with
     | none=>simp only [h1] at this;exact this
     | some i =>
       cases h2:c.argTypes[1]?.bind T with
       | none=>simp only [h1,h2] at this;exact this
       | some j=>simp only [h1,h2] at this;exact this
    ·trivial
   ·rename_i hc;simp only [hc];split
    ·rename_i x y hxy;rw [kK,hxy];exact abD s T rd c.argTypes[0]? x y
    ·trivial
   ·trivial
 | _=>trivial
end
end Go.Proofs.YtigfeinnobfflaaGreat
