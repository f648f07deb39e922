import Derived.Test.YtkpijdndakljjaaHBp
import Derived.Test.YtkpijdndakljjaaHAp
set_option linter.unusedSimpArgs false
set_option linter.unusedVariables false
namespace Go.Proofs.Ytkpijdndakljjaa
open Go.RowKit
mutual
theorem renV_none {σ:Nat→Nat}:∀(x:AV),x.refs=[]→renV σ x=x
 | .d x,_=>by rw [renV]
 | .ptr r o,h=>by rw [AV.refs] at h;cases h
 | .sl r o n c,h=>by rw [AV.refs] at h;cases h
 | .dptr cs o,_=>by rw [renV]
 | .agg cs,h=>by rw [AV.refs] at h;rw [renV,ren_none h]
 | .tup cs,h=>by rw [AV.refs] at h;rw [renV,ren_none h]
 | .clo f cs,h=>by rw [AV.refs] at h;rw [renV,ren_none h]
 | .undef,_=>by rw [renV]
 | .ab,_=>by rw [renV]
 | .junk,_=>by rw [renV]
theorem ren_none {σ:Nat→Nat}:∀ {xs:List AV},AV.refs.refsL xs=[]→renL σ xs=xs
 | [],_=>by rw [renL]
 | x::xs,h=>by
   rw [AV.refs.refsL,List.append_eq_nil_iff] at h
   rw [renL,renV_none x h.1,ren_none h.2]
end
theorem does_own1 {P:Program} {GL:Nat→Option (List DV)} {f:FuncId} {args:List AV} {n:Nat} {c:Option Nat} {e s:Nat} {cs:List DV} (h:DoesO P GL f args [] (.sl 1 0 n c) [(1,.data e s cs true)]) (hra:AV.refs.refsL args=[]) {rd:Nat→Option AO} {r:Nat} (hr:rd r=none):Does P GL f args [r] (.sl r 0 n c) [(r,.data e s cs true)] rd:=by
 have W:=does_sw [(1,r)] h
 have s1:sw [(1,r)] 1=r:=by simp [sw]
 simp only [renV,renH,renO,s1] at W
 rw [ren_none hra] at W
 refine does_of_O W (fun x hx=>by cases hx) rfl (by rw [hra];rfl) (fun x hx => ?_) rfl
 rcases List.mem_singleton.1 hx with rfl
 exact ⟨by simp,.inl hr⟩
theorem back_nilrow {hp:List (Nat×AO)} {e s:Nat}:Back [] hp [(1,.data e s [] true)] (.sl 1 0 0 none) (.d (.val (.slice none 0 0))):=by
 refine Back.mk (fun _=>none) (fun r o h=>by cases h) ⟨fun r o h => ?_,fun r r' o o' x h1 h2 h3 h4 h5=>by cases h5⟩ ?_
 ·unfold lookF look at h
  split at h
  ·cases h;unfold WkO;rfl
  ·cases h
 ·rw [WkV]
  exact ⟨rfl,.inr (.inl ⟨rfl,rfl,rfl,rfl,rfl⟩)⟩
theorem does_rds {P:Program} {GL:Nat→Option (List DV)} {f:FuncId} {args:List AV} {rds rds':List Nat} {v:AV} {us:List (Nat×AO)} {rd:Nat→Option AO} (h:Does P GL f args rds v us rd) (hs:∀r∈rds,r∈rds'):Does P GL f args rds' v us rd :=
 fun E w vs hr hw hS hrel=>h E w vs (fun r hm=>hr r (hs r hm)) hw hS hrel
theorem doesO_told {P:Program} {GL:Nat→Option (List DV)} {f:FuncId} {fn:Func} {c:Code} (hf:P.funcs[f]? = some fn) (hb:fn.body=some c) {args:List AV} (hn:args.length≤fn.ntmps) {os us:List (Nat×AO)} {x v:AV} {e:Exit} {s':SL}
 (h:To P GL fn.ntmps (lookF os) c ⟨fn.ntmps,argTm 0 args,os⟩ e s') (he:endB e=true) (hx:resA (tiOf P) fn s'=some x) (hbk:Back os s'.hp us v x):DoesO P GL f args os v us:=fun E w vs hE hw hs hrel=>by
 have hlen:=relL_length _ _ hrel
 have hvs:vs.size=args.length:=by rw [←Array.length_toList];exact hlen
 refine calls_of_wp hf hb ?_
 have hS:Sim GL fn.ntmps E {tmps:=vs++Array.replicate (fn.ntmps-vs.size) undef,defers:=[]} w (⟨fn.ntmps,argTm 0 args,os⟩:SL).S:=by
  refine ⟨hw,hE,hs,?_,rfl,fun t => ?_⟩
  ·simp only [Array.size_append,Array.size_replicate];omega
  ·show Rel _ (match look t (argTm 0 args) with | some x=>x | none => .junk) _
   rw [look_argTm]
   simp only [Nat.zero_le,if_true,Nat.sub_zero]
   cases hx:args[t]? with
   | none=>simp only;rw [Rel];trivial
   | some x =>
     obtain ⟨u,h1,h2⟩:=relL_get _ _ t x hrel hx
     have ht:t<vs.size:=by
      have:=(List.getElem?_eq_some_iff.1 h1).1
      simpa using this
     rw [Array.getD_eq_getD_getElem?,Array.getElem?_append_left ht]
     have h1':vs[t]? = some u:=by simpa using h1
     rw [h1']
     exact h2
 refine wp_mono (h E w E _ w hE hS (Along.refl _ _)) fun e1 a' w' ⟨s1,E',⟨h1,h2⟩,h3,h4⟩ => ?_
 subst h1 h2
 obtain ⟨θ,k0,k2,k3⟩:=hbk
 have fin:a'.defers=[]∧∃y,(results fn a'.tmps).run P w' = .ok y w'∧∃u E'',Ending.returned y = .returned u∧w'.heap=E''.h∧E''.hp=lookF us∧SimH GL E''∧Ext E E''∧StepF E w E'' w'∧Rel E'' v u:=by
  obtain ⟨y,g1,g2⟩:=resA_sim h3 hx
  have hp:E'.hp=lookF s'.hp:=h3.hp
  rw [←hp] at k2 k3
  exact ⟨h3.df,y,g1,y,weakE E' θ (lookF us),rfl,h3.h,rfl,weak_simH h3.sim k2,weak_ext0 h4 k2 (fun r o ho=>by rw [hE] at ho;exact k0 r o ho),weak_step k2 h4.fr,weak_rel h3.sim k2 _ _ _ k3 g2⟩
 cases e1 with
 | normal=>exact fin
 | ret=>exact fin
 | exit i=>cases he
 | goto l=>cases he
 | panic ch=>cases he
 | outgrown=>cases he
end Go.Proofs.Ytkpijdndakljjaa
namespace Go.Proofs.Ytkpijdndakljjaa
open Go.RowKit
inductive U where
 | int (k:IntKind) | bool | str | list (t:U) | pair (a b:U) | unit
@[reducible] def U.T:U→Type
  | .int _=>Int
  | .bool=>Bool
  | .str=>List UInt8
  | .list t=>List t.T
  | .pair a b=>a.T×b.T
  | .unit=>Unit
def encU:(t:U)→t.T→List DV
 | .int k,n=>[.val (.int k n)]
 | .bool,b=>[.val (.bool b)]
 | .str,s=>[.val (.string ⟨s.toArray⟩)]
 | .list t,l=>[.dl (l.flatMap (encU t)) l.length none]
 | .pair a b,p=>encU a p.1++encU b p.2
 | .unit,_=>[]
def szU:U→Nat
 | .pair a b=>szU a+szU b
 | .unit=>0
 | _=>1
theorem encU_length:∀(t:U) (x:t.T),(encU t x).length=szU t
 | .int _,_=>rfl
 | .bool,_=>rfl
 | .str,_=>rfl
 | .list _,_=>rfl
 | .pair a b,p=>by show (encU a p.1++encU b p.2).length=szU a+szU b;rw [List.length_append,encU_length a,encU_length b]
 | .unit,_=>rfl
def kindEq (a b:IntKind):Option (PLift (a=b)):=if h:a=b then some ⟨h⟩ else none
def eqU:(a b:U)→Option (PLift (a=b))
 | .int k,.int k'=>match kindEq k k' with | some ⟨h⟩=>some ⟨by rw [h]⟩ | none=>none
 | .bool,.bool=>some ⟨rfl⟩
 | .str,.str=>some ⟨rfl⟩
 | .list t,.list t'=>match eqU t t' with | some ⟨h⟩=>some ⟨by rw [h]⟩ | none=>none
 | .pair a b,.pair a' b'=>match eqU a a',eqU b b' with | some ⟨h⟩,some ⟨k⟩=>some ⟨by rw [h,k]⟩ | _,_=>none
 | .unit,.unit=>some ⟨rfl⟩
 | _,_=>none
def encL (t:U) (l:List t.T):List DV:=l.flatMap (encU t)
theorem encL_length (t:U) (l:List t.T):(encL t l).length=l.length*szU t:=by
 induction l with
 | nil=>simp [encL]
 | cons x l ih =>
   unfold encL at ih ⊢
   rw [List.flatMap_cons,List.length_append,ih,encU_length,List.length_cons,Nat.succ_mul,Nat.add_comm]
theorem encL_append (t:U) (a b:List t.T):encL t (a++b)=encL t a++encL t b:=List.flatMap_append
theorem encL_drop (t:U):∀(n:Nat) (l:List t.T),(encL t l).drop (n*szU t)=encL t (l.drop n)
 | 0,l=>by simp
 | n+1,[]=>by simp [encL]
 | n+1,x::l=>by
   rw [List.drop_succ_cons,←encL_drop t n l,show encL t (x::l)=encU t x++encL t l from List.flatMap_cons,Nat.succ_mul,List.drop_append,encU_length,show n*szU t+szU t-szU t=n*szU t from by omega,List.drop_eq_nil_of_le (by rw [encU_length];omega)]
   rfl
theorem encL_take (t:U):∀(n:Nat) (l:List t.T),(encL t l).take (n*szU t)=encL t (l.take n)
 | 0,l=>by simp [encL]
 | n+1,[]=>by simp [encL]
 | n+1,x::l=>by
   rw [List.take_succ_cons,show encL t (x::l)=encU t x++encL t l from List.flatMap_cons,show encL t (x::l.take n)=encU t x++encL t (l.take n) from List.flatMap_cons,←encL_take t n l,Nat.succ_mul,List.take_append,encU_length,show n*szU t+szU t-szU t=n*szU t from by omega,List.take_of_length_le (by rw [encU_length];omega)]
theorem encL_get (t:U) {l:List t.T} {j:Nat} {x:t.T} (h:l[j]? = some x):(encL t l).drop (j*szU t)=encU t x++encL t (l.drop (j+1)):=by
 obtain ⟨hj,rfl⟩:=List.getElem?_eq_some_iff.1 h
 rw [encL_drop,List.drop_eq_getElem_cons hj]
 exact List.flatMap_cons
theorem encL_cell (t:U) {l:List t.T} {j:Nat} {x:t.T} (h:l[j]? = some x) {o:Nat} (ho:o<szU t):(encL t l)[j*szU t+o]? = (encU t x)[o]? := by
 rw [←List.getElem?_drop,encL_get t h,List.getElem?_append_left (by rw [encU_length];exact ho)]
inductive Cp (σ:Type):Type where
 | unk | full | fn (c:σ→Nat)
inductive SV (σ:Type):Type where
 | val (v:Value)
 | int (k:IntKind) (f:σ→Int)
 | bool (f:σ→Bool)
 | str (f:σ→List UInt8)
 | lst (t:U) (f:σ→List t.T)
 | ptr (r off:Nat)
 | ptx (r z:Nat) (j:σ→Nat) (off:Nat)
 | sl (r z:Nat) (o:Option (σ→Nat)) (n:σ→Nat) (cap:Cp σ)
 | dpt (t:U) (f:σ→List t.T) (j:σ→Nat) (off:Nat)
 | agg (cs:List (SV σ))
 | tup (cs:List (SV σ))
 | clo (f:Nat) (cs:List (SV σ))
 | undef | junk
inductive SO (σ:Type):Type where
 | data (e:Nat) (t:U) (f:σ→List t.T) (wr:Bool)
 | arr (t:U) (f:σ→List t.T)
 | mix (cs:List (SV σ))
 | mp (f:σ→List (List UInt8))
 | dead
structure SS (σ:Type):Type where
 tm:List (Nat×SV σ)
 hp:List (Nat×SO σ)
section
variable {σ σ':Type} (g:σ'→σ)
def mapN (o:Option (σ→Nat)):Option (σ'→Nat):=match o with | some o=>some fun s=>o (g s) | none=>none
def mapC (c:Cp σ):Cp σ':=match c with | .unk => .unk | .full => .full | .fn c => .fn fun s=>c (g s)
mutual
def SV.map:SV σ→SV σ'
 | .val v => .val v
 | .int k f => .int k fun s=>f (g s)
 | .bool f => .bool fun s=>f (g s)
 | .str f => .str fun s=>f (g s)
 | .lst t f => .lst t fun s=>f (g s)
 | .ptr r off => .ptr r off
 | .ptx r z j off => .ptx r z (fun s=>j (g s)) off
 | .sl r z o n cap => .sl r z (mapN g o) (fun s=>n (g s)) (mapC g cap)
 | .dpt t f j off => .dpt t (fun s=>f (g s)) (fun s=>j (g s)) off
 | .agg cs => .agg (mapL cs)
 | .tup cs => .tup (mapL cs)
 | .clo f cs => .clo f (mapL cs)
 | .undef => .undef
 | .junk => .junk
def mapL:List (SV σ)→List (SV σ')
 | []=>[]
 | x::l=>x.map::mapL l
end
def SO.map:SO σ→SO σ'
 | .data e t f wr => .data e t (fun s=>f (g s)) wr
 | .arr t f => .arr t fun s=>f (g s)
 | .mix cs => .mix (mapL g cs)
 | .mp f => .mp fun s=>f (g s)
 | .dead => .dead
def mapT:List (Nat×SV σ)→List (Nat×SV σ')
 | []=>[]
 | (t,v)::l=>(t,v.map g)::mapT l
def mapO:List (Nat×SO σ)→List (Nat×SO σ')
 | []=>[]
 | (t,v)::l=>(t,v.map g)::mapO l
def SS.map (d:SS σ):SS σ':=⟨mapT g d.tm,mapO g d.hp⟩
end
section
variable {σ σ':Type} (s:σ)
def oOf (o:Option (σ→Nat)):Nat:=match o with | some f=>f s | none=>0
def cOf (o:Option (σ→Nat)):Option Nat:=match o with | some f=>some (f s) | none=>none
def cpOf (n:Nat) (c:Cp σ):Option Nat:=match c with | .unk=>none | .full=>some n | .fn c=>some (c s)
mutual
def SV.c:SV σ→AV
 | .val v => .d (.val v)
 | .int k f=>aInt k (f s)
 | .bool f=>aBool (f s)
 | .str f => .d (.val (.string ⟨(f s).toArray⟩))
 | .lst t f => .d (.dl (encL t (f s)) (f s).length none)
 | .ptr r off => .ptr r off
 | .ptx r z j off => .ptr r (j s*z+off)
 | .sl r z o n cap => .sl r (oOf s o*z) (n s) (cpOf s (n s) cap)
 | .dpt t f j off => .dptr (encL t (f s)) (j s*szU t+off)
 | .agg cs => .agg (cL cs)
 | .tup cs => .tup (cL cs)
 | .clo f cs => .clo f (cL cs)
 | .undef => .undef
 | .junk => .junk
def cL:List (SV σ)→List AV
 | []=>[]
 | x::l=>x.c::cL l
end
def SO.c:SO σ→AO
 | .data e t f wr => .data e (szU t) (encL t (f s)) wr
 | .arr t f => .mix ((encL t (f s)).map .d)
 | .mix cs => .mix (cL s cs)
 | .mp f => .mp (f s)
 | .dead => .dead
def cT:List (Nat×SV σ)→List (Nat×AV)
 | []=>[]
 | (t,v)::l=>(t,v.c s)::cT l
def cO:List (Nat×SO σ)→List (Nat×AO)
 | []=>[]
 | (t,v)::l=>(t,v.c s)::cO l
def SS.c (N:Nat) (d:SS σ):SL:=⟨N,cT s d.tm,cO s d.hp⟩
end
section
variable {σ σ':Type} (g:σ'→σ) (s:σ')
mutual
theorem map_c:∀v:SV σ,(v.map g).c s=v.c (g s)
 | .val v=>by rw [SV.map,SV.c,SV.c]
 | .int k f=>by rw [SV.map,SV.c,SV.c]
 | .bool f=>by rw [SV.map,SV.c,SV.c]
 | .str f=>by rw [SV.map,SV.c,SV.c]
 | .lst t f=>by rw [SV.map,SV.c,SV.c]
 | .ptr r off=>by rw [SV.map,SV.c,SV.c]
 | .ptx r z j off=>by rw [SV.map,SV.c,SV.c]
 | .sl r z o n cap=>by rw [SV.map,SV.c,SV.c];cases o<;>cases cap<;>rfl
 | .dpt t f j off=>by rw [SV.map,SV.c,SV.c]
 | .agg cs=>by rw [SV.map,SV.c,SV.c,mapL_c cs]
 | .tup cs=>by rw [SV.map,SV.c,SV.c,mapL_c cs]
 | .clo f cs=>by rw [SV.map,SV.c,SV.c,mapL_c cs]
 | .undef=>by rw [SV.map,SV.c,SV.c]
 | .junk=>by rw [SV.map,SV.c,SV.c]
theorem mapL_c:∀l:List (SV σ),cL s (mapL g l)=cL (g s) l
 | []=>by rw [mapL,cL,cL]
 | x::l=>by rw [mapL,cL,cL,map_c x,mapL_c l]
end
theorem mapO_c (o:SO σ):(o.map g).c s=o.c (g s):=by
 cases o with
 | data e t f wr=>rfl
 | arr t f=>rfl
 | mix cs=>show AO.mix _=AO.mix _;rw [mapL_c]
 | mp f=>rfl
 | dead=>rfl
theorem mapT_c:∀l:List (Nat×SV σ),cT s (mapT g l)=cT (g s) l
 | []=>rfl
 | (t,v)::l=>by rw [mapT,cT,cT,map_c,mapT_c l]
theorem mapOs_c:∀l:List (Nat×SO σ),cO s (mapO g l)=cO (g s) l
 | []=>rfl
 | (t,v)::l=>by rw [mapO,cO,cO,mapO_c,mapOs_c l]
theorem mapS_c (N:Nat) (d:SS σ):(d.map g).c s N=d.c (g s) N:=by unfold SS.map SS.c;rw [mapT_c,mapOs_c]
end
section
variable {σ:Type} (s:σ)
theorem cL_map:∀l:List (SV σ),cL s l=l.map (·.c s)
 | []=>rfl
 | x::l=>by rw [cL,cL_map l];rfl
theorem cL_length (l:List (SV σ)):(cL s l).length=l.length:=by rw [cL_map,List.length_map]
theorem cL_append (a b:List (SV σ)):cL s (a++b)=cL s a++cL s b:=by rw [cL_map,cL_map,cL_map,List.map_append]
theorem cL_drop (n:Nat) (a:List (SV σ)):cL s (a.drop n)=(cL s a).drop n:=by rw [cL_map,cL_map,List.map_drop]
theorem cL_take (n:Nat) (a:List (SV σ)):cL s (a.take n)=(cL s a).take n:=by rw [cL_map,cL_map,List.map_take]
theorem cL_get (a:List (SV σ)) (i:Nat):(cL s a)[i]? = a[i]?.map (·.c s):=by rw [cL_map,List.getElem?_map]
theorem cT_append:∀(a b:List (Nat×SV σ)),cT s (a++b)=cT s a++cT s b
 | [],b=>rfl
 | (t,v)::a,b=>by rw [List.cons_append,cT,cT,cT_append a b];rfl
theorem cO_append:∀(a b:List (Nat×SO σ)),cO s (a++b)=cO s a++cO s b
 | [],b=>rfl
 | (t,v)::a,b=>by rw [List.cons_append,cO,cO,cO_append a b];rfl
theorem look_cT (k:Nat):∀l:List (Nat×SV σ),look k (cT s l)=(look k l).map (·.c s)
 | []=>rfl
 | (i,x)::l=>by
   rw [cT,look,look]
   by_cases h:i=k
   ·rw [if_pos h,if_pos h];rfl
   ·rw [if_neg h,if_neg h,look_cT k l]
theorem look_cO (k:Nat):∀l:List (Nat×SO σ),look k (cO s l)=(look k l).map (·.c s)
 | []=>rfl
 | (i,x)::l=>by
   rw [cO,look,look]
   by_cases h:i=k
   ·rw [if_pos h,if_pos h];rfl
   ·rw [if_neg h,if_neg h,look_cO k l]
end
section
variable {σ:Type}
def unU:(t:U)→(σ→t.T)→List (SV σ)
 | .int k,f=>[.int k f]
 | .bool,f=>[.bool f]
 | .str,f=>[.str f]
 | .list t,f=>[.lst t f]
 | .pair a b,f=>unU a (fun s=>(f s).1)++unU b (fun s=>(f s).2)
 | .unit,_=>[]
theorem unU_c (s:σ):∀(t:U) (f:σ→t.T),cL s (unU t f)=(encU t (f s)).map .d
 | .int k,f=>rfl
 | .bool,f=>rfl
 | .str,f=>rfl
 | .list t,f=>rfl
 | .pair a b,f=>by
   show cL s (unU a _++unU b _)=(encU a (f s).1++encU b (f s).2).map .d
   rw [cL_append,unU_c s a,unU_c s b,List.map_append]
 | .unit,f=>rfl
theorem unU_length:∀(t:U) (f:σ→t.T),(unU t f).length=szU t
 | .int k,f=>rfl
 | .bool,f=>rfl
 | .str,f=>rfl
 | .list t,f=>rfl
 | .pair a b,f=>by show (unU a _++unU b _).length=szU a+szU b;rw [List.length_append,unU_length a,unU_length b]
 | .unit,f=>rfl
def asI (v:SV σ):Option (IntKind×(σ→Int)) :=
 match v with
 | .val (.int k n)=>some (k,fun _=>n)
 | .int k f=>some (k,f)
 | _=>none
theorem asI_c {v:SV σ} {k:IntKind} {f:σ→Int} (h:asI v=some (k,f)) (s:σ):v.c s=aInt k (f s):=by
 unfold asI at h
 split at h
 ·cases h;rw [SV.c];rfl
 ·cases h;rw [SV.c]
 ·cases h
def asB (v:SV σ):Option (σ→Bool) :=
 match v with
 | .val (.bool b)=>some (fun _=>b)
 | .bool f=>some f
 | _=>none
theorem asB_c {v:SV σ} {f:σ→Bool} (h:asB v=some f) (s:σ):v.c s=aBool (f s):=by
 unfold asB at h
 split at h
 ·cases h;rw [SV.c];rfl
 ·cases h;rw [SV.c]
 ·cases h
def asS (v:SV σ):Option (σ→List UInt8) :=
 match v with
 | .val (.string b)=>some (fun _=>b.data.toList)
 | .str f=>some f
 | _=>none
theorem asS_c {v:SV σ} {f:σ→List UInt8} (h:asS v=some f) (s:σ):v.c s = .d (.val (.string ⟨(f s).toArray⟩)):=by
 unfold asS at h
 split at h
 ·cases h;rw [SV.c]
 ·cases h;rw [SV.c]
 ·cases h
end
end Go.Proofs.Ytkpijdndakljjaa
namespace Go.Proofs.Ytkpijdndakljjaa
open Go.RowKit
section
variable {σ:Type}
mutual
def SV.refs:SV σ→List Nat
 | .val _=>[]
 | .int _ _=>[]
 | .bool _=>[]
 | .str _=>[]
 | .lst _ _=>[]
 | .ptr r _=>[r]
 | .ptx r _ _ _=>[r]
 | .sl r _ _ _ _=>[r]
 | .dpt _ _ _ _=>[]
 | .agg cs=>refsS cs
 | .tup cs=>refsS cs
 | .clo _ cs=>refsS cs
 | .undef=>[]
 | .junk=>[]
def refsS:List (SV σ)→List Nat
 | []=>[]
 | x::xs=>x.refs++refsS xs
end
theorem refs_d (x:DV):(AV.d x).refs=[]:=by simp [AV.refs]
mutual
theorem refs_c (s:σ):∀v:SV σ,(v.c s).refs=v.refs
 | .ptr r off=>by rw [SV.c,SV.refs,AV.refs]
 | .ptx r z j off=>by rw [SV.c,SV.refs,AV.refs]
 | .sl r z o n cap=>by rw [SV.c,SV.refs,AV.refs]
 | .agg cs=>by rw [SV.c,SV.refs,AV.refs,refsL_c s cs]
 | .tup cs=>by rw [SV.c,SV.refs,AV.refs,refsL_c s cs]
 | .clo f cs=>by rw [SV.c,SV.refs,AV.refs,refsL_c s cs]
 | .val v=>by rw [SV.c,SV.refs,refs_d]
 | .int k f=>by rw [SV.c,SV.refs];exact refs_d _
 | .bool f=>by rw [SV.c,SV.refs];exact refs_d _
 | .str f=>by rw [SV.c,SV.refs,refs_d]
 | .lst t f=>by rw [SV.c,SV.refs,refs_d]
 | .dpt t f j off=>by rw [SV.c,SV.refs];simp [AV.refs]
 | .undef=>by rw [SV.c,SV.refs];simp [AV.refs]
 | .junk=>by rw [SV.c,SV.refs];simp [AV.refs]
theorem refsL_c (s:σ):∀l:List (SV σ),AV.refs.refsL (cL s l)=refsS l
 | []=>by rw [cL,AV.refs.refsL,refsS]
 | x::l=>by rw [cL,AV.refs.refsL,refsS,refs_c s x,refsL_c s l]
end
def SV.cells:SV σ→List (SV σ)
 | .agg cs=>cs
 | x=>[x]
theorem cells_c (s:σ) (v:SV σ):cL s v.cells=(v.c s).cellsOf:=by
 cases v<;>simp [SV.cells,SV.c,AV.cellsOf,cL,aInt,aBool]
def SO.kind:SO σ→AK
 | .data _ t _ _ => .data (szU t)
 | .arr _ _ => .mix
 | .mix _ => .mix
 | .mp _ => .mp
 | .dead => .dead
theorem kind_c (s:σ) (o:SO σ):(o.c s).kind=o.kind:=by cases o<;>rfl
def isVS (lk:Nat→Option AK):SV σ→Bool
 | .ptr r _=>liveK lk r
 | .ptx r _ _ _=>liveK lk r
 | .sl r _ _ _ _=>liveK lk r
 | .tup _=>false
 | .undef=>false
 | .junk=>false
 | _=>true
theorem isVS_c (lk:Nat→Option AK) (s:σ) (v:SV σ):isV lk (v.c s)=isVS lk v:=by
 cases v<;>simp [isVS,SV.c,isV,aInt,aBool]
def fillS (place:Nat→Option (Nat×Nat)):List (SV σ)→List (Nat×SV σ)→Option (List (SV σ))
 | cs,[]=>some cs
 | cs,(i,v)::rest=>match place i with
   | none=>none
   | some (off,size)=>match decide (v.cells.length=size∧off+size≤cs.length) with
     | true=>fillS place (splice cs off v.cells) rest
     | false=>none
theorem splice_map {α β:Type} (f:α→β):∀(l:List α) (o:Nat) (new:List α),(splice l o new).map f=splice (l.map f) o (new.map f)
 | l,0,new=>by rw [splice,splice,List.map_append,List.map_drop,List.length_map]
 | [],o+1,new=>by rw [splice,List.map_nil,splice]
 | x::l,o+1,new=>by rw [splice,List.map_cons,List.map_cons,splice,splice_map f l o new]
theorem fillS_c (s:σ) (place:Nat→Option (Nat×Nat)):∀(parts:List (Nat×SV σ)) (cs r:List (SV σ)),fillS place cs parts=some r→fillA place (cL s cs) (parts.map fun p=>(p.1,p.2.c s))=some (cL s r)
 | [],cs,r,h=>by rw [fillS] at h;cases h;rw [List.map_nil,fillA]
 | (i,v)::parts,cs,r,h=>by
   rw [fillS] at h
   rw [List.map_cons,fillA]
   cases hp:place i with
   | none=>rw [hp] at h;cases h
   | some p =>
     rw [hp] at h
     simp only at h ⊢
     split at h
     ·rename_i hd
      have hd:=of_decide_eq_true hd
      have e:cL s (splice cs p.1 v.cells)=splice (cL s cs) p.1 (v.c s).cellsOf:=by rw [cL_map,splice_map,←cL_map,←cL_map,cells_c]
      rw [←cells_c s v,cL_length,cL_length,if_pos hd,cells_c,←e]
      exact fillS_c s place parts _ r h
     ·cases h
def partS (i:TI) (cs:List (SV σ)) (off:Nat):Option (SV σ) :=
 match i.k.isAgg with
 | true=>match decide (off+i.size≤cs.length) with
   | true=>some (.agg ((cs.drop off).take i.size))
   | false=>none
 | false=>cs[off]?
theorem partS_c (s:σ) {i:TI} {cs:List (SV σ)} {off:Nat} {v:SV σ} (h:partS i cs off=some v):partA i (cL s cs) off=some (v.c s):=by
 unfold partS at h
 unfold partA
 split at h
 ·rename_i hk
  split at h
  ·rename_i hd
   cases h
   rw [if_pos hk,if_pos (by rw [cL_length];exact of_decide_eq_true hd),SV.c,cL_take,cL_drop]
  ·cases h
 ·rename_i hk
  rw [if_neg (by rw [hk];simp),cL_get,h];rfl
def zeroS:List DV→Option (List (SV σ))
 | []=>some []
 | .val v::l=>match zeroS l with | some r=>some (.val v::r) | none=>none
 | _::_=>none
theorem zeroS_c (s:σ):∀ {l:List DV} {r:List (SV σ)},zeroS l=some r→cL s r=l.map .d
 | [],r,h=>by rw [zeroS] at h;cases h;rfl
 | .val v::l,r,h=>by
   rw [zeroS] at h
   split at h
   ·rename_i r' hr
    cases h
    rw [cL,zeroS_c s hr,SV.c];rfl
   ·cases h
 | .dl _ _ _::l,r,h=>by rw [zeroS] at h;cases h;simp
def arS (op:BinOp) (k k':IntKind) (f g:σ→Int):Option (List (σ→Bool)×SV σ) :=
 match op with
 | .shl=>some ([fun s=>decide (0≤g s)],.int k fun s=>k.wrap (f s*2 ^ min (g s).toNat k.bits))
 | .shr=>some ([fun s=>decide (0≤g s)],.int k fun s=>(f s).fdiv (2 ^ min (g s).toNat k.bits))
 | op=>match kindEq k k' with
   | none=>none
   | some _=>match op with
     | .add=>some ([],.int k fun s=>k.wrap (f s+g s))
     | .sub=>some ([],.int k fun s=>k.wrap (f s-g s))
     | .mul=>some ([],.int k fun s=>k.wrap (f s*g s))
     | .quo=>some ([fun s=>decide (g s≠0)],.int k fun s=>k.wrap ((f s).tdiv (g s)))
     | .rem=>some ([fun s=>decide (g s≠0)],.int k fun s=>(f s).tmod (g s))
     | .and=>some ([],.int k fun s=>k.wrap (BitVec.ofInt k.bits (f s) &&& BitVec.ofInt k.bits (g s)).toNat)
     | .or=>some ([],.int k fun s=>k.wrap (BitVec.ofInt k.bits (f s) ||| BitVec.ofInt k.bits (g s)).toNat)
     | .xor=>some ([],.int k fun s=>k.wrap (BitVec.ofInt k.bits (f s) ^^^ BitVec.ofInt k.bits (g s)).toNat)
     | .andNot=>some ([],.int k fun s=>k.wrap (BitVec.ofInt k.bits (f s) &&& ~~~BitVec.ofInt k.bits (g s)).toNat)
     | .eql=>some ([],.bool fun s=>decide (f s=g s))
     | .neq=>some ([],.bool fun s=>decide (f s≠g s))
     | .lss=>some ([],.bool fun s=>decide (f s<g s))
     | .leq=>some ([],.bool fun s=>decide (f s≤g s))
     | .gtr=>some ([],.bool fun s=>decide (f s > g s))
     | .geq=>some ([],.bool fun s=>decide (f s≥g s))
     | _=>none
def allT (s:σ):List (σ→Bool)→Prop
 | []=>True
 | c::cs=>c s=true∧allT s cs
theorem allT_append (s:σ):∀(a b:List (σ→Bool)),allT s (a++b)↔allT s a∧allT s b
 | [],b=>by simp [allT]
 | c::a,b=>by rw [List.cons_append,allT,allT,allT_append s a b,and_assoc]
theorem arS_c (s:σ) {op:BinOp} {k k':IntKind} {f g:σ→Int} {cs:List (σ→Bool)} {v:SV σ} (h:arS op k k' f g=some (cs,v)) (hc:allT s cs):(binV op (.int k (f s)) (.int k' (g s))).map (fun v=>AV.d (.val v))=some (v.c s):=by
 unfold arS at h
 split at h
 ·cases h;simp only [allT,decide_eq_true_eq] at hc;simp only [binV,if_pos hc.1];rw [SV.c];rfl
 ·cases h;simp only [allT,decide_eq_true_eq] at hc;simp only [binV,if_pos hc.1];rw [SV.c];rfl
 ·rename_i n1 n2
  split at h
  ·cases h
  ·rename_i hk _
   obtain ⟨hk⟩:=hk
   subst hk
   split at h
   all_goals first
    | (cases h;done)
    | (cases h;simp only [allT,decide_eq_true_eq,ne_eq] at hc;simp only [binV,if_true,if_neg hc.1];rw [SV.c];rfl)
    | (cases h;simp only [binV,if_true];rw [SV.c];first | rfl | (simp only [aBool,Option.map_some];congr 4;first | rfl | (rw [Bool.eq_iff_iff];simp)))
def stS (op:BinOp) (f g:σ→List UInt8):Option (List (σ→Bool)×SV σ) :=
 match op with
 | .eql=>some ([],.bool fun s=>decide (f s=g s))
 | .neq=>some ([],.bool fun s=>decide (f s≠g s))
 | .lss=>some ([],.bool fun s=>Op.bytesLess (f s) (g s))
 | .leq=>some ([],.bool fun s=>Op.bytesLess (f s) (g s)||decide (f s=g s))
 | .gtr=>some ([],.bool fun s => !(Op.bytesLess (f s) (g s)||decide (f s=g s)))
 | .geq=>some ([],.bool fun s => !Op.bytesLess (f s) (g s))
 | .add=>some ([fun s=>decide ((f s).length+(g s).length≤9223372036854775807)],.str fun s=>f s++g s)
 | _=>none
theorem toListB (l:List UInt8):(⟨l.toArray⟩:ByteArray).toList=l:=by rw [ByteArray.toList_eq]
theorem strAdd (a b:List UInt8):(⟨a.toArray⟩:ByteArray)++⟨b.toArray⟩=⟨(a++b).toArray⟩:=by
 apply ByteArray.ext
 simp
theorem strFit (a b:List UInt8) (h:a.length+b.length≤9223372036854775807):(((⟨a.toArray⟩:ByteArray).size+(⟨b.toArray⟩:ByteArray).size:Nat):Int)≤IntKind.i64.max:=by
 show ((a.toArray.size+b.toArray.size:Nat):Int)≤9223372036854775807
 simp only [List.size_toArray]
 omega
theorem stS_c (s:σ) {op:BinOp} {f g:σ→List UInt8} {cs:List (σ→Bool)} {v:SV σ} (h:stS op f g=some (cs,v)) (hc:allT s cs):(binV op (.string ⟨(f s).toArray⟩) (.string ⟨(g s).toArray⟩)).map (fun v=>AV.d (.val v))=some (v.c s):=by
 unfold stS at h
 split at h
 all_goals first
  | (cases h;done)
  | (cases h;simp only [allT,decide_eq_true_eq] at hc;simp only [binV,if_pos (strFit _ _ hc.1),Option.map_some,strAdd];rw [SV.c];done)
  | (cases h;simp only [binV,toListB,Option.map_some];rw [SV.c];refine congrArg (fun b=>some (AV.d (DV.val (Value.bool b)))) ?_;first | rfl | (rw [Bool.eq_iff_iff];simp))
end
end Go.Proofs.Ytkpijdndakljjaa
namespace Go.Proofs.Ytkpijdndakljjaa
open Go.RowKit
section
variable {σ:Type}
abbrev QR (σ:Type):=Option (List (σ→Bool)×SV σ)
def OkQ (s:σ) (r:QR σ) (x:Option AV):Prop:=∀cs v,r=some (cs,v)→allT s cs→x=some (v.c s)
theorem OkQ.none {s:σ} {x:Option AV}:OkQ s none x:=fun _ _ h=>by cases h
theorem OkQ.pure {s:σ} {v:SV σ} {x:Option AV} (h:x=some (v.c s)):OkQ s (some ([],v)) x:=fun _ _ e _=>by cases e;exact h
def pickS (c a b:SV σ):QR σ :=
 match c with
 | .val (.bool true)=>some ([],a)
 | .val (.bool false)=>some ([],b)
 | .bool f=>match asB a,asB b with
   | some x,some y=>some ([],.bool fun s=>bif f s then x s else y s)
   | _,_=>match asI a,asI b with
     | some (k,x),some (k',y)=>match kindEq k k' with
       | some _=>some ([],.int k fun s=>bif f s then x s else y s)
       | none=>none
     | _,_=>match asS a,asS b with
       | some x,some y=>some ([],.str fun s=>bif f s then x s else y s)
       | _,_=>none
 | _=>none
theorem pick_bif (c:Bool) (x y:AV):(match x,y with
 | .d (.val (.bool a)),.d (.val (.bool b))=>some (aBool (bif c then a else b))
 | _,_=>some (bif c then x else y))=some (bif c then x else y):=by
 split
 ·cases c<;>rfl
 ·rfl
theorem pickS_c (s:σ) (c a b:SV σ):OkQ s (pickS c a b) (match c.c s with
 | .d (.val (.bool c))=>match a.c s,b.c s with
   | .d (.val (.bool a)),.d (.val (.bool b))=>some (aBool (bif c then a else b))
   | _,_=>some (bif c then a.c s else b.c s)
 | _=>none):=by
 unfold pickS
 split
 ·refine OkQ.pure ?_;rw [SV.c];simp only;rw [pick_bif];rfl
 ·refine OkQ.pure ?_;rw [SV.c];simp only;rw [pick_bif];rfl
 ·rename_i f
  rw [SV.c];simp only [aBool]
  rw [show (match a.c s,b.c s with
   | .d (.val (.bool a)),.d (.val (.bool b))=>some (AV.d (.val (.bool (bif f s then a else b))))
   | _,_=>some (bif f s then a.c s else b.c s))=some (bif f s then a.c s else b.c s) from pick_bif (f s) _ _]
  split
  ·rename_i x y hx hy
   refine OkQ.pure ?_
   rw [asB_c hx,asB_c hy,SV.c];cases f s<;>rfl
  ·split
   ·rename_i k x k' y hx hy
    split
    ·rename_i hk _;obtain ⟨hk⟩:=hk;subst hk
     refine OkQ.pure ?_
     rw [asI_c hx,asI_c hy,SV.c];cases f s<;>rfl
    ·exact OkQ.none
   ·split
    ·rename_i x y hx hy
     refine OkQ.pure ?_
     rw [asS_c hx,asS_c hy,SV.c];cases f s<;>rfl
    ·exact OkQ.none
 ·exact OkQ.none
def partsS (ρ:Operand→SV σ) (parts:Array (Nat×Operand)):List (Nat×SV σ):=parts.toList.map fun p=>(p.1,ρ p.2)
def buildS (T:Ty) (lk:Nat→Option AK) (t:Nat) (ps:List (Nat×SV σ)):QR σ :=
 match T t with
 | none=>none
 | some i=>match ps.all fun p=>isVS lk p.2 with
   | false=>none
   | true=>match zeroS i.zero with
     | none=>none
     | some z=>match i.k with
       | .agg fs=>match placesA T fs with
         | some pl=>match fillS (fun j=>pl[j]?) z ps with | some r=>some ([],.agg r) | none=>none
         | none=>none
       | .arr n e=>match T e with
         | some ei=>match fillS (fun j=>some (j*ei.size,ei.size)) z ps with | some r=>some ([],.agg r) | none=>none
         | none=>none
       | _=>none
def eqLS (k:AT) (x y:SV σ):Option (σ→Bool) :=
 match k with
 | .int _=>match asI x,asI y with
   | some (k,f),some (k',g)=>match kindEq k k' with | some _=>some fun s=>decide (f s=g s) | none=>none
   | _,_=>none
 | .bool=>match asB x,asB y with | some f,some g=>some fun s=>f s==g s | _,_=>none
 | .str=>match asS x,asS y with | some f,some g=>some fun s=>decide (f s=g s) | _,_=>none
 | _=>none
theorem eqLS_c (s:σ) {k:AT} {x y:SV σ} {f:σ→Bool} (h:eqLS k x y=some f):eqLeaf k (x.c s) (y.c s)=some (f s):=by
 unfold eqLS at h
 split at h
 ·split at h
  ·rename_i k f k' g hx hy
   split at h
   ·rename_i hk _;obtain ⟨hk⟩:=hk;subst hk
    cases h
    rw [asI_c hx,asI_c hy]
    simp only [aInt,eqLeaf,if_true,Option.some.injEq]
    rw [Bool.eq_iff_iff];simp
   ·cases h
  ·cases h
 ·split at h
  ·rename_i f g hx hy
   cases h
   rw [asB_c hx,asB_c hy];rfl
  ·cases h
 ·split at h
  ·rename_i f g hx hy
   cases h
   rw [asS_c hx,asS_c hy]
   simp only [eqLeaf,toListB,Option.some.injEq]
   rw [Bool.eq_iff_iff];simp
  ·cases h
 ·cases h
def andS (a b:σ→Bool):σ→Bool:=fun s=>a s&&b s
def eqS (T:Ty) (q:Nat→Bool):Nat→Nat→List (SV σ)→List (SV σ)→Option (σ→Bool)
 | 0,_,_,_=>none
 | n+1,t,xs,ys=>match T t with
   | none=>none
   | some i=>match i.k with
     | .agg fs=>match q t with
       | true=>eqFS T (eqS T q n) fs xs ys
       | false=>none
     | _=>none
where eqFS (T:Ty) (sub:Nat→List (SV σ)→List (SV σ)→Option (σ→Bool)):List (Nat×Nat)→List (SV σ)→List (SV σ)→Option (σ→Bool)
 | [],_,_=>some fun _=>true
 | (o,ft)::fs,xs,ys=>match T ft with
   | none=>none
   | some fi=>match (match fi.k.leaf with
      | true=>(match xs[o]?,ys[o]? with
        | some x,some y=>eqLS fi.k x y
        | _,_=>none)
      | false=>sub ft ((xs.drop o).take fi.size) ((ys.drop o).take fi.size)) with
     | none=>none
     | some a=>match fs with
       | []=>some a
       | _=>match eqFS T sub fs xs ys with
         | some b=>some (andS a b)
         | none=>none
theorem eqFS_c (s:σ) (T:Ty) (q:Nat→Bool) {sub:Nat→List (SV σ)→List (SV σ)→Option (σ→Bool)} {subA:Nat→List AV→List AV→Option Bool}
 (hs:∀t xs ys f,sub t xs ys=some f→subA t (cL s xs) (cL s ys)=some (f s)):∀(fs:List (Nat×Nat)) (xs ys:List (SV σ)) (f:σ→Bool),eqS.eqFS T sub fs xs ys=some f→eqA.eqF T q subA fs (cL s xs) (cL s ys)=some (f s)
 | [],xs,ys,f,h=>by rw [eqS.eqFS] at h;cases h;rw [eqA.eqF]
 | (o,ft)::fs,xs,ys,f,h=>by
   rw [eqS.eqFS] at h
   rw [eqA.eqF]
   cases hT:T ft with
   | none=>rw [hT] at h;cases h
   | some fi =>
     rw [hT] at h
     simp only at h ⊢
     have key:∀a,(match fi.k.leaf with
      | true=>(match xs[o]?,ys[o]? with
        | some x,some y=>eqLS fi.k x y
        | _,_=>none)
      | false=>sub ft ((xs.drop o).take fi.size) ((ys.drop o).take fi.size))=some a→(if fi.k.leaf then (match (cL s xs)[o]?,(cL s ys)[o]? with
      | some x,some y=>eqLeaf fi.k x y
      | _,_=>none) else subA ft (((cL s xs).drop o).take fi.size) (((cL s ys).drop o).take fi.size))=some (a s):=fun a ha=>by
      split at ha
      ·rename_i hl
       rw [if_pos hl]
       split at ha
       ·rename_i x y hx hy
        rw [cL_get,cL_get,hx,hy]
        exact eqLS_c s ha
       ·cases ha
      ·rename_i hl
       rw [if_neg (by rw [hl];simp),←cL_drop,←cL_take,←cL_drop,←cL_take]
       exact hs _ _ _ _ ha
     split at h
     ·cases h
     ·rename_i a ha
      refine (congrArg (fun z:Option Bool=>match z,eqA.eqF T q subA fs (cL s xs) (cL s ys) with | some a,some b=>some (a&&b) | _,_=>none) (key a ha)).trans ?_
      split at h
      ·cases h;rw [eqA.eqF];simp
      ·rename_i fs' hne
       split at h
       ·rename_i b hb
        cases h
        rw [eqFS_c s T q hs _ xs ys b hb]
        rfl
       ·cases h
theorem eqS_c (s:σ) (T:Ty) (q:Nat→Bool):∀(n t:Nat) (xs ys:List (SV σ)) (f:σ→Bool),eqS T q n t xs ys=some f→eqA T q n t (cL s xs) (cL s ys)=some (f s)
 | 0,t,xs,ys,f,h=>by rw [eqS] at h;cases h
 | n+1,t,xs,ys,f,h=>by
   rw [eqS] at h
   rw [eqA]
   cases hT:T t with
   | none=>rw [hT] at h;cases h
   | some i =>
     rw [hT] at h
     simp only at h ⊢
     split at h
     ·rename_i fs hk
      split at h
      ·rename_i hq
       rw [hk]
       simp only
       rw [if_pos hq]
       exact eqFS_c s T q (fun t xs ys f h=>eqS_c s T q n t xs ys f h) fs xs ys f h
      ·cases h
     ·cases h
def nilPS (lk:Nat→Option AK):SV σ→Option Bool
 | .val (.pointer none)=>some true
 | .ptr r _=>match liveK lk r with | true=>some false | false=>none
 | .ptx r _ _ _=>match liveK lk r with | true=>some false | false=>none
 | .dpt _ _ _ _=>some false
 | _=>none
theorem nilPS_c (s:σ) (lk:Nat→Option AK) {v:SV σ} {b:Bool} (h:nilPS lk v=some b):nilPt lk (v.c s)=some b:=by
 unfold nilPS at h
 split at h
 ·cases h;rw [SV.c];rfl
 ·split at h
  ·rename_i hl;cases h;rw [SV.c];simp only [nilPt,hl,if_true]
  ·cases h
 ·split at h
  ·rename_i hl;cases h;rw [SV.c];simp only [nilPt,hl,if_true]
  ·cases h
 ·cases h;rw [SV.c];rfl
 ·cases h
def binS (T:Ty) (q:Nat→Bool) (lk:Nat→Option AK) (op:BinOp) (t:Nat) (x y:SV σ):QR σ :=
 match asB x,asB y with
 | some f,some g=>match T t with
   | some i=>match i.k,op with
     | .bool,.eql=>some ([],.bool fun s=>f s==g s)
     | .bool,.neq=>some ([],.bool fun s=>f s != g s)
     | _,_=>none
   | none=>none
 | _,_=>match y with
   | .val (.slice none 0 0)=>match x,T t with
     | .val (.slice none 0 0),some i=>match i.k,op with
       | .slice _,.eql=>some ([],.val (.bool true))
       | .slice _,.neq=>some ([],.val (.bool false))
       | _,_=>none
     | .sl r _ _ n _,some i=>match lk r,i.k,op with
       | some (.data _),.slice _,.eql=>some ([fun s=>decide (n s≠0)],.val (.bool false))
       | some (.data _),.slice _,.neq=>some ([fun s=>decide (n s≠0)],.val (.bool true))
       | _,_,_=>none
     | _,_=>none
   | .val (.pointer none)=>match nilPS lk x,T t with
     | some b,some i=>match i.k,op with
       | .ptr _,.eql=>some ([],.val (.bool b))
       | .ptr _,.neq=>some ([],.val (.bool (!b)))
       | _,_=>none
     | _,_=>none
   | _=>match x,y with
     | .val a,.val b=>match binV op a b with
       | some v=>some ([],.val v)
       | none=>none
     | _,_=>match asI x,asI y with
       | some (k,f),some (k',g)=>arS op k k' f g
       | _,_=>match asS x,asS y with
         | some f,some g=>stS op f g
         | _,_=>match x,y,op with
           | .agg xs,.agg ys,.eql=>match eqS T q 20 t xs ys with | some f=>some ([],.bool f) | none=>none
           | .agg xs,.agg ys,.neq=>match eqS T q 20 t xs ys with | some f=>some ([],.bool fun s => !f s) | none=>none
           | _,_,_=>none
def binA (T:Ty) (q:Nat→Bool) (lk:Nat→Option AK) (op:BinOp) (t:Nat) (x y:AV):Option AV :=
 match x,y with
  | .d (.val (.bool a)),.d (.val (.bool b))=>match T t with
    | some i=>match i.k,op with
      | .bool,.eql=>some (aBool (a==b))
      | .bool,.neq=>some (aBool (a != b))
      | _,_=>none
    | none=>none
  | v,.d (.val (.slice none 0 0))=>match nilB lk v,T t with
    | some b,some i=>match i.k,op with
      | .slice _,.eql=>some (abO b)
      | .slice _,.neq=>some (abO (b.map fun b => !b))
      | _,_=>none
    | _,_=>none
  | v,.d (.val (.pointer none))=>match nilPt lk v,T t with
    | some b,some i=>match i.k,op with
      | .ptr _,.eql=>some (aBool b)
      | .ptr _,.neq=>some (aBool (!b))
      | _,_=>none
    | _,_=>none
  | .d (.val a),.d (.val b)=>(binV op a b).map fun v => .d (.val v)
  | .agg xs,.agg ys=>match op with
    | .eql=>(eqA T q 20 t xs ys).map aBool
    | .neq=>(eqA T q 20 t xs ys).map fun b=>aBool !b
    | _=>none
  | _,_=>none
theorem binA_vals (T:Ty) (q:Nat→Bool) (lk:Nat→Option AK) {op:BinOp} (t:Nat) {a b v:Value} (h:binV op a b=some v):binA T q lk op t (.d (.val a)) (.d (.val b))=some (.d (.val v)):=by
 have h0:=h
 unfold binV at h
 split at h
 all_goals first
  | (cases h;done)
  | (simp only [binA];rw [h0];rfl)
theorem binA_int (T:Ty) (q:Nat→Bool) (lk:Nat→Option AK) (op:BinOp) (t:Nat) (k k':IntKind) (a b:Int):binA T q lk op t (aInt k a) (aInt k' b)=(binV op (.int k a) (.int k' b)).map fun v => .d (.val v):=rfl
theorem binA_str (T:Ty) (q:Nat→Bool) (lk:Nat→Option AK) (op:BinOp) (t:Nat) (a b:ByteArray):binA T q lk op t (.d (.val (.string a))) (.d (.val (.string b)))=(binV op (.string a) (.string b)).map fun v => .d (.val v):=rfl
theorem binS_c (s:σ) (T:Ty) (q:Nat→Bool) (lk:Nat→Option AK) (op:BinOp) (t:Nat) (x y:SV σ):OkQ s (binS T q lk op t x y) (binA T q lk op t (x.c s) (y.c s)):=by
 unfold binS
 split
 ·rename_i f g hf hg
  rw [asB_c hf,asB_c hg]
  cases hT:T t with
  | none=>exact OkQ.none
  | some i =>
    simp only
    split
    ·rename_i hk;refine OkQ.pure ?_;simp only [aBool,binA,hT,hk];rw [SV.c];rfl
    ·rename_i hk;refine OkQ.pure ?_;simp only [aBool,binA,hT,hk];rw [SV.c];rfl
    ·exact OkQ.none
 ·split
  ·split
   ·rename_i i hT _
    split
    ·rename_i hk;refine OkQ.pure ?_;rw [SV.c];simp only [binA,nilB,hT,hk,abO];rw [SV.c];rfl
    ·rename_i hk;refine OkQ.pure ?_;rw [SV.c];simp only [binA,nilB,hT,hk,abO];rw [SV.c];rfl
    ·exact OkQ.none
   ·rename_i r z o n cap i hT _
    split
    ·rename_i hr hk
     intro cs v h1 h2
     cases h1
     have hn:n s≠0:=of_decide_eq_true h2.1
     simp only [SV.c,binA,nilB,hr,hT,hk,if_neg hn,abO,aBool]
    ·rename_i hr hk
     intro cs v h1 h2
     cases h1
     have hn:n s≠0:=of_decide_eq_true h2.1
     simp only [SV.c,binA,nilB,hr,hT,hk,if_neg hn,abO,aBool,Option.map_some,Bool.not_false]
    ·exact OkQ.none
   ·exact OkQ.none
  ·split
   ·rename_i b i hn hT
    have hn':=nilPS_c s lk hn
    split
    ·rename_i hk;refine OkQ.pure ?_;rw [show (SV.val (Value.pointer none):SV σ).c s = .d (.val (.pointer none)) from by rw [SV.c]];simp only [binA,hn',hT,hk];rw [SV.c];rfl
    ·rename_i hk;refine OkQ.pure ?_;rw [show (SV.val (Value.pointer none):SV σ).c s = .d (.val (.pointer none)) from by rw [SV.c]];simp only [binA,hn',hT,hk];rw [SV.c];rfl
    ·exact OkQ.none
   ·exact OkQ.none
  ·split
   ·rename_i a b _ _ _
    split
    ·rename_i v hv
     refine OkQ.pure ?_
     rw [SV.c,SV.c,SV.c]
     exact binA_vals T q lk t hv
    ·exact OkQ.none
   ·split
    ·rename_i k f k' g hf hg
     intro cs v h1 h2
     rw [asI_c hf,asI_c hg,binA_int]
     exact arS_c s h1 h2
    ·split
     ·rename_i f g hf hg
      intro cs v h1 h2
      rw [asS_c hf,asS_c hg,binA_str]
      exact stS_c s h1 h2
     ·split
      ·split
       ·rename_i f hf;refine OkQ.pure ?_;simp only [SV.c];show Option.map _ (eqA T q 20 t (cL s _) (cL s _))=_;rw [eqS_c s T q _ _ _ _ _ hf];rfl
       ·exact OkQ.none
      ·split
       ·rename_i f hf;refine OkQ.pure ?_;simp only [SV.c];show Option.map _ (eqA T q 20 t (cL s _) (cL s _))=_;rw [eqS_c s T q _ _ _ _ _ hf];rfl
       ·exact OkQ.none
      ·exact OkQ.none
def unS (op:UnOp) (x:SV σ):QR σ :=
 match x with
 | .val a=>match unV op a with | some v=>some ([],.val v) | none=>none
 | .int k f=>match op with
   | .neg=>some ([],.int k fun s=>k.wrap (0-f s))
   | .xor=>some ([],.int k fun s=>k.wrap (BitVec.ofInt k.bits (if k.signed then -1 else k.max) ^^^ BitVec.ofInt k.bits (f s)).toNat)
   | _=>none
 | .bool f=>match op with
   | .not=>some ([],.bool fun s => !f s)
   | _=>none
 | _=>none
def unA (op:UnOp) (x:AV):Option AV :=
 match x with
  | .d (.val a)=>(unV op a).map fun v => .d (.val v)
  | _=>none
theorem unS_c (s:σ) (op:UnOp) (x:SV σ):OkQ s (unS op x) (unA op (x.c s)):=by
 unfold unS
 split
 ·split
  ·rename_i v hv;refine OkQ.pure ?_;rw [SV.c,SV.c];simp only [unA,hv,Option.map_some]
  ·exact OkQ.none
 ·split
  ·refine OkQ.pure ?_;rw [SV.c,SV.c];rfl
  ·refine OkQ.pure ?_;rw [SV.c,SV.c];rfl
  ·exact OkQ.none
 ·split
  ·refine OkQ.pure ?_;rw [SV.c,SV.c];rfl
  ·exact OkQ.none
 ·exact OkQ.none
def convS (T:Ty) (src dst:Nat) (x:SV σ):QR σ :=
 match T src,T dst with
 | some si,some di=>match si.k,di.k,x with
   | .int _,.int k,.val (.int _ n)=>some ([],.val (.int k (k.wrap n)))
   | .int _,.int k,.int k0 f=>match kindEq k0 k with
     | some _=>some ([],.int k fun s=>k.wrap (f s))
     | none=>some ([],.int k fun s=>k.wrap (f s))
   | .str,.str,.val (.string b)=>some ([],.val (.string b))
   | .str,.str,.str f=>some ([],.str f)
   | _,_,_=>none
 | _,_=>none
def convA (T:Ty) (src dst:Nat) (x:AV):Option AV :=
 match T src,T dst with
  | some si,some di=>match si.k,di.k,x with
    | .int _,.int k,.d (.val (.int _ n))=>some (aInt k (k.wrap n))
    | .str,.str,.d (.val (.string s))=>some (.d (.val (.string s)))
    | _,_,_=>none
  | _,_=>none
theorem convS_c (s:σ) (T:Ty) (src dst:Nat) (x:SV σ):OkQ s (convS T src dst x) (convA T src dst (x.c s)):=by
 unfold convS convA
 split
 ·split
  ·rename_i h1 h2;refine OkQ.pure ?_;rw [SV.c,SV.c];simp only [h1,h2];rfl
  ·rename_i h1 h2
   split
   ·refine OkQ.pure ?_;rw [SV.c,SV.c];simp only [h1,h2,aInt]
   ·refine OkQ.pure ?_;rw [SV.c,SV.c];simp only [h1,h2,aInt]
  ·rename_i h1 h2;refine OkQ.pure ?_;rw [SV.c];simp only [h1,h2]
  ·rename_i h1 h2;refine OkQ.pure ?_;rw [SV.c];simp only [h1,h2]
  ·exact OkQ.none
 ·exact OkQ.none
def idxS (v:SV σ) (n:Nat):Option Nat :=
 match v with
 | .val (.int _ i)=>match decide (0≤i∧i<(n:Int)) with | true=>some i.toNat | false=>none
 | _=>none
theorem idxS_c (s:σ) {v:SV σ} {n j:Nat} (h:idxS v n=some j):idx? (v.c s) n=some j:=by
 unfold idxS at h
 split at h
 ·split at h
  ·rename_i hd;cases h;rw [SV.c];simp only [idx?,if_pos (of_decide_eq_true hd)]
  ·cases h
 ·cases h
theorem idx_dyn (s:σ) {v:SV σ} {k:IntKind} {f:σ→Int} (hv:asI v=some (k,f)) {n:Nat} (h:decide (0≤f s∧f s<(n:Int))=true):idx? (v.c s) n=some (f s).toNat:=by
 rw [asI_c hv];simp only [idx?,aInt,if_pos (of_decide_eq_true h)]
theorem idxLe_dyn (s:σ) {v:SV σ} {k:IntKind} {f:σ→Int} (hv:asI v=some (k,f)) {n:Nat} (h:decide (0≤f s∧f s≤(n:Int))=true):idxLe? (v.c s) n=some (f s).toNat:=by
 rw [asI_c hv];simp only [idxLe?,aInt,if_pos (of_decide_eq_true h)]
end
end Go.Proofs.Ytkpijdndakljjaa
namespace Go.Proofs.Ytkpijdndakljjaa
open Go.RowKit
section
variable {σ:Type}
def nilCS (lk:Nat→Option AK) (v:SV σ):QR σ :=
 match v with
 | .ptr r off=>match liveK lk r with | true=>some ([],.ptr r off) | false=>none
 | .ptx r z j off=>match liveK lk r with | true=>some ([],.ptx r z j off) | false=>none
 | .dpt t f j off=>some ([],.dpt t f j off)
 | .clo f cs=>some ([],.clo f cs)
 | _=>none
theorem nilCS_c (s:σ) (lk:Nat→Option AK) (v:SV σ):OkQ s (nilCS lk v) (match v.c s with
 | .ptr r off=>if liveK lk r then some (.ptr r off) else none
 | .dptr cells off=>some (.dptr cells off)
 | .clo f caps=>some (.clo f caps)
 | _=>none):=by
 unfold nilCS
 split
 ·split
  ·rename_i h;refine OkQ.pure ?_;rw [SV.c];simp only [h,if_true]
  ·exact OkQ.none
 ·split
  ·rename_i h;refine OkQ.pure ?_;rw [SV.c];simp only [h,if_true]
  ·exact OkQ.none
 ·refine OkQ.pure ?_;rw [SV.c]
 ·refine OkQ.pure ?_;rw [SV.c]
 ·exact OkQ.none
def faS (T:Ty) (lk:Nat→Option AK) (t j:Nat) (v:SV σ):QR σ :=
 match T t with
 | some i=>match i.k with
   | .agg fs=>match fs[j]? with
     | some (fo,ft)=>match T ft with
       | some fi=>match decide (fi.size=0) with
         | true=>none
         | false=>match v with
           | .ptr r off=>match liveK lk r with | true=>some ([],.ptr r (off+fo)) | false=>none
           | .ptx r z j off=>match liveK lk r with | true=>some ([],.ptx r z j (off+fo)) | false=>none
           | .dpt t f j off=>some ([],.dpt t f j (off+fo))
           | _=>none
       | none=>none
     | none=>none
   | _=>none
 | none=>none
theorem faS_c (s:σ) (T:Ty) (lk:Nat→Option AK) (t j:Nat) (v:SV σ):OkQ s (faS T lk t j v) (match T t with
 | some i=>match i.k with
   | .agg fs=>match fs[j]? with
     | some (fo,ft)=>match T ft with
       | some fi=>if fi.size=0 then none else match v.c s with
         | .ptr r off=>if liveK lk r then some (.ptr r (off+fo)) else none
         | .dptr cells off=>some (.dptr cells (off+fo))
         | _=>none
       | none=>none
     | none=>none
   | _=>none
 | none=>none):=by
 unfold faS
 cases hT:T t with
 | none=>exact OkQ.none
 | some i =>
   simp only
   split
   ·rename_i fs hk
    cases hj:fs[j]? with
    | none=>exact OkQ.none
    | some p =>
      obtain ⟨fo,ft⟩:=p
      simp only
      cases hF:T ft with
      | none=>exact OkQ.none
      | some fi =>
        simp only
        split
        ·exact OkQ.none
        ·rename_i hd
         have hd:=of_decide_eq_false hd
         rw [if_neg hd]
         split
         ·split
          ·rename_i h;refine OkQ.pure ?_;rw [SV.c];simp only [h,if_true];rw [SV.c]
          ·exact OkQ.none
         ·split
          ·rename_i h;refine OkQ.pure ?_;rw [SV.c];simp only [h,if_true];rw [SV.c,Nat.add_assoc]
          ·exact OkQ.none
         ·refine OkQ.pure ?_;rw [SV.c];simp only;rw [SV.c,Nat.add_assoc]
         ·exact OkQ.none
   ·exact OkQ.none
def fdS (T:Ty) (t j:Nat) (v:SV σ):QR σ :=
 match T t with
 | some i=>match i.k with
   | .agg fs=>match fs[j]? with
     | some (fo,ft)=>match T ft with
       | some fi=>match v with
         | .agg cs=>match partS fi cs fo with | some x=>some ([],x) | none=>none
         | _=>none
       | none=>none
     | none=>none
   | _=>none
 | none=>none
theorem fdS_c (s:σ) (T:Ty) (t j:Nat) (v:SV σ):OkQ s (fdS T t j v) (match T t with
 | some i=>match i.k with
   | .agg fs=>match fs[j]? with
     | some (fo,ft)=>match T ft with
       | some fi=>match v.c s with
         | .agg cs=>partA fi cs fo
         | _=>none
       | none=>none
     | none=>none
   | _=>none
 | none=>none):=by
 unfold fdS
 cases hT:T t with
 | none=>exact OkQ.none
 | some i =>
   simp only
   split
   ·rename_i fs hk
    cases hj:fs[j]? with
    | none=>exact OkQ.none
    | some p =>
      obtain ⟨fo,ft⟩:=p
      simp only
      cases hF:T ft with
      | none=>exact OkQ.none
      | some fi =>
        simp only
        split
        ·split
         ·rename_i x hx;refine OkQ.pure ?_;rw [SV.c];exact partS_c s hx
         ·exact OkQ.none
        ·exact OkQ.none
   ·exact OkQ.none
def iaS (T:Ty) (lk:Nat→Option AK) (t:Nat) (x ix:SV σ):QR σ :=
 match T t with
 | some i=>match i.k with
   | .arr n e=>match T e with
     | some ei=>match idxS ix n with
       | some j=>match x with
         | .ptr r off=>match liveK lk r with | true=>some ([],.ptr r (off+j*ei.size)) | false=>none
         | .ptx r z j' off=>match liveK lk r with | true=>some ([],.ptx r z j' (off+j*ei.size)) | false=>none
         | .dpt t f j' off=>match decide (off=0∧szU t=ei.size) with
           | true=>some ([],.dpt t f (fun s=>j' s+j) 0)
           | false=>some ([],.dpt t f j' (off+j*ei.size))
         | _=>none
       | none=>match asI ix,x with
         | some (_,f),.ptr r off=>match liveK lk r with
           | true=>some ([fun s=>decide (0≤f s∧f s<(n:Int))],.ptx r ei.size (fun s=>(f s).toNat) off)
           | false=>none
         | some (_,f),.ptx r z j off=>match liveK lk r&&decide (z=(z / ei.size)*ei.size) with
           | true=>some ([fun s=>decide (0≤f s∧f s<(n:Int))],.ptx r ei.size (fun s=>j s*(z / ei.size)+(f s).toNat) off)
           | false=>none
         | some (_,f),.dpt t l j' off=>match decide (off=0∧szU t=ei.size) with
           | true=>some ([fun s=>decide (0≤f s∧f s<(n:Int))],.dpt t l (fun s=>j' s+(f s).toNat) 0)
           | false=>none
         | _,_=>none
     | none=>none
   | .slice e=>match T e with
     | some ei=>match asI ix,x with
       | some (_,f),.sl r z o n cap=>match decide (z=ei.size)&&liveK lk r with
         | true=>some ([fun s=>decide (0≤f s∧f s<(n s:Int))],.ptx r z (match o with | some o=>fun s=>o s+(f s).toNat | none=>fun s=>(f s).toNat) 0)
         | false=>none
       | some (_,f),.lst t l=>match decide (szU t=ei.size∧0<szU t) with
         | true=>some ([fun s=>decide (0≤f s∧f s<((l s).length:Int))],.dpt t l (fun s=>(f s).toNat) 0)
         | false=>none
       | _,_=>none
     | none=>none
   | _=>none
 | none=>none
def iaA (T:Ty) (lk:Nat→Option AK) (t:Nat) (x ix:AV):Option AV :=
 match T t with
  | some i=>match i.k with
    | .arr n e=>match T e with
      | some ei=>match idx? ix n with
        | some j=>match x with
          | .ptr r off=>if liveK lk r then some (.ptr r (off+j*ei.size)) else none
          | .dptr cells off=>some (.dptr cells (off+j*ei.size))
          | _=>none
        | none=>none
      | none=>none
    | .slice e=>match T e with
      | some ei=>match x with
        | .sl r off n cap=>match idx? ix n with
          | some j=>if liveK lk r then some (.ptr r (off+j*ei.size)) else none
          | none=>none
        | .d (.dl cells n cap)=>match idx? ix n with
          | some j=>if cells.isEmpty then none else some (.dptr cells (j*ei.size))
          | none=>none
        | _=>none
      | none=>none
    | _=>none
  | none=>none
theorem iaS_c (s:σ) (T:Ty) (lk:Nat→Option AK) (t:Nat) (x ix:SV σ):OkQ s (iaS T lk t x ix) (iaA T lk t (x.c s) (ix.c s)):=by
 unfold iaS iaA
 cases hT:T t with
 | none=>exact OkQ.none
 | some i =>
   simp only
   split
   ·rename_i n e hk
    cases hE:T e with
    | none=>exact OkQ.none
    | some ei =>
      simp only
      split
      ·rename_i j hj
       rw [idxS_c s hj]
       simp only
       split
       ·split
        ·rename_i h;refine OkQ.pure ?_;rw [SV.c];simp only [h,if_true];rw [SV.c]
        ·exact OkQ.none
       ·split
        ·rename_i h;refine OkQ.pure ?_;rw [SV.c];simp only [h,if_true];rw [SV.c,Nat.add_assoc]
        ·exact OkQ.none
       ·split
        ·rename_i h
         simp only [decide_eq_true_eq] at h
         obtain ⟨rfl,hz⟩:=h
         refine OkQ.pure ?_
         rw [SV.c]
         simp only
         rw [SV.c,←hz,Nat.add_mul]
         rfl
        ·refine OkQ.pure ?_;rw [SV.c];simp only;rw [SV.c,Nat.add_assoc]
       ·exact OkQ.none
      ·split
       ·rename_i k f r off hf
        split
        ·rename_i h
         intro cs v h1 h2
         cases h1
         rw [idx_dyn s hf h2.1,SV.c]
         simp only [h,if_true]
         rw [SV.c,Nat.add_comm]
        ·exact OkQ.none
       ·rename_i k f r z j off hf
        split
        ·rename_i h
         simp only [Bool.and_eq_true,decide_eq_true_eq] at h
         obtain ⟨h,hz⟩:=h
         intro cs v h1 h2
         cases h1
         rw [idx_dyn s hf h2.1,SV.c]
         simp only [h,if_true]
         rw [SV.c,Nat.add_mul,Nat.mul_assoc,←hz]
         congr 2
         omega
        ·exact OkQ.none
       ·rename_i k f t l j' off hf
        split
        ·rename_i h
         simp only [decide_eq_true_eq] at h
         obtain ⟨rfl,hz⟩:=h
         intro cs v h1 h2
         cases h1
         rw [idx_dyn s hf h2.1,SV.c]
         simp only
         rw [SV.c,←hz,Nat.add_mul]
         rfl
        ·exact OkQ.none
       ·exact OkQ.none
   ·rename_i e hk
    cases hE:T e with
    | none=>exact OkQ.none
    | some ei =>
      simp only
      split
      ·rename_i k f r z o n cap hf
       split
       ·rename_i h
        simp only [Bool.and_eq_true,decide_eq_true_eq] at h
        obtain ⟨hz,h⟩:=h
        intro cs v h1 h2
        cases h1
        simp only [SV.c]
        rw [idx_dyn s hf h2.1]
        simp only [h,if_true]
        rw [Nat.add_zero,←hz]
        cases o with
        | none=>simp only [oOf,Nat.zero_mul,Nat.zero_add]
        | some o=>simp only [oOf,Nat.add_mul]
       ·exact OkQ.none
      ·rename_i k f t' l hf
       split
       ·rename_i h
        obtain ⟨hz,hp⟩:=of_decide_eq_true h
        intro cs v h1 h2
        cases h1
        simp only [SV.c]
        rw [idx_dyn s hf h2.1]
        have hlt:=of_decide_eq_true h2.1
        have hne:(encL t' (l s)).isEmpty=false:=by
         have hlen:=encL_length t' (l s)
         have hpos:0<(l s).length*szU t':=Nat.mul_pos (by omega) hp
         cases hc:encL t' (l s) with
         | nil=>rw [hc] at hlen;simp at hlen;omega
         | cons _ _=>rfl
        simp only [hne,Bool.false_eq_true,if_false]
        rw [Nat.add_zero,hz]
       ·exact OkQ.none
      ·exact OkQ.none
   ·exact OkQ.none
def intsS (k:IntKind):List (SV σ)→Option (List (σ→Int))
 | []=>some []
 | x::l=>match asI x,intsS k l with
   | some (k',f),some fs=>match decide (k'=k) with | true=>some (f::fs) | false=>none
   | _,_=>none
def evL (s:σ):List (σ→Int)→List Int
 | []=>[]
 | f::l=>f s::evL s l
theorem intsS_c (s:σ) (k:IntKind):∀(cs:List (SV σ)) (fs:List (σ→Int)),intsS k cs=some fs→cL s cs=(evL s fs).map (aInt k)
 | [],fs,h=>by rw [intsS] at h;cases h;rfl
 | x::l,fs,h=>by
   rw [intsS] at h
   split at h
   ·rename_i k' f fs' hx hl
    split at h
    ·rename_i hk
     have hk:=of_decide_eq_true hk
     cases h
     subst hk
     rw [cL,evL,List.map_cons,intsS_c s _ l fs' hl,asI_c hx]
    ·cases h
   ·cases h
def ixD (n:Nat) (ei:TI) (cs:List (SV σ)) (ix:SV σ):QR σ :=
 match asI ix,cs.head?.bind asI with
 | some (_,g),some (k,_)=>match intsS k cs,decide (ei.size=1∧cs.length=n∧ei.k.isAgg=false) with
   | some fs,true=>some ([fun s=>decide (0≤g s∧g s<(n:Int))],.int k fun s=>(evL s fs).getD (g s).toNat 0)
   | _,_=>none
 | _,_=>none
def preI (k:IntKind):List (SV σ)→List (σ→Int)
 | []=>[]
 | x::l=>match asI x with
   | some (k',f)=>match decide (k'=k) with | true=>f::preI k l | false=>[]
   | none=>[]
theorem preI_c (s:σ) (k:IntKind):∀cs:List (SV σ),cL s (cs.take (preI k cs).length)=(evL s (preI k cs)).map (aInt k)
 | []=>rfl
 | x::l=>by
   rw [preI]
   split
   ·rename_i k' f hx
    split
    ·rename_i hk
     have hk:=of_decide_eq_true hk
     subst hk
     rw [List.length_cons,List.take_succ_cons,cL,evL,List.map_cons,preI_c s _ l,asI_c hx]
    ·rfl
   ·rfl
def kindI:List (SV σ)→Option IntKind
 | []=>none
 | x::_=>match asI x with
   | some (k,_)=>some k
   | none=>none
def putL (L:List Int) (p:Nat) (new:List Int):List Int:=L.take p++new++L.drop (p+new.length)
def cellsI (k:IntKind) (L:σ→List Int):Nat→Nat→List (SV σ)
 | 0,_=>[]
 | n+1,q => .int k (fun s=>(L s).getD q 0)::cellsI k L n (q+1)
theorem cellsI_c (s:σ) (k:IntKind) (L:σ→List Int):∀n q,q+n=(L s).length→cL s (cellsI k L n q)=((L s).drop q).map (aInt k)
 | 0,q,h=>by rw [List.drop_eq_nil_of_le (by omega)];rfl
 | n+1,q,h=>by
   have hq:q<(L s).length:=by omega
   rw [cellsI,cL,cellsI_c s k L n (q+1) (by omega),List.drop_eq_getElem_cons hq,List.map_cons,SV.c,List.getD_eq_getElem?_getD,List.getElem?_eq_getElem hq]
   rfl
theorem putL_length (L:List Int) (p:Nat) (new:List Int) (h:p+new.length≤L.length):(putL L p new).length=L.length:=by
 unfold putL
 rw [List.length_append,List.length_append,List.length_take,List.length_drop];omega
theorem evL_length (s:σ):∀fs:List (σ→Int),(evL s fs).length=fs.length
 | []=>rfl
 | f::l=>by rw [evL,List.length_cons,List.length_cons,evL_length s l]
theorem ixD_c (s:σ) (n:Nat) (ei:TI) (cs:List (SV σ)) (ix:SV σ):OkQ s (ixD n ei cs ix) (match idx? (ix.c s) n with
 | some j=>partA ei (cL s cs) (j*ei.size)
 | none=>none):=by
 unfold ixD
 split
 ·rename_i k0 g k f0 hg h0
  split
  ·rename_i fs hfs hd
   obtain ⟨h1,h2,h3⟩:=of_decide_eq_true hd
   intro cs' v e1 e2
   cases e1
   rw [idx_dyn s hg e2.1]
   have hb:=of_decide_eq_true e2.1
   have hc:=intsS_c s k cs fs hfs
   have hl:(evL s fs).length=n:=by rw [←h2,←cL_length s cs,hc,List.length_map]
   have hj:(g s).toNat<(evL s fs).length:=by omega
   simp only [partA,h1,h3,Nat.mul_one,Bool.false_eq_true,if_false,hc]
   rw [List.getElem?_map,List.getElem?_eq_getElem hj,SV.c,List.getD_eq_getElem?_getD,List.getElem?_eq_getElem hj]
   rfl
  ·exact OkQ.none
 ·exact OkQ.none
def ixS (T:Ty) (t:Nat) (x ix:SV σ):QR σ :=
 match T t with
 | some i=>match i.k with
   | .arr n e=>match T e with
     | some ei=>match idxS ix n,x with
       | some j,.agg cs=>match partS ei cs (j*ei.size) with | some v=>some ([],v) | none=>none
       | none,.agg cs=>ixD n ei cs ix
       | _,_=>none
     | none=>none
   | .str=>match asS x,asI ix with
     | some f,some (_,g)=>some ([fun s=>decide (0≤g s∧g s<((f s).length:Int))],.int .u8 fun s=>(((f s).getD (g s).toNat 0).toNat:Int))
     | _,_=>none
   | _=>none
 | none=>none
theorem ixS_c (s:σ) (T:Ty) (t:Nat) (x ix:SV σ):OkQ s (ixS T t x ix) (match T t with
 | some i=>match i.k with
   | .arr n e=>match T e with
     | some ei=>match idx? (ix.c s) n,x.c s with
       | some j,.agg cs=>partA ei cs (j*ei.size)
       | _,_=>none
     | none=>none
   | .str=>match x.c s,ix.c s with
     | .d (.val (.string s)),.d (.val (.int _ j))=>if 0≤j then (match s.data.toList[j.toNat]? with
       | some b=>some (aInt .u8 b.toNat)
       | none=>none) else none
     | _,_=>none
   | _=>none
 | none=>none):=by
 unfold ixS
 cases hT:T t with
 | none=>exact OkQ.none
 | some i =>
   simp only
   split
   ·rename_i n e hk
    cases hE:T e with
    | none=>exact OkQ.none
    | some ei =>
      simp only
      split
      ·rename_i j cs hj
       rw [idxS_c s hj]
       split
       ·rename_i v hv;refine OkQ.pure ?_;rw [SV.c];exact partS_c s hv
       ·exact OkQ.none
      ·rename_i cs hj
       have:=ixD_c s n ei cs ix
       rw [SV.c]
       cases hx:idx? (ix.c s) n with
       | none=>rw [hx] at this;exact this
       | some j=>rw [hx] at this;exact this
      ·exact OkQ.none
   ·split
    ·rename_i f k g hf hg
     intro cs v h1 h2
     cases h1
     rw [asS_c hf,asI_c hg]
     have hd:=of_decide_eq_true h2.1
     simp only [aInt]
     rw [if_pos hd.1]
     have hlt:(g s).toNat<(f s).length:=by omega
     show (match (f s)[(g s).toNat]? with | some b=>some (AV.d (.val (.int .u8 b.toNat))) | none=>none)=_
     rw [List.getElem?_eq_getElem hlt,SV.c]
     simp only [aInt,List.getD_eq_getElem?_getD,List.getElem?_eq_getElem hlt,Option.getD_some]
    ·exact OkQ.none
   ·exact OkQ.none
structure Bd (σ:Type) where
 cs:List (σ→Bool)
 l:Option (σ→Nat)
 h:σ→Nat
 m:Option (σ→Nat)
def hiS (n:σ→Nat) (hi:Option (SV σ)):Option (List (σ→Bool)×(σ→Nat)) :=
 match hi with
 | none=>some ([],n)
 | some v=>match asI v with
   | some (_,f)=>some ([fun s=>decide (0≤f s∧f s≤(n s:Int))],fun s=>(f s).toNat)
   | none=>none
def loS (n:σ→Nat) (lo:Option (SV σ)):Option (List (σ→Bool)×Option (σ→Nat)) :=
 match lo with
 | none=>some ([],none)
 | some v=>match asI v with
   | some (_,f)=>some ([fun s=>decide (0≤f s∧f s≤(n s:Int))],some fun s=>(f s).toNat)
   | none=>none
def bdS (n:σ→Nat) (lo hi mx:Option (SV σ)):Option (Bd σ) :=
 match mx with
 | none=>match hiS n hi with
   | none=>none
   | some (c1,h)=>match loS h lo with
     | none=>none
     | some (c2,l)=>some ⟨c1++c2,l,h,none⟩
 | some mv=>match hi with
   | none=>none
   | some hv=>match hiS n (some mv) with
     | none=>none
     | some (c0,m)=>match hiS m (some hv) with
       | none=>none
       | some (c1,h)=>match loS h lo with
         | none=>none
         | some (c2,l)=>some ⟨c0++(c1++c2),l,h,some m⟩
theorem hiS_c (s:σ) {n:σ→Nat} {hi:Option (SV σ)} {c:List (σ→Bool)} {h:σ→Nat} (e:hiS n hi=some (c,h)) (hc:allT s c):bndA (hi.map (·.c s)) (n s) (n s)=some (h s)∧h s≤n s:=by
 unfold hiS at e
 split at e
 ·cases e;exact ⟨rfl,Nat.le_refl _⟩
 ·split at e
  ·rename_i hf
   cases e
   have:=of_decide_eq_true hc.1
   exact ⟨idxLe_dyn s hf hc.1,by show (_:Int).toNat≤_;omega⟩
  ·cases e
theorem loS_c (s:σ) {n:σ→Nat} {lo:Option (SV σ)} {c:List (σ→Bool)} {l:Option (σ→Nat)} (e:loS n lo=some (c,l)) (hc:allT s c):bndA (lo.map (·.c s)) 0 (n s)=some (oOf s l)∧oOf s l≤n s:=by
 unfold loS at e
 split at e
 ·cases e;exact ⟨rfl,Nat.zero_le _⟩
 ·split at e
  ·rename_i hf
   cases e
   have:=of_decide_eq_true hc.1
   exact ⟨idxLe_dyn s hf hc.1,by simp only [oOf];omega⟩
  ·cases e
theorem bdS_c (s:σ) {n:σ→Nat} {lo hi mx:Option (SV σ)} {b:Bd σ} (e:bdS n lo hi mx=some b) (hc:allT s b.cs):bnds (n s) (lo.map (·.c s)) (hi.map (·.c s)) (mx.map (·.c s))=some (oOf s b.l,b.h s,cOf s b.m)∧oOf s b.l≤b.h s∧b.h s≤n s:=by
 unfold bdS at e
 split at e
 ·split at e
  ·cases e
  ·rename_i c1 h h1
   split at e
   ·cases e
   ·rename_i c2 l h2
    cases e
    rw [allT_append] at hc
    obtain ⟨g1,g2⟩:=hiS_c s h1 hc.1
    obtain ⟨g3,g4⟩:=loS_c s h2 hc.2
    refine ⟨?_,g4,g2⟩
    simp only [bnds,Option.map_none,g1,g3]
    rfl
 ·split at e
  ·cases e
  ·split at e
   ·cases e
   ·rename_i c0 m h0
    split at e
    ·cases e
    ·rename_i c1 h h1
     split at e
     ·cases e
     ·rename_i c2 l h2
      cases e
      rw [allT_append,allT_append] at hc
      obtain ⟨q1,q2⟩:=hiS_c s h0 hc.1
      obtain ⟨g1,g2⟩:=hiS_c s h1 hc.2.1
      obtain ⟨g3,g4⟩:=loS_c s h2 hc.2.2
      refine ⟨?_,g4,Nat.le_trans g2 q2⟩
      simp only [Option.map_some,bndA] at q1 g1
      simp only [bnds,Option.map_some,q1,g1,g3]
      rfl
def cutS {α:Type} (l:Option (σ→Nat)) (h:Option (σ→Nat)) (f:σ→List α):σ→List α :=
 match l,h with
 | none,none=>f
 | none,some h=>fun s=>(f s).take (h s)
 | some l,none=>fun s=>(f s).drop (l s)
 | some l,some h=>fun s=>((f s).drop (l s)).take (h s-l s)
theorem cutS_c {α:Type} (s:σ) (l h:Option (σ→Nat)) (f:σ→List α) {n:Nat} (hn:n=match h with | some h=>h s | none=>(f s).length):cutS l h f s=((f s).drop (oOf s l)).take (n-oOf s l):=by
 cases l<;>cases h<;>simp only [cutS,oOf,List.drop_zero,Nat.sub_zero] at * <;> subst hn<;>try rfl
 ·rw [List.take_length]
 ·rw [List.take_of_length_le];simp
end
end Go.Proofs.Ytkpijdndakljjaa
namespace Go.Proofs.Ytkpijdndakljjaa
open Go.RowKit
section
variable {σ:Type}
def addN (a b:Option (σ→Nat)):Option (σ→Nat) :=
 match a,b with
 | none,b=>b
 | a,none=>a
 | some a,some b=>some fun s=>a s+b s
theorem addN_c (s:σ) (a b:Option (σ→Nat)):oOf s (addN a b)=oOf s a+oOf s b:=by
 cases a<;>cases b<;>simp [addN,oOf]
def subN (h:σ→Nat) (l:Option (σ→Nat)):σ→Nat :=
 match l with
 | none=>h
 | some l=>fun s=>h s-l s
theorem subN_c (s:σ) (h:σ→Nat) (l:Option (σ→Nat)):subN h l s=h s-oOf s l:=by
 cases l<;>simp [subN,oOf]
def capS (n:σ→Nat) (cap:Cp σ) (h:Option (σ→Nat)) (m l:Option (σ→Nat)):Cp σ :=
 match m with
 | none=>match cap with
   | .unk => .unk
   | .full=>match h with | none => .full | some _ => .fn (subN n l)
   | .fn c => .fn (subN c l)
 | some m => .fn (subN m l)
theorem capS_c (s:σ) (n:σ→Nat) (cap:Cp σ) (h m l:Option (σ→Nat)) (hh:σ→Nat) (hn:hh s=match h with | some h=>h s | none=>n s):cpOf s (subN hh l s) (capS n cap h m l)=capOf (cpOf s (n s) cap) (cOf s m) (oOf s l):=by
 cases m with
 | none=>cases cap with
   | unk=>rfl
   | full=>cases h with
     | none=>simp only [capS,cOf,cpOf,capOf,Option.map_some,subN_c,hn]
     | some h=>simp only [capS,cOf,cpOf,capOf,Option.map_some,subN_c]
   | fn c=>simp only [capS,cOf,cpOf,capOf,Option.map_some,subN_c]
 | some m=>simp only [capS,cOf,cpOf,capOf,subN_c]
def hiO (hi:Option (SV σ)) (h:σ→Nat):Option (σ→Nat):=match hi with | none=>none | some _=>some h
def slcS (T:Ty) (lk:Nat→Option AK) (t:Nat) (x:SV σ) (lo hi mx:Option (SV σ)):QR σ :=
 match T t with
 | some i=>match i.k with
   | .slice e=>match T e with
     | some ei=>match x with
       | .sl r z o n cap=>match lk r with
         | some (.data z')=>match decide (z'=ei.size∧z=ei.size),bdS n lo hi mx with
           | true,some b=>some (b.cs,.sl r z (addN o b.l) (subN b.h b.l) (capS n cap (hiO hi b.h) b.m b.l))
           | _,_=>none
         | _=>none
       | .val (.slice none 0 0)=>match bdS (fun _=>0) lo hi mx with
         | some b=>some (b.cs,.val (.slice none 0 0))
         | none=>none
       | .lst u f=>match decide (szU u=ei.size),bdS (fun s=>(f s).length) lo hi mx with
         | true,some b=>some (b.cs,.lst u (cutS b.l (hiO hi b.h) f))
         | _,_=>none
       | _=>none
     | none=>none
   | .str=>match mx with
     | some _=>none
     | none=>match asS x with
       | some f=>match bdS (fun s=>(f s).length) lo hi none with
         | some b=>some (b.cs,.str (cutS b.l (hiO hi b.h) f))
         | none=>none
       | none=>none
   | _=>none
 | none=>none
def slcA (T:Ty) (lk:Nat→Option AK) (t:Nat) (x:AV) (lo hi mx:Option AV):Option AV :=
 match T t with
  | some i=>match i.k with
    | .slice e=>match T e with
      | some ei=>match x with
        | .sl r off n cap=>match lk r with
          | some (.data s)=>if s=ei.size then sliceA ei.size (.sl r off n cap) lo hi mx else none
          | _=>none
        | .d (.val (.slice none 0 0))=>sliceA ei.size (.d (.val (.slice none 0 0))) lo hi mx
        | .d (.dl cells n cap)=>sliceA ei.size (.d (.dl cells n cap)) lo hi mx
        | _=>none
      | none=>none
    | .str=>match x with
      | .d (.val (.string s))=>sliceA 0 (.d (.val (.string s))) lo hi mx
      | _=>none
    | _=>none
  | none=>none
theorem hiO_n (s:σ) {n:σ→Nat} {lo hi mx:Option (SV σ)} {b:Bd σ} (e:bdS n lo hi mx=some b):b.h s=match hiO hi b.h with | some h=>h s | none=>n s:=by
 cases hi with
 | some _=>rfl
 | none =>
   cases mx with
   | none =>
     simp only [bdS,hiS] at e
     split at e
     ·cases e
     ·cases e;rfl
   | some _=>simp only [bdS] at e;cases e
theorem strCut (l:List UInt8) (a b:Nat):(⟨l.toArray⟩:ByteArray).extract a b=⟨((l.drop a).take (b-a)).toArray⟩:=by
 apply ByteArray.ext
 rw [ByteArray.data_extract]
 simp
theorem slcS_c (s:σ) (T:Ty) (lk:Nat→Option AK) (t:Nat) (x:SV σ) (lo hi mx:Option (SV σ)):OkQ s (slcS T lk t x lo hi mx) (slcA T lk t (x.c s) (lo.map (·.c s)) (hi.map (·.c s)) (mx.map (·.c s))):=by
 unfold slcS slcA
 cases hT:T t with
 | none=>exact OkQ.none
 | some i =>
   simp only
   split
   ·rename_i e hk
    cases hE:T e with
    | none=>exact OkQ.none
    | some ei =>
      simp only
      split
      ·rename_i r z o n cap
       split
       ·rename_i z' hl
        split
        ·rename_i b hd hb
         obtain ⟨h1,h2⟩:=of_decide_eq_true hd
         intro cs v e1 e2
         cases e1
         obtain ⟨g1,g2,g3⟩:=bdS_c s hb e2
         simp only [SV.c,hl]
         rw [if_pos h1]
         simp only [sliceA,g1]
         rw [addN_c,capS_c s n cap _ _ _ _ (hiO_n s hb),subN_c,Nat.add_mul,h2]
        ·exact OkQ.none
       ·exact OkQ.none
      ·split
       ·rename_i b hb
        intro cs v e1 e2
        cases e1
        obtain ⟨g1,g2,g3⟩:=bdS_c s hb e2
        simp only [SV.c,sliceA,g1]
       ·exact OkQ.none
      ·rename_i u f
       split
       ·rename_i b hd hb
        have h1:=of_decide_eq_true hd
        intro cs v e1 e2
        cases e1
        obtain ⟨g1,g2,g3⟩:=bdS_c s hb e2
        have hn:=hiO_n s hb
        have hcap:capD none (cOf s b.m) (oOf s b.l)=none:=by cases b.m<;>rfl
        simp only [SV.c,sliceA,g1,hcap]
        have hcut:=cutS_c s b.l (hiO hi b.h) f (n:=b.h s) hn
        rw [hcut,←h1,encL_drop,encL_take]
        simp only [List.length_take,List.length_drop]
        rw [Nat.min_eq_left (by omega)]
       ·exact OkQ.none
      ·exact OkQ.none
   ·split
    ·exact OkQ.none
    ·split
     ·rename_i f hf
      split
      ·rename_i b hb
       intro cs v e1 e2
       cases e1
       obtain ⟨g1,g2,g3⟩:=bdS_c s hb e2
       have hn:=hiO_n s hb
       simp only [Option.map_none] at g1
       have hcut:=cutS_c s b.l (hiO hi b.h) f (n:=b.h s) hn
       rw [asS_c hf]
       have hsz:(⟨(f s).toArray⟩:ByteArray).size=(f s).length:=by show (f s).toArray.size=_;simp
       simp only [SV.c,sliceA,Option.map_none,hsz,g1,strCut,hcut]
      ·exact OkQ.none
     ·exact OkQ.none
   ·exact OkQ.none
def foldS (f:Int→Int→Int) (a:σ→Int):List (SV σ)→Option (σ→Int)
 | []=>some a
 | v::l=>match asI v with
   | some (_,b)=>foldS f (fun s=>f (a s) (b s)) l
   | none=>none
theorem foldS_c (s:σ) (f:Int→Int→Int) (k:IntKind):∀(l:List (SV σ)) (a r:σ→Int),foldS f a l=some r→foldA f k (a s) (cL s l)=some (r s)
 | [],a,r,h=>by rw [foldS] at h;cases h;rw [cL,foldA]
 | v::l,a,r,h=>by
   rw [foldS] at h
   split at h
   ·rename_i k' b hb
    rw [cL,asI_c hb,aInt,foldA]
    exact foldS_c s f k l _ r h
   ·cases h
def biS (T:Ty) (b:Builtin) (ts:List Nat) (args:List (SV σ)):QR σ :=
 match b,args with
 | .len,[x]=>match ts with
   | t::_=>match T t with
     | some i=>match i.k,x with
       | .str,.val (.string b)=>some ([],.val (.int .i64 b.size))
       | .str,.str f=>some ([],.int .i64 fun s=>((f s).length:Int))
       | .slice _,.lst u f=>some ([],.int .i64 fun s=>((f s).length:Int))
       | .slice _,.val (.slice none 0 0)=>some ([],.val (.int .i64 0))
       | .slice _,.sl _ _ _ n _=>some ([],.int .i64 fun s=>(n s:Int))
       | _,_=>none
     | none=>none
   | []=>none
 | .min,x::l=>match asI x with
   | some (k,a)=>match foldS minA a l with | some r=>some ([],.int k r) | none=>none
   | none=>none
 | .max,x::l=>match asI x with
   | some (k,a)=>match foldS maxA a l with | some r=>some ([],.int k r) | none=>none
   | none=>none
 | _,_=>none
theorem biS_c (s:σ) (T:Ty) (b:Builtin) (ts:List Nat) (args:List (SV σ)):OkQ s (biS T b ts args) (effB T b ts (cL s args)):=by
 unfold biS effB
 split
 ·split
  ·rename_i t _
   cases hT:T t with
   | none=>exact OkQ.none
   | some i =>
     simp only
     split
     ·rename_i h1;refine OkQ.pure ?_;simp only [cL,SV.c,h1,hT,aInt]
     ·rename_i h1;refine OkQ.pure ?_;simp only [cL,SV.c,h1,hT,aInt];show some (AV.d (.val (.int .i64 (((_:List UInt8).toArray.size:Nat):Int))))=_;simp
     ·rename_i h1;refine OkQ.pure ?_;simp only [cL,SV.c,h1,hT,aInt]
     ·rename_i h1;refine OkQ.pure ?_;simp only [cL,SV.c,h1,hT,aInt]
     ·rename_i h1;refine OkQ.pure ?_;simp only [cL,SV.c,h1,hT,aInt]
     ·exact OkQ.none
  ·exact OkQ.none
 ·split
  ·rename_i k a ha
   split
   ·rename_i r hr;refine OkQ.pure ?_;simp only [cL,asI_c ha,aInt];rw [foldS_c s minA k _ _ _ hr,SV.c];rfl
   ·exact OkQ.none
  ·exact OkQ.none
 ·split
  ·rename_i k a ha
   split
   ·rename_i r hr;refine OkQ.pure ?_;simp only [cL,asI_c ha,aInt];rw [foldS_c s maxA k _ _ _ hr,SV.c];rfl
   ·exact OkQ.none
  ·exact OkQ.none
 ·exact OkQ.none
def slLiveS (lk:Nat→Option AK):SV σ→Bool
 | .sl r _ _ _ _=>liveK lk r
 | _=>true
theorem slLiveS_c (s:σ) (lk:Nat→Option AK) (v:SV σ) (h:slLiveS lk v=true):slLive lk (v.c s)=true:=by
 cases v<;>simp_all [slLiveS,SV.c,slLive,aInt,aBool]
def sQ (T:Ty) (q:Nat→Bool) (lk:Nat→Option AK) (o:Oper) (ρ:Operand→SV σ):QR σ :=
 match o.op with
 | .move x=>some ([],ρ x)
 | .assign x=>some ([],ρ x)
 | .pick c a b=>pickS (ρ c) (ρ a) (ρ b)
 | .build t parts=>buildS T lk t (partsS ρ parts)
 | .nilCheck x=>nilCS lk (ρ x)
 | .binOp op t x y _=>binS T q lk op t (ρ x) (ρ y)
 | .unOp op _ x=>unS op (ρ x)
 | .convert src dst x=>convS T src dst (ρ x)
 | .makeFunc fn first caps=>match fn with
   | .func f=>match Nat.blt f 1048576 with
     | true=>some ([],.clo (f+1048576*first.size) (first.toList.map ρ++caps.toList.map ρ))
     | false=>none
   | _=>none
 | .fieldAddr t x j=>faS T lk t j (ρ x)
 | .field t x j=>fdS T t j (ρ x)
 | .indexAddr t x ix=>iaS T lk t (ρ x) (ρ ix)
 | .index t x ix=>ixS T t (ρ x) (ρ ix)
 | .slice t x lo hi mx=>slcS T lk t (ρ x) (lo.map ρ) (hi.map ρ) (mx.map ρ)
 | .extract x j=>match ρ x with
   | .tup vs=>match vs[j]? with | some v=>some ([],v) | none=>none
   | _=>none
 | .call c=>match c.callee with
   | .builtin b=>match c.args.toList.all fun x=>slLiveS lk (ρ x) with
     | true=>biS T b c.argTypes.toList (c.args.toList.map ρ)
     | false=>none
   | _=>none
 | _=>none
theorem opt_map_c (s:σ) (ρ:Operand→SV σ) (x:Option Operand):x.map (fun x=>(ρ x).c s)=(x.map ρ).map (·.c s):=by cases x<;>rfl
theorem list_map_c (s:σ) (ρ:Operand→SV σ) (l:List Operand):l.map (fun x=>(ρ x).c s)=cL s (l.map ρ):=by rw [cL_map,List.map_map];rfl
theorem sQ_c (s:σ) (T:Ty) (q:Nat→Bool) (lk:Nat→Option AK) (o:Oper) (ρ:Operand→SV σ):OkQ s (sQ T q lk o ρ) (effQ T q lk o fun x=>(ρ x).c s):=by
 unfold sQ effQ
 cases ho:o.op with
 | move x=>exact OkQ.pure rfl
 | assign x=>exact OkQ.pure rfl
 | pick c a b=>exact pickS_c s _ _ _
 | build t parts =>
   simp only
   unfold buildS
   cases hT:T t with
   | none=>exact OkQ.none
   | some i =>
     simp only
     split
     ·exact OkQ.none
     ·rename_i hall
      have hall':(parts.toList.all fun p=>isV lk ((ρ p.2).c s))=true:=by
       rw [List.all_eq_true] at hall ⊢
       intro p hp
       rw [isVS_c]
       exact hall (p.1,ρ p.2) (List.mem_map.2 ⟨p,hp,rfl⟩)
      rw [if_neg (by rw [hall'];simp)]
      split
      ·exact OkQ.none
      ·rename_i z hz
       have hz':=zeroS_c s hz
       have hp':(parts.toList.map fun p=>(p.1,(ρ p.2).c s))=(partsS ρ parts).map fun p=>(p.1,p.2.c s):=by unfold partsS;rw [List.map_map];rfl
       split
       ·rename_i fs hk
        split
        ·rename_i pl hpl
         split
         ·rename_i r hr
          refine OkQ.pure ?_
          simp only [hk,hpl]
          rw [SV.c,←hz',hp',fillS_c s _ _ _ _ hr,Option.map_some]
         ·exact OkQ.none
        ·exact OkQ.none
       ·rename_i n e hk
        split
        ·rename_i ei hei
         split
         ·rename_i r hr
          refine OkQ.pure ?_
          simp only [hk,hei]
          rw [SV.c,←hz',hp',fillS_c s _ _ _ _ hr,Option.map_some]
         ·exact OkQ.none
        ·exact OkQ.none
       ·exact OkQ.none
 | nilCheck x=>exact nilCS_c s lk _
 | binOp op t x y ty=>exact binS_c s T q lk _ _ _ _
 | unOp op t x=>exact unS_c s _ _
 | convert a b x=>exact convS_c s T _ _ _
 | makeFunc fn first caps =>
   simp only
   cases fn with
   | func f =>
     simp only
     split
     ·rename_i hb
      refine OkQ.pure ?_
      rw [if_pos hb,SV.c,cL_append,list_map_c,list_map_c]
     ·exact OkQ.none
   | _=>exact OkQ.none
 | fieldAddr t x j=>exact faS_c s T lk _ _ _
 | field t x j=>exact fdS_c s T _ _ _
 | indexAddr t x ix=>exact iaS_c s T lk _ _ _
 | index t x ix=>exact ixS_c s T _ _ _
 | slice t x lo hi mx =>
   have:=slcS_c s T lk t (ρ x) (lo.map ρ) (hi.map ρ) (mx.map ρ)
   rw [←opt_map_c,←opt_map_c,←opt_map_c] at this
   exact this
 | extract x j =>
   simp only
   split
   ·rename_i vs hv
    split
    ·rename_i v hj
     refine OkQ.pure ?_
     rw [hv,SV.c]
     show (cL s vs)[j]? = _
     rw [cL_get,hj,Option.map_some]
    ·exact OkQ.none
   ·exact OkQ.none
 | call c =>
   simp only
   cases hc:c.callee with
   | builtin b =>
     simp only
     split
     ·rename_i hall
      have hall':c.args.toList.all (fun x=>slLive lk ((ρ x).c s))=true:=List.all_eq_true.2 fun x hx=>slLiveS_c s lk _ (List.all_eq_true.1 hall x hx)
      rw [if_pos hall',list_map_c]
      exact biS_c s T _ _ _
     ·exact OkQ.none
   | _=>exact OkQ.none
 | _=>exact OkQ.none
end
end Go.Proofs.Ytkpijdndakljjaa
namespace Go.Proofs.Ytkpijdndakljjaa
open Go.RowKit
inductive HR:Type→Type 1 where
 | ok {σ:Type} (v:SV σ) (us:List (Nat×SO σ)):HR σ
 | req {σ:Type} (c:List (σ→Bool)) (r:HR σ):HR σ
 | bnd {σ α:Type} (f:σ→Option α) (r:HR (σ×α)):HR σ
 | fail {σ:Type} (msg:String):HR σ
 | iff {σ:Type} (c:σ→Bool) (t e:HR σ):HR σ
def HR.Ok:{σ:Type}→HR σ→σ→Option (AV×List (Nat×AO))→Prop
 | _,.ok v us,s,x=>x=some (v.c s,cO s us)
 | _,.req c r,s,x=>allT s c→r.Ok s x
 | _,.bnd f r,s,x=>∀a,f s=some a→r.Ok (s,a) x
 | _,.fail _,_,_=>True
 | _,.iff c t e,s,x=>bif c s then t.Ok s x else e.Ok s x
theorem nrm1_enc:∀(t:U) (x:t.T),(encU t x).map nrm1=encU t x
 | .int k,n=>rfl
 | .bool,b=>rfl
 | .str,s=>rfl
 | .list t,l=>rfl
 | .pair a b,p=>by
   show (encU a p.1++encU b p.2).map nrm1=encU a p.1++encU b p.2
   rw [List.map_append,nrm1_enc a,nrm1_enc b]
 | .unit,_=>rfl
theorem allDV_data (rd:Nat→Option AO):∀l:List DV,allDV rd (l.map .d)=some (l.map nrm1,[])
 | []=>rfl
 | x::l=>by rw [List.map_cons,allDV,toDV,allDV_data rd l];rfl
theorem allDV_append {rd:Nat→Option AO}:∀ {a b:List AV} {xs ys:List DV} {us vs:List (Nat×AO)},allDV rd a=some (xs,us)→allDV rd b=some (ys,vs)→allDV rd (a++b)=some (xs++ys,us++vs)
 | [],b,xs,ys,us,vs,h,k=>by rw [allDV] at h;cases h;exact k
 | x::a,b,xs,ys,us,vs,h,k=>by
   rw [allDV] at h
   rw [List.cons_append,allDV]
   cases hx:toDV rd x with
   | none=>rw [hx] at h;cases h
   | some y =>
     rw [hx] at h
     cases ha:allDV rd a with
     | none=>rw [ha] at h;cases h
     | some r =>
       rw [ha] at h
       cases h
       rw [allDV_append ha k]
       simp
theorem allDV_split {rd:Nat→Option AO}:∀ {a b:List AV} {xs:List DV} {us:List (Nat×AO)},allDV rd (a++b)=some (xs,us)→∃x1 x2 u1 u2,allDV rd a=some (x1,u1)∧allDV rd b=some (x2,u2)∧xs=x1++x2∧us=u1++u2
 | [],b,xs,us,h=>⟨[],xs,[],us,rfl,h,rfl,rfl⟩
 | x::a,b,xs,us,h=>by
   rw [List.cons_append,allDV] at h
   cases hx:toDV rd x with
   | none=>rw [hx] at h;cases h
   | some y =>
     rw [hx] at h
     cases ha:allDV rd (a++b) with
     | none=>rw [ha] at h;cases h
     | some r =>
       rw [ha] at h
       cases h
       obtain ⟨x1,x2,u1,u2,h1,h2,h3,h4⟩:=allDV_split ha
       refine ⟨y.1::x1,x2,y.2++u1,u2,by rw [allDV,hx,h1],h2,by rw [h3];rfl,by rw [h4,List.append_assoc]⟩
theorem takeD_eq:∀(n:Nat) (cs:List DV) (o:Nat),o+n≤cs.length→takeD cs o n=some (((cs.drop o).take n).map .d)
 | 0,cs,o,h=>by simp [takeD]
 | n+1,cs,o,h=>by
   rw [takeD,List.getElem?_eq_getElem (by omega),takeD_eq n cs (o+1) (by omega),List.drop_eq_getElem_cons (by omega:o<cs.length)]
   rfl
section
variable {σ:Type}
def castLF {a b:U} (h:a=b) (f:σ→List a.T):σ→List b.T:=h▸f
def rowP {α:Type} (o:Option (σ→Nat)) (n:σ→Nat) (f:σ→List α):σ→List α :=
 match o with
 | none=>fun s=>(f s).take (n s)
 | some o=>fun s=>((f s).drop (o s)).take (n s)
theorem rowP_eq {α:Type} (s:σ) (o:Option (σ→Nat)) (n:σ→Nat) (f:σ→List α):rowP o n f s=((f s).drop (oOf s o)).take (n s):=by
 cases o<;>simp [rowP,oOf]
def rowC {α:Type} (o:Option (σ→Nat)) (n:σ→Nat) (f:σ→List α):σ→Bool :=
 match o with
 | none=>fun s=>decide (n s≤(f s).length)
 | some o=>fun s=>decide (o s+n s≤(f s).length)
theorem rowC_eq {α:Type} {s:σ} {o:Option (σ→Nat)} {n:σ→Nat} {f:σ→List α} (h:rowC o n f s=true):oOf s o+n s≤(f s).length:=by
 cases o<;>simp only [rowC,decide_eq_true_eq,oOf] at * <;> omega
structure PK (σ:Type) (t:Type) where
 f:σ→t
 cs:List (σ→Bool)
 fz:List (Nat×SO σ)
def pkL (rd:Nat→Option (SO σ)) (t:U) (v:SV σ):Option (PK σ (List t.T)) :=
 match v with
 | .lst u f=>match eqU u t with | some ⟨h⟩=>some ⟨castLF h f,[],[]⟩ | none=>none
 | .val (.slice none 0 0)=>some ⟨fun _=>[],[],[]⟩
 | .sl r z o n _=>match rd r with
   | some (.data e u f wr)=>match eqU u t,decide (z=szU u) with
     | some ⟨h⟩,true=>some ⟨castLF h (rowP o n f),[rowC o n f],[(r,.data e u f false)]⟩
     | _,_=>none
   | _=>none
 | _=>none
def pkU (rd:Nat→Option (SO σ)):(t:U)→List (SV σ)→Option (PK σ t.T)
 | .int k,cells=>match cells with
   | [v]=>match asI v with
     | some (k',f)=>match kindEq k k' with | some _=>some ⟨f,[],[]⟩ | none=>none
     | none=>none
   | _=>none
 | .bool,cells=>match cells with
   | [v]=>match asB v with | some f=>some ⟨f,[],[]⟩ | none=>none
   | _=>none
 | .str,cells=>match cells with
   | [v]=>match asS v with | some f=>some ⟨f,[],[]⟩ | none=>none
   | _=>none
 | .list t,cells=>match cells with
   | [v]=>pkL rd t v
   | _=>none
 | .pair a b,cells=>match pkU rd a (cells.take (szU a)),pkU rd b (cells.drop (szU a)) with
   | some x,some y=>some ⟨fun s=>(x.f s,y.f s),x.cs++y.cs,x.fz++y.fz⟩
   | _,_=>none
 | .unit,cells=>match cells with
   | []=>some ⟨fun _=>(),[],[]⟩
   | _=>none
def rdc (s:σ) (rd:Nat→Option (SO σ)):Nat→Option AO:=fun r=>(rd r).map (·.c s)
theorem pkL_c (s:σ) {rd:Nat→Option (SO σ)} {t:U} {v:SV σ} {p:PK σ (List t.T)} (h:pkL rd t v=some p) (hc:allT s p.cs):toDV (rdc s rd) (v.c s)=some (.dl (encL t (p.f s)) (p.f s).length none,cO s p.fz):=by
 unfold pkL at h
 split at h
 ·split at h
  ·rename_i hk _
   subst hk
   cases h
   rw [SV.c];rfl
  ·cases h
 ·cases h;rw [SV.c];rfl
 ·rename_i r z o n cap
  split at h
  ·rename_i e u f wr hr
   split at h
   ·rename_i hk _ hz
    subst hk
    cases h
    have hz:=of_decide_eq_true hz
    have h1:=rowC_eq hc.1
    rw [SV.c]
    simp only [toDV,rdc,hr,Option.map_some,SO.c,castLF,cO]
    rw [rowP_eq,hz,encL_drop,encL_take,List.length_take,List.length_drop,Nat.min_eq_left (by omega)]
   ·cases h
  ·cases h
 ·cases h
theorem pkU_c (s:σ) {rd:Nat→Option (SO σ)}:∀(t:U) (cells:List (SV σ)) (p:PK σ t.T),pkU rd t cells=some p→allT s p.cs→allDV (rdc s rd) (cL s cells)=some (encU t (p.f s),cO s p.fz)
 | .int k,cells,p,h,hc=>by
   simp only [pkU] at h
   split at h
   ·split at h
    ·rename_i hf
     split at h
     ·rename_i hk _
      obtain ⟨hk⟩:=hk
      subst hk
      cases h
      simp only [cL,asI_c hf,aInt,allDV,toDV];rfl
     ·cases h
    ·cases h
   ·cases h
 | .bool,cells,p,h,hc=>by
   simp only [pkU] at h
   split at h
   ·split at h
    ·rename_i hf;cases h;simp only [cL,asB_c hf,aBool,allDV,toDV];rfl
    ·cases h
   ·cases h
 | .str,cells,p,h,hc=>by
   simp only [pkU] at h
   split at h
   ·split at h
    ·rename_i hf;cases h;simp only [cL,asS_c hf,allDV,toDV];rfl
    ·cases h
   ·cases h
 | .list t,cells,p,h,hc=>by
   simp only [pkU] at h
   split at h
   ·have:=pkL_c s h hc
    simp only [cL,allDV,this,List.append_nil]
    rfl
   ·cases h
 | .pair a b,cells,p,h,hc=>by
   simp only [pkU] at h
   split at h
   ·rename_i x y hx hy
    cases h
    rw [allT_append] at hc
    have h1:=pkU_c s a _ x hx hc.1
    have h2:=pkU_c s b _ y hy hc.2
    have:=allDV_append h1 h2
    rw [←cL_append,List.take_append_drop] at this
    rw [this,cO_append]
    rfl
   ·cases h
 | .unit,cells,p,h,hc=>by
   simp only [pkU] at h
   split at h
   ·cases h;rfl
   ·cases h
def pkN (rd:Nat→Option (SO σ)) (t:U):Nat→List (SV σ)→Option (PK σ (List t.T))
 | 0,cells=>match cells with | []=>some ⟨fun _=>[],[],[]⟩ | _=>none
 | n+1,cells=>match pkU rd t (cells.take (szU t)),pkN rd t n (cells.drop (szU t)) with
   | some x,some y=>some ⟨fun s=>x.f s::y.f s,x.cs++y.cs,x.fz++y.fz⟩
   | _,_=>none
theorem pkN_c (s:σ) {rd:Nat→Option (SO σ)} {t:U}:∀(n:Nat) (cells:List (SV σ)) (p:PK σ (List t.T)),pkN rd t n cells=some p→allT s p.cs→allDV (rdc s rd) (cL s cells)=some (encL t (p.f s),cO s p.fz)∧(p.f s).length=n
 | 0,cells,p,h,hc=>by
   simp only [pkN] at h
   split at h
   ·cases h;exact ⟨rfl,rfl⟩
   ·cases h
 | n+1,cells,p,h,hc=>by
   simp only [pkN] at h
   split at h
   ·rename_i x y hx hy
    cases h
    rw [allT_append] at hc
    have h1:=pkU_c s t _ x hx hc.1
    obtain ⟨h2,h3⟩:=pkN_c s n _ y hy hc.2
    have:=allDV_append h1 h2
    rw [←cL_append,List.take_append_drop] at this
    exact ⟨by rw [this,cO_append];rfl,by rw [List.length_cons,h3]⟩
   ·cases h
def uOf (T:Ty):Nat→Nat→Option U
 | 0,_=>none
 | n+1,t=>match T t with
   | none=>none
   | some i=>match i.k with
     | .int k=>some (.int k)
     | .bool=>some .bool
     | .str=>some .str
     | .slice e=>match uOf T n e with | some u=>some (.list u) | none=>none
     | .agg fs=>pairs (fs.map fun f=>uOf T n f.2)
     | .arr m e=>pairs (List.replicate m (uOf T n e))
     | _=>none
where pairs:List (Option U)→Option U
 | []=>some .unit
 | [u]=>u
 | u::l=>match u,pairs l with | some u,some v=>some (.pair u v) | _,_=>none
def loadE (i:TI) (u:U) (off:Nat):Option (SV (σ×u.T)):=partS i (unU u fun p=>p.2) off
theorem loadD_enc {σ:Type} (s:σ) {i:TI} {u:U} {l:List u.T} {j off:Nat} {x:u.T} (hx:l[j]? = some x) {v:SV (σ×u.T)} (h:loadE i u off=some v) (hs:off<szU u∨i.k.isAgg=true):loadD i (encL u l) (j*szU u+off)=some (v.c (s,x)):=by
 unfold loadE at h
 have hp:=partS_c (s,x) h
 rw [unU_c] at hp
 unfold partA at hp
 unfold loadD
 split
 ·rename_i hk
  rw [if_pos hk] at hp
  split at hp
  ·rename_i hle
   rw [List.length_map,encU_length] at hle
   rw [←Option.some.inj hp]
   have hlen:(j+1)*szU u≤(encL u l).length:=by
    rw [encL_length]
    exact Nat.mul_le_mul_right _ (List.getElem?_eq_some_iff.1 hx).1
   rw [Nat.succ_mul] at hlen
   rw [takeD_eq _ _ _ (by omega),Option.map_some]
   congr 2
   rw [←List.drop_drop,encL_get u hx,List.drop_append_of_le_length (by rw [encU_length];omega),List.take_append_of_le_length (by rw [List.length_drop,encU_length];omega),List.map_take,List.map_drop]
  ·cases hp
 ·rename_i hk
  rw [if_neg hk] at hp
  rw [encL_cell u hx (by rcases hs with h | h;exact h;exact (hk h).elim)]
  rw [List.getElem?_map] at hp
  exact hp
theorem partA_enc {σ:Type} (s:σ) {i:TI} {u:U} {l:List u.T} {j off:Nat} {x:u.T} (hx:l[j]? = some x) {v:SV (σ×u.T)} (h:loadE i u off=some v) (hs:off<szU u∨i.k.isAgg=true):partA i ((encL u l).map .d) (j*szU u+off)=some (v.c (s,x)):=by
 have h1:=loadD_enc s hx h hs
 unfold loadD at h1
 unfold partA
 split
 ·rename_i hk
  rw [if_pos hk] at h1
  have hlen:(j+1)*szU u≤(encL u l).length:=by
   rw [encL_length]
   exact Nat.mul_le_mul_right _ (List.getElem?_eq_some_iff.1 hx).1
  rw [Nat.succ_mul] at hlen
  have hle:off+i.size≤szU u:=by
   have hp:=partS_c (s,x) (show partS i (unU u fun p=>p.2) off=some v from h)
   unfold partA at hp
   rw [if_pos hk] at hp
   split at hp
   ·rename_i hle;rw [cL_length,unU_length] at hle;exact hle
   ·cases hp
  rw [if_pos (by rw [List.length_map];omega)]
  rw [takeD_eq _ _ _ (by omega)] at h1
  simp only [Option.map_some] at h1
  rw [←h1,List.map_take,List.map_drop]
 ·rename_i hk
  rw [if_neg hk] at h1
  rw [List.getElem?_map]
  exact h1
def offOk (i:TI) (u:U) (off:Nat):Bool:=decide (off<szU u)||i.k.isAgg
theorem preI_at (s:σ) (k:IntKind) (cs:List (SV σ)) (off j:Nat) (a:Int) (h:(evL s (preI k (cs.drop off)))[j]? = some a):(cL s cs)[j+off]? = some (aInt k a):=by
 have h1:=preI_c s k (cs.drop off)
 have h2:=evL_length s (preI k (cs.drop off))
 have hj:=(List.getElem?_eq_some_iff.1 h).1
 generalize hF:preI k (cs.drop off)=F at *
 have e:((cs.drop off).take F.length)[j]? = cs[j+off]? := by
  rw [List.getElem?_take,if_pos (by omega),List.getElem?_drop,Nat.add_comm]
 have e2:(cL s ((cs.drop off).take F.length))[j]? = (cL s cs)[j+off]? := by
  rw [cL_map,cL_map,List.getElem?_map,List.getElem?_map,e]
 rw [←e2,h1,List.getElem?_map,h]
 rfl
def mixS (i:TI) (cs:List (SV σ)) (z:Nat) (j:σ→Nat) (off:Nat):Nat→HR σ
 | 0 => .fail "load: index"
 | n+1=>match partS i cs (n*z+off) with
   | some v => .iff (fun s=>decide (j s=n)) (.ok v []) (mixS i cs z j off n)
   | none=>mixS i cs z j off n
theorem mixS_c (s:σ) (i:TI) (cs:List (SV σ)) (z:Nat) (j:σ→Nat) (off:Nat):∀n,(mixS i cs z j off n).Ok s ((partA i (cL s cs) (j s*z+off)).map fun v=>(v,[]))
 | 0=>trivial
 | n+1=>by
   rw [mixS]
   split
   ·rename_i v hv
    rw [HR.Ok]
    cases h:decide (j s=n) with
    | true =>
      rw [of_decide_eq_true h,partS_c s hv]
      rfl
    | false=>exact mixS_c s i cs z j off n
   ·exact mixS_c s i cs z j off n
def loadS (T:Ty) (rd:Nat→Option (SO σ)) (t:Nat) (x:SV σ):HR σ :=
 match T t with
 | some i=>match x with
   | .ptr r off=>match rd r with
     | some (.mix cs)=>match partS i cs off with | some v => .ok v [] | none => .fail "load: part"
     | some (.arr u f)=>match decide (szU u=1),i.k.isAgg with
       | true,false=>match (loadE i u 0:Option (SV (σ×u.T))) with
         | some v => .bnd (fun s=>(f s)[off]?) (.ok v [])
         | none => .fail "load: element"
       | _,_ => .fail "load: array"
     | _ => .fail "load: object"
   | .ptx r z j off=>match rd r with
     | some (.data e u f wr)=>match decide (z=szU u)&&offOk i u off,(loadE i u off:Option (SV (σ×u.T))) with
       | true,some v => .bnd (fun s=>(f s)[j s]?) (.ok v [])
       | _,_ => .fail "load: element"
     | some (.arr u f)=>match decide (z=szU u)&&offOk i u off,(loadE i u off:Option (SV (σ×u.T))) with
       | true,some v => .bnd (fun s=>(f s)[j s]?) (.ok v [])
       | _,_ => .fail "load: element"
     | some (.mix cs)=>match kindI (cs.drop off),decide (i.size=1∧z=1∧i.k.isAgg=false) with
       | some k,true => .bnd (fun s=>(evL s (preI k (cs.drop off)))[j s]?) (.ok (.int k fun p=>p.2) [])
       | _,_=>match decide (0<z∧cs.length≤40) with
         | true=>mixS i cs z j off ((cs.length-off+z-1) / z)
         | false => .fail "load: object"
     | _ => .fail "load: object"
   | .dpt u f j off=>match offOk i u off&&decide (0<szU u),(loadE i u off:Option (SV (σ×u.T))) with
     | true,some v => .bnd (fun s=>(f s)[j s]?) (.ok v [])
     | _,_ => .fail "load: element"
   | _ => .fail "load"
 | none => .fail "load: type"
def loadA' (T:Ty) (rd:Nat→Option AO) (t:Nat) (x:AV):Option (AV×List (Nat×AO)) :=
 match T t with
  | some i=>match x with
    | .ptr r off=>match rd r with
      | some (.data _ _ cs _)=>loadD i cs off |>.map fun v=>(v,[])
      | some (.mix cs)=>partA i cs off |>.map fun v=>(v,[])
      | _=>none
    | .dptr cells off=>if cells.isEmpty then none else loadD i cells off |>.map fun v=>(v,[])
    | _=>none
  | none=>none
theorem encL_ne {u:U} {l:List u.T} {j:Nat} {x:u.T} (h:l[j]? = some x) (hu:0<szU u):(encL u l).isEmpty=false:=by
 have h1:=(List.getElem?_eq_some_iff.1 h).1
 have hlen:=encL_length u l
 have hpos:0<l.length*szU u:=Nat.mul_pos (by omega) hu
 cases hc:encL u l with
 | nil=>rw [hc] at hlen;simp at hlen;omega
 | cons _ _=>rfl
theorem offOk_of {i:TI} {u:U} {off:Nat} (h:offOk i u off=true):off<szU u∨i.k.isAgg=true:=by
 unfold offOk at h
 simpa using h
theorem loadS_c (s:σ) (T:Ty) (rd:Nat→Option (SO σ)) (t:Nat) (x:SV σ):(loadS T rd t x).Ok s (loadA' T (rdc s rd) t (x.c s)):=by
 unfold loadS loadA'
 cases hT:T t with
 | none=>trivial
 | some i =>
   simp only
   split
   ·rename_i r off
    split
    ·rename_i cs hr
     split
     ·rename_i v hv
      simp only [HR.Ok,SV.c,rdc,hr,Option.map_some,SO.c,partS_c s hv,cO]
     ·trivial
    ·rename_i u f hr
     split
     ·rename_i hz hk
      split
      ·rename_i v hv
       intro a ha
       have hz:=of_decide_eq_true hz
       have:=partA_enc s ha hv (.inl (by omega))
       rw [hz,Nat.mul_one,Nat.add_zero] at this
       simp only [HR.Ok,SV.c,rdc,hr,Option.map_some,SO.c,this,cO]
      ·trivial
     ·trivial
    ·trivial
   ·rename_i r z j off
    split
    ·rename_i e u f wr hr
     split
     ·rename_i v hz hv
      simp only [Bool.and_eq_true,decide_eq_true_eq] at hz
      intro a ha
      have:=loadD_enc s ha hv (offOk_of hz.2)
      simp only [HR.Ok,SV.c,rdc,hr,Option.map_some,SO.c,hz.1,this,cO]
     ·trivial
    ·rename_i u f hr
     split
     ·rename_i v hz hv
      simp only [Bool.and_eq_true,decide_eq_true_eq] at hz
      intro a ha
      have:=partA_enc s ha hv (offOk_of hz.2)
      simp only [HR.Ok,SV.c,rdc,hr,Option.map_some,SO.c,hz.1,this,cO]
     ·trivial
    ·rename_i cs hr
     split
     ·rename_i k hk hd
      obtain ⟨h1,h2,h3⟩:=of_decide_eq_true hd
      intro a ha
      have:=preI_at s k cs off (j s) a ha
      simp only [HR.Ok,SV.c,rdc,hr,Option.map_some,SO.c,cO]
      rw [h2,Nat.mul_one]
      unfold partA
      rw [if_neg (by rw [h3];decide),this,Option.map_some]
     ·split
      ·have:=mixS_c s i cs z j off ((cs.length-off+z-1) / z)
       simp only [SV.c,rdc,hr,Option.map_some,SO.c]
       exact this
      ·trivial
    ·trivial
   ·rename_i u f j off
    split
    ·rename_i v hz hv
     simp only [Bool.and_eq_true,decide_eq_true_eq] at hz
     intro a ha
     have:=loadD_enc s ha hv (offOk_of hz.1)
     simp only [HR.Ok,SV.c,encL_ne ha hz.2,this,Option.map_some,cO]
     rfl
    ·trivial
   ·trivial
end
end Go.Proofs.Ytkpijdndakljjaa
namespace Go.Proofs.Ytkpijdndakljjaa
open Go.RowKit
theorem splice_front {α:Type}:∀(A L:List α) (o:Nat) (new:List α),splice (A++L) (A.length+o) new=A++splice L o new
 | [],L,o,new=>by simp
 | a::A,L,o,new=>by
   rw [List.cons_append,List.length_cons,show A.length+1+o=(A.length+o)+1 from by omega,splice,splice_front A L o new];rfl
theorem splice_back {α:Type}:∀(X B:List α) (o:Nat) (new:List α),o+new.length≤X.length→splice (X++B) o new=splice X o new++B
 | X,B,0,new,h=>by rw [splice,splice,List.drop_append_of_le_length (by omega),List.append_assoc]
 | [],B,o+1,new,h=>by simp at h
 | x::X,B,o+1,new,h=>by
   rw [List.cons_append,splice,splice,splice_back X B o new (by simp at h;omega)];rfl
theorem splice_eq {α:Type}:∀(l:List α) (o:Nat) (new:List α),o≤l.length→splice l o new=l.take o++new++l.drop (o+new.length)
 | l,0,new,h=>by rw [splice];simp
 | [],o+1,new,h=>by simp at h
 | x::l,o+1,new,h=>by
   rw [splice,splice_eq l o new (by simp at h;omega),List.take_succ_cons,show o+1+new.length=(o+new.length)+1 from by omega,List.drop_succ_cons];rfl
theorem encL_set {u:U} {l:List u.T} {j:Nat} {x:u.T} (h:l[j]? = some x) (x':u.T) {off:Nat} {ns:List DV} (hn:off+ns.length≤szU u) (he:encU u x'=splice (encU u x) off ns):splice (encL u l) (j*szU u+off) ns=encL u (l.set j x'):=by
 obtain ⟨hj,hx⟩:=List.getElem?_eq_some_iff.1 h
 have h1:encL u l=encL u (l.take j)++(encU u x++encL u (l.drop (j+1))):=by
  rw [←encL_get u h,encL_drop,←encL_append,List.take_append_drop]
 have h2:(encL u (l.take j)).length=j*szU u:=by rw [encL_length,List.length_take,Nat.min_eq_left (by omega)]
 rw [h1,←h2,splice_front,splice_back _ _ _ _ (by rw [encU_length];exact hn),←he,List.set_eq_take_append_cons_drop,if_pos hj,encL_append]
 rfl
section
variable {σ:Type}
def okCellS (lk:Nat→Option AK):SV σ→Bool
 | .agg _=>false
 | x=>isVS lk x
theorem okCellS_c (s:σ) {rd:Nat→Option AO} {v:SV σ} (h:okCellS (kinds rd) v=true):okCell rd (v.c s)=true:=by
 have h2:isVS (kinds rd) v=true:=by
  unfold okCellS at h
  split at h
  ·cases h
  ·exact h
 rw [←isVS_c _ s] at h2
 cases v with
 | agg cs=>simp [okCellS] at h
 | _=>simp only [SV.c,aInt,aBool] at h2 ⊢;simpa [okCell] using h2
theorem okCells_c (s:σ) {rd:Nat→Option AO}:∀ {l:List (SV σ)},l.all (okCellS (kinds rd))=true→(cL s l).all (okCell rd)=true
 | [],_=>rfl
 | v::l,h=>by
   rw [List.all_cons,Bool.and_eq_true] at h
   rw [cL,List.all_cons,okCellS_c s h.1,okCells_c s h.2];rfl
def kndS (rd:Nat→Option (SO σ)):Nat→Option AK:=fun r=>(rd r).map SO.kind
theorem kinds_rdc (s:σ) (rd:Nat→Option (SO σ)):kinds (rdc s rd)=kndS rd:=by
 funext r
 unfold kinds rdc kndS
 cases rd r with
 | none=>rfl
 | some o=>simp only [Option.map_some,kind_c]
def rdMap {σ':Type} (g:σ'→σ) (rd:Nat→Option (SO σ)):Nat→Option (SO σ'):=fun r=>match rd r with | some o=>some (o.map g) | none=>none
theorem rdMap_c {σ':Type} (g:σ'→σ) (s:σ') (rd:Nat→Option (SO σ)):rdc s (rdMap g rd)=rdc (g s) rd:=by
 funext r
 unfold rdc rdMap
 cases rd r with
 | none=>rfl
 | some o=>simp only [Option.map_some,mapO_c]
def pk1 (u:U) (v:SV σ):Option (σ→u.T) :=
 match u with
 | .int k=>match asI v with
   | some (k',f)=>match kindEq k k' with
     | some _=>some f
     | none=>none
   | none=>none
 | .bool=>asB v
 | _=>none
theorem pk1_c (s:σ) {u:U} {v:SV σ} {f:σ→u.T} (h:pk1 u v=some f):[v.c s]=(encU u (f s)).map .d∧szU u=1:=by
 unfold pk1 at h
 split at h
 ·split at h
  ·rename_i hf
   split at h
   ·rename_i hk _;obtain ⟨hk⟩:=hk;subst hk;cases h;exact ⟨by rw [asI_c hf];rfl,rfl⟩
   ·cases h
  ·cases h
 ·exact ⟨by rw [asB_c h];rfl,rfl⟩
 ·cases h
def fzAway (r:Nat) (fz:List (Nat×SO σ)):Bool:=fz.all fun p=>p.1 != r
theorem fzAway_c (s:σ) (r:Nat):∀ {fz:List (Nat×SO σ)},fzAway r fz=true→(cO s fz).all (fun u=>u.1 != r)=true
 | [],_=>rfl
 | (k,o)::l,h=>by
   unfold fzAway at h
   rw [List.all_cons,Bool.and_eq_true] at h
   rw [cO,List.all_cons,h.1,fzAway_c s r h.2];rfl
def storeS (T:Ty) (rd:Nat→Option (SO σ)) (t:Nat) (x y:SV σ):HR σ :=
 match T t with
 | some i=>match decide (y.cells.length=i.size)&&isVS (kndS rd) y with
   | false => .fail "store: value"
   | true=>match x with
     | .ptr r off=>match rd r with
       | some (.mix cs)=>match decide (off+i.size≤cs.length)&&y.cells.all (okCellS (kndS rd)) with
         | true => .ok .undef [(r,.mix (splice cs off y.cells))]
         | false => .fail "store: cells"
       | some (.arr u f)=>match decide (i.size=1),pk1 u y with
         | true,some g => .req [fun s=>decide (off<(f s).length)] (.ok .undef [(r,.arr u fun s=>(f s).set off (g s))])
         | _,_ => .fail "store: scalar"
       | _ => .fail "store: object"
     | .ptx r z j off=>match rd r with
       | some (.data e u f true)=>match decide (z=szU u∧off+i.size≤szU u),pkU (rdMap Prod.fst rd) u (splice (unU u fun p:σ×u.T=>p.2) off (mapL Prod.fst y.cells)) with
         | true,some p=>match fzAway r p.fz with
           | true => .bnd (fun s=>(f s)[j s]?) (.req p.cs (.ok .undef ((r,.data e u (fun q=>(f q.1).set (j q.1) (p.f q)) true)::p.fz)))
           | false => .fail "store: of itself"
         | _,_ => .fail "store: element"
       | some (.arr u f)=>match decide (i.size=1∧z=1∧off=0),pk1 u y with
         | true,some g => .req [fun s=>decide (j s<(f s).length)] (.ok .undef [(r,.arr u fun s=>(f s).set (j s) (g s))])
         | _,_ => .fail "store: scalar"
       | some (.mix cs)=>match kindI (cs.drop off) with
         | some k=>match intsS k y.cells,y.cells.all (okCellS (kndS rd)) with
           | some gs,true => .req [fun s=>decide (j s*z+gs.length≤(preI k (cs.drop off)).length)] (.bnd (fun s=>some (putL (evL s (preI k (cs.drop off))) (j s*z) (evL s gs))) (.ok .undef [(r,.mix (mapL Prod.fst (cs.take off)++cellsI k (fun p=>p.2) (preI k (cs.drop off)).length 0++mapL Prod.fst (cs.drop (off+(preI k (cs.drop off)).length))))]))
           | _,_ => .fail "store: integers"
         | none => .fail "store: object"
       | _ => .fail "store: object"
     | _ => .fail "store"
 | none => .fail "store: type"
def storeA' (T:Ty) (rd:Nat→Option AO) (t:Nat) (x y:AV):Option (AV×List (Nat×AO)) :=
 match T t with
  | some i=>match x with
    | .ptr r off=>let new:=y.cellsOf
      match rd r with
      | some (.mix cs)=>if new.length=i.size∧off+i.size≤cs.length∧isV (kinds rd) y∧new.all (okCell rd) then some (.undef,[(r,.mix (splice cs off new))]) else none
      | some (.data e s cs true)=>match allDV rd new with
        | some (ns,us)=>if new.length=i.size∧off+i.size≤cs.length∧isV (kinds rd) y∧us.all (fun u=>u.1 != r) then some (.undef,(r,.data e s (splice cs off ns) true)::us) else none
        | none=>none
      | _=>none
    | _=>none
  | none=>none
theorem arr_set {u:U} {l:List u.T} {j:Nat} (h1:szU u=1) (hj:j<l.length) (x:u.T) (c:AV) (hc:[c]=(encU u x).map .d):splice ((encL u l).map .d) j [c]=(encL u (l.set j x)).map AV.d:=by
 have hne:(encL u l).length=l.length:=by rw [encL_length,h1,Nat.mul_one]
 have he:encU u x=splice (encU u l[j]) 0 (encU u x):=by
  rw [splice,List.drop_eq_nil_of_le (by rw [encU_length,encU_length];exact Nat.le_refl _),List.append_nil]
 have:=encL_set (List.getElem?_eq_getElem hj) x (off:=0) (ns:=encU u x) (by rw [encU_length];omega) he
 rw [h1,Nat.mul_one,Nat.add_zero] at this
 rw [←this,splice_map,hc]
theorem preI_le (k:IntKind):∀cs:List (SV σ),(preI k cs).length≤cs.length
 | []=>Nat.le_refl _
 | x::l=>by
   rw [preI]
   split
   ·split
    ·rw [List.length_cons,List.length_cons];have:=preI_le k l;omega
    ·exact Nat.zero_le _
   ·exact Nat.zero_le _
theorem mix_put (s:σ) (k:IntKind) (cs:List (SV σ)) (off p:Nat) (gs:List (σ→Int)) (hk:kindI (cs.drop off)=some k) (h:p+gs.length≤(preI k (cs.drop off)).length) (a:List Int) (ha:a=putL (evL s (preI k (cs.drop off))) p (evL s gs)) :
 off+(preI k (cs.drop off)).length≤cs.length∧cL (s,a) (mapL Prod.fst (cs.take off)++cellsI k (fun p=>p.2) (preI k (cs.drop off)).length 0++mapL Prod.fst (cs.drop (off+(preI k (cs.drop off)).length)))=splice (cL s cs) (p+off) ((evL s gs).map (aInt k)):=by
 have h0:=preI_le k (cs.drop off)
 have h1:=preI_c s k (cs.drop off)
 have h2:=evL_length s (preI k (cs.drop off))
 have h3:=evL_length s gs
 have hoff:off<cs.length:=by
  rcases Nat.lt_or_ge off cs.length with g | g
  ·exact g
  ·rw [List.drop_eq_nil_of_le g] at hk;cases hk
 rw [List.length_drop] at h0
 have hle:off+(preI k (cs.drop off)).length≤cs.length:=by omega
 refine ⟨hle,?_⟩
 generalize preI k (cs.drop off)=F at *
 have hAl:=cL_length (s:=s) cs
 rw [cL_append,cL_append,cellsI_c (s,a) k _ _ 0 (by show 0+F.length=a.length;rw [ha,putL_length _ _ _ (by omega)];omega),List.drop_zero,mapL_c,mapL_c]
 show cL s (cs.take off)++a.map (aInt k)++cL s (cs.drop (off+F.length))=_
 rw [ha]
 have e1:(evL s F).map (aInt k)=((cL s cs).drop off).take F.length:=by
  rw [←h1,cL_map,cL_map,List.map_take,List.map_drop]
 have e2:cL s (cs.take off)=(cL s cs).take off:=by rw [cL_map,cL_map,List.map_take]
 have e3:cL s (cs.drop (off+F.length))=(cL s cs).drop (off+F.length):=by rw [cL_map,cL_map,List.map_drop]
 rw [e2,e3,splice_eq _ _ _ (by omega)]
 unfold putL
 rw [List.map_append,List.map_append,List.map_take,List.map_drop,e1,List.length_map]
 generalize cL s cs=A at *
 generalize (evL s gs).map (aInt k)=G' at *
 rw [List.take_take,Nat.min_eq_left (by omega),h3]
 have t1:A.take off++(A.drop off).take p=A.take (p+off):=by rw [Nat.add_comm p off,List.take_add]
 have t2:((A.drop off).take F.length).drop (p+gs.length)++A.drop (off+F.length)=A.drop (p+off+gs.length):=by
  have hl:((A.drop off).take F.length).length=F.length:=by rw [List.length_take,List.length_drop];omega
  rw [←List.drop_drop (i:=F.length) (j:=off),←List.drop_append_of_le_length (by omega),List.take_append_drop,List.drop_drop]
  congr 1
  omega
 rw [←t1,←t2]
 simp only [List.append_assoc]
theorem storeS_c (s:σ) (T:Ty) (rd:Nat→Option (SO σ)) (t:Nat) (x y:SV σ):(storeS T rd t x y).Ok s (storeA' T (rdc s rd) t (x.c s) (y.c s)):=by
 unfold storeS storeA'
 cases hT:T t with
 | none=>trivial
 | some i =>
   simp only
   split
   ·trivial
   ·rename_i hy
    simp only [Bool.and_eq_true,decide_eq_true_eq] at hy
    obtain ⟨hlen,hv⟩:=hy
    have hlen':(y.c s).cellsOf.length=i.size:=by rw [←cells_c,cL_length];exact hlen
    have hv':isV (kinds (rdc s rd)) (y.c s)=true:=by rw [isVS_c,kinds_rdc];exact hv
    split
    ·rename_i r off
     split
     ·rename_i cs hr
      split
      ·rename_i hc
       simp only [Bool.and_eq_true,decide_eq_true_eq] at hc
       have hok:(y.c s).cellsOf.all (okCell (rdc s rd))=true:=by
        rw [←cells_c]
        exact okCells_c s (by rw [kinds_rdc];exact hc.2)
       have e1:cL s (splice cs off y.cells)=splice (cL s cs) off (y.c s).cellsOf:=by rw [cL_map,splice_map,←cL_map,←cL_map,cells_c]
       simp only [HR.Ok,SV.c,rdc,hr,Option.map_some,SO.c,cO,e1]
       rw [if_pos ⟨hlen',by rw [cL_length];exact hc.1,hv',hok⟩]
      ·trivial
     ·rename_i u f hr
      split
      ·rename_i g hi hg
       intro hc
       have hlt:=of_decide_eq_true hc.1
       have hi:=of_decide_eq_true hi
       obtain ⟨p1,p2⟩:=pk1_c s hg
       have hcell:(y.c s).cellsOf=[y.c s]:=by
        have:(y.c s).cellsOf.length=1:=by omega
        cases hyc:y.c s with
        | agg cs =>
          rw [hyc] at p1
          cases u<;>simp [encU] at p1<;>simp [pk1] at hg
        | _=>rfl
       have hok:okCell (rdc s rd) (y.c s)=true:=by
        cases hyc:y.c s with
        | agg cs =>
          rw [hyc] at p1
          cases u<;>simp [encU] at p1<;>simp [pk1] at hg
        | _=>rw [hyc] at hv';simpa [okCell] using hv'
       simp only [HR.Ok,SV.c,rdc,hr,Option.map_some,SO.c,cO]
       rw [if_pos ⟨hlen',by rw [List.length_map,encL_length,p2];omega,hv',by rw [hcell];simpa using hok⟩,hcell,arr_set p2 hlt _ _ p1]
      ·trivial
     ·trivial
    ·rename_i r z j off
     split
     ·rename_i e u f hr
      split
      ·rename_i p hd hp
       obtain ⟨hz,hoff⟩:=of_decide_eq_true hd
       split
       ·rename_i haw
        intro a ha hcs
        have h0:=pkU_c (s,a) u _ p hp hcs
        rw [rdMap_c] at h0
        have e1:cL (s,a) (splice (unU u fun p:σ×u.T=>p.2) off (mapL Prod.fst y.cells))=splice ((encU u a).map .d) off (y.c s).cellsOf:=by
         rw [cL_map,splice_map,←cL_map,←cL_map,unU_c,mapL_c,cells_c]
        have hle:off≤((encU u a).map AV.d).length:=by rw [List.length_map,encU_length];omega
        rw [e1,splice_eq _ _ _ hle,List.append_assoc] at h0
        obtain ⟨x1,x2,u1,u2,q1,q2,q3,q4⟩:=allDV_split h0
        obtain ⟨x3,x4,u3,u4,q5,q6,q7,q8⟩:=allDV_split q2
        rw [←List.map_take,allDV_data,List.map_take,nrm1_enc] at q1
        rw [←List.map_drop,allDV_data,List.map_drop,nrm1_enc] at q6
        cases q1
        cases q6
        rw [List.append_nil] at q8
        rw [List.nil_append] at q4
        subst q8 q7
        have hns:x3.length=i.size:=by rw [allDV_length q5];exact hlen'
        have hx:encU u (p.f (s,a))=splice (encU u a) off x3:=by
         rw [q3,splice_eq _ _ _ (by rw [encU_length];omega),hns,hlen',List.append_assoc]
        have hset:=encL_set ha (p.f (s,a)) (off:=off) (ns:=x3) (by omega) hx
        have hlen2:j s*szU u+off+i.size≤(encL u (f s)).length:=by
         have:=(List.getElem?_eq_some_iff.1 ha).1
         have h2:=Nat.mul_le_mul_right (szU u) (show j s+1≤(f s).length from this)
         rw [Nat.succ_mul] at h2
         rw [encL_length]
         omega
        have haway:=fzAway_c (s,a) r haw
        rw [q4] at haway
        simp only [SV.c,rdc,hr,Option.map_some,SO.c]
        have q5':allDV (rdc s rd) (SV.c s y).cellsOf=some (x3,u2):=q5
        rw [q5']
        simp only
        rw [hz,if_pos ⟨hlen',hlen2,hv',haway⟩,hset]
        simp only [HR.Ok,SV.c,cO,SO.c,q4]
       ·trivial
      ·trivial
     ·rename_i u f hr
      split
      ·rename_i g hi hg
       intro hc
       have hlt:=of_decide_eq_true hc.1
       obtain ⟨hi,hz,ho⟩:=of_decide_eq_true hi
       obtain ⟨p1,p2⟩:=pk1_c s hg
       have hcell:(y.c s).cellsOf=[y.c s]:=by
        have:(y.c s).cellsOf.length=1:=by omega
        cases hyc:y.c s with
        | agg cs =>
          rw [hyc] at p1
          cases u<;>simp [encU] at p1<;>simp [pk1] at hg
        | _=>rfl
       have hok:okCell (rdc s rd) (y.c s)=true:=by
        cases hyc:y.c s with
        | agg cs =>
          rw [hyc] at p1
          cases u<;>simp [encU] at p1<;>simp [pk1] at hg
        | _=>rw [hyc] at hv';simpa [okCell] using hv'
       simp only [HR.Ok,SV.c,rdc,hr,Option.map_some,SO.c,cO,hz,ho,Nat.mul_one,Nat.add_zero]
       rw [if_pos ⟨hlen',by rw [List.length_map,encL_length,p2];omega,hv',by rw [hcell];simpa using hok⟩,hcell,arr_set p2 hlt _ _ p1]
      ·trivial
     ·rename_i cs hr
      split
      ·rename_i k hk
       split
       ·rename_i gs hg hall
        intro hc a ha
        have hle:=of_decide_eq_true hc.1
        have hok:(y.c s).cellsOf.all (okCell (rdc s rd))=true:=by
         rw [←cells_c]
         exact okCells_c s (by rw [kinds_rdc];exact hall)
        have e1:(y.c s).cellsOf=(evL s gs).map (aInt k):=by rw [←cells_c,intsS_c s k _ _ hg]
        have e2:gs.length=i.size:=by rw [←hlen',e1,List.length_map,evL_length]
        have hput:=mix_put s k cs off (j s*z) gs hk hle a (Option.some.inj ha).symm
        simp only [HR.Ok,SV.c,rdc,hr,Option.map_some,SO.c,cO]
        rw [if_pos ⟨hlen',by rw [cL_length];have:=hput.1;omega,hv',hok⟩,e1,←hput.2]
       ·trivial
      ·trivial
     ·trivial
    ·trivial
end
end Go.Proofs.Ytkpijdndakljjaa
namespace Go.Proofs.Ytkpijdndakljjaa
open Go.RowKit
section
variable {σ:Type}
def noneAt (rd:Nat→Option (SO σ)) (r:Nat):Bool:=match rd r with | none=>true | some _=>false
theorem noneAt_c (s:σ) {rd:Nat→Option (SO σ)} {r:Nat} (h:noneAt rd r=true):¬((rdc s rd r).isSome=true):=by
 unfold noneAt at h
 unfold rdc
 split at h
 ·rename_i e;rw [e];simp
 ·cases h
def zero1:(u:U)→Option u.T
 | .int _=>some (0:Int)
 | .bool=>some false
 | _=>none
def isZ:U→DV→Bool
 | .int k,.val (.int k' n)=>decide (k=k'∧n=0)
 | .bool,.val (.bool false)=>true
 | _,_=>false
theorem isZ_enc {u:U} {z:u.T} (hz:zero1 u=some z) {d:DV} (h:isZ u d=true):encU u z=[d]:=by
 unfold zero1 at hz
 unfold isZ at h
 split at h
 ·cases hz;obtain ⟨rfl,rfl⟩:=of_decide_eq_true h;rfl
 ·cases hz;rfl
 ·cases h
theorem isZ_all {u:U} {z:u.T} (hz:zero1 u=some z):∀ {l:List DV},l.all (isZ u)=true→l=encL u (List.replicate l.length z)
 | [],_=>rfl
 | d::l,h=>by
   rw [List.all_cons,Bool.and_eq_true] at h
   rw [List.length_cons,List.replicate_succ,show encL u (z::List.replicate l.length z)=encU u z++encL u (List.replicate l.length z) from List.flatMap_cons,isZ_enc hz h.1,←isZ_all hz h.2]
   rfl
def allocS (T:Ty) (rd:Nat→Option (SO σ)) (slot t:Nat):HR σ :=
 match T t,noneAt rd slot with
 | some i,true=>match i.k with
   | .arr n e=>match decide (8<n),uOf T 20 e with
     | true,some u=>match zero1 u,i.zero.all (isZ u)&&decide (i.zero.length=n) with
       | some z,true => .ok (.ptr slot 0) [(slot,.arr u fun _=>List.replicate n z)]
       | _,_ => .fail "alloc: array"
     | _,_=>match zeroS i.zero with | some z => .ok (.ptr slot 0) [(slot,.mix z)] | none => .fail "alloc"
   | _=>match zeroS i.zero with | some z => .ok (.ptr slot 0) [(slot,.mix z)] | none => .fail "alloc"
 | _,_ => .fail "alloc: type"
theorem allocS_c (s:σ) (T:Ty) (rd:Nat→Option (SO σ)) (slot t:Nat):(allocS T rd slot t).Ok s (match T t with
 | some i=>if (rdc s rd slot).isSome then none else some (.ptr slot 0,[(slot,.mix (i.zero.map .d))])
 | none=>none):=by
 unfold allocS
 split
 ·rename_i i hT hn
  rw [hT]
  simp only
  rw [if_neg (noneAt_c s hn)]
  have plain:(match zeroS i.zero with | some z=>HR.ok (.ptr slot 0) [(slot,.mix z)] | none=>HR.fail "alloc" : HR σ).Ok s (some (.ptr slot 0,[(slot,.mix (i.zero.map .d))])):=by
   split
   ·rename_i z hz;simp only [HR.Ok,SV.c,cO,SO.c,zeroS_c s hz]
   ·trivial
  split
  ·split
   ·split
    ·rename_i n e _ _ u _ _ z hz hall
     simp only [Bool.and_eq_true,decide_eq_true_eq] at hall
     have:=isZ_all hz hall.1
     rw [hall.2] at this
     simp only [HR.Ok,SV.c,cO,SO.c]
     rw [←this]
    ·trivial
   ·exact plain
  ·exact plain
 ·trivial
def boxS (rd:Nat→Option (SO σ)) (slot:Nat) (v:SV σ):HR σ :=
 match noneAt rd slot&&isVS (kndS rd) v with
 | true => .ok (.ptr slot 0) [(slot,.mix v.cells)]
 | false => .fail "box"
theorem boxS_c (s:σ) (rd:Nat→Option (SO σ)) (slot:Nat) (v:SV σ):(boxS rd slot v).Ok s (if (rdc s rd slot).isSome then none else if isV (kinds (rdc s rd)) (v.c s) then some (.ptr slot 0,[(slot,.mix (v.c s).cellsOf)]) else none):=by
 unfold boxS
 split
 ·rename_i h
  rw [Bool.and_eq_true] at h
  rw [if_neg (noneAt_c s h.1),if_pos (by rw [isVS_c,kinds_rdc];exact h.2)]
  simp only [HR.Ok,SV.c,cO,SO.c,cells_c]
 ·trivial
def bsP {σ:Type} (t:Nat):Cp σ:=bif bsB t then .unk else .full
theorem bsP_c (s:σ) (t n:Nat):cpOf s n (bsP t:Cp σ)=bsC t n:=by
 unfold bsP bsC
 cases bsB t<;>rfl
def buildSlS (T:Ty) (rd:Nat→Option (SO σ)) (slot t n:Nat) (ps:List (Nat×SV σ)):HR σ :=
 match T t with
 | some i=>match i.k with
   | .slice e=>match T e with
     | some ei=>match noneAt rd slot&&decide (n*ei.size≤1000∧ei.size≠0)&&ps.all fun p=>isVS (kndS rd) p.2 with
       | true=>match zeroS (repD n ei.zero) with
         | some z=>match fillS (fun j=>some (j*ei.size,ei.size)) z ps,uOf T 20 e with
           | some cells,some u=>match pkN rd u n cells,decide (szU u=ei.size) with
             | some p,true => .req p.cs (.ok (.sl slot (szU u) none (fun _=>n) (bsP t)) ((slot,.data e u p.f true)::p.fz))
             | _,_ => .fail "slice literal: elements"
           | _,_ => .fail "slice literal: parts"
         | none => .fail "slice literal: zero"
       | false => .fail "slice literal"
     | none => .fail "slice literal: type"
   | _ => .fail "slice literal: type"
 | none => .fail "slice literal: type"
theorem buildSlS_c (s:σ) (T:Ty) (rd:Nat→Option (SO σ)) (slot t n:Nat) (ps:List (Nat×SV σ)):(buildSlS T rd slot t n ps).Ok s (match T t with
 | some i=>match i.k with
   | .slice e=>match T e with
     | some ei=>if (rdc s rd slot).isSome∨n*ei.size > 1000∨ei.size=0∨((ps.map fun p=>(p.1,p.2.c s)).all fun p=>isV (kinds (rdc s rd)) p.2)=false then none else
       match fillA (fun j=>some (j*ei.size,ei.size)) ((repD n ei.zero).map .d) (ps.map fun p=>(p.1,p.2.c s)) with
       | some cells=>match allDV (rdc s rd) cells with
         | some (cs,us)=>some (.sl slot 0 n (bsC t n),(slot,.data e ei.size cs true)::us)
         | none=>none
       | none=>none
     | none=>none
   | _=>none
 | none=>none):=by
 unfold buildSlS
 cases hT:T t with
 | none=>trivial
 | some i =>
   simp only
   split
   ·rename_i e hk
    cases hE:T e with
    | none=>trivial
    | some ei =>
      simp only
      split
      ·rename_i h
       simp only [Bool.and_eq_true,decide_eq_true_eq] at h
       obtain ⟨⟨h1,h2,h3⟩,h4⟩:=h
       have h4':((ps.map fun p=>(p.1,p.2.c s)).all fun p=>isV (kinds (rdc s rd)) p.2)=true:=by
        rw [List.all_map,List.all_eq_true] at *
        intro p hp
        show isV _ (p.2.c s)=true
        rw [isVS_c,kinds_rdc]
        exact h4 p hp
       rw [if_neg (by rintro (h | h | h | h);exact noneAt_c s h1 h;omega;exact h3 h;rw [h4'] at h;cases h)]
       split
       ·rename_i z hz
        split
        ·rename_i cells u hc hu
         split
         ·rename_i p hp hsz
          intro hcs
          have hsz:=of_decide_eq_true hsz
          obtain ⟨g1,g2⟩:=pkN_c s n _ p hp hcs
          rw [←zeroS_c s hz,fillS_c s _ _ _ _ hc]
          simp only [g1,HR.Ok,SV.c,cO,SO.c,oOf,Nat.zero_mul,bsP_c,hsz]
         ·trivial
        ·trivial
       ·trivial
      ·trivial
   ·trivial
theorem opEq_eq {a b:Operand} (h:opEq a b=true):a=b:=by
 unfold opEq at h
 split at h
 ·first | (cases h;done) | rw [of_decide_eq_true h]
 ·obtain ⟨rfl,rfl⟩:=of_decide_eq_true h;rfl
 ·cases h
theorem repD_enc {u:U} {z:u.T} {l:List DV} (h:encU u z=l):∀n,repD n l=encL u (List.replicate n z)
 | 0=>rfl
 | n+1=>by rw [repD,repD_enc h n,List.replicate_succ,←h];rfl
def makeSlS (T:Ty) (rd:Nat→Option (SO σ)) (slot t:Nat) (same:Bool) (l c:SV σ):HR σ :=
 match T t with
 | some i=>match i.k with
   | .slice e=>match T e,uOf T 20 e with
     | some ei,some u=>match asI l,asI c with
       | some (_,n),some (_,k)=>match zeroS ei.zero with
         | some zs=>match pkU (fun _=>none) u zs with
           | some p=>match p.cs,noneAt rd slot&&decide (szU u=ei.size∧0<ei.size) with
             | [],true => .req [fun s=>decide (0≤n s∧n s≤k s∧k s*ei.bytes≤140737488355328∧k s≤9223372036854775807)]
                 (.ok (.sl slot (szU u) none (fun s=>(n s).toNat) (match same with | true => .full | false => .unk)) [(slot,.data e u (fun s=>List.replicate (k s).toNat (p.f s)) true)])
             | _,_ => .fail "make"
           | none => .fail "make: zero"
         | none => .fail "make: zero"
       | _,_ => .fail "make: length"
     | _,_ => .fail "make: type"
   | _ => .fail "make: type"
 | none => .fail "make: type"
theorem makeSlS_c (s:σ) (T:Ty) (rd:Nat→Option (SO σ)) (slot t:Nat) (same:Bool) (l c:SV σ) (hs:same=true→l=c):(makeSlS T rd slot t same l c).Ok s (match T t with
 | some i=>match i.k with
   | .slice e=>match T e with
     | some ei=>match l.c s,c.c s with
       | .d (.val (.int _ n)),.d (.val (.int _ k))=>if (rdc s rd slot).isSome then none else
         if 0≤n∧n≤k∧k*ei.bytes≤140737488355328∧k≤maxLen∧0<ei.size then some (.sl slot 0 n.toNat (bif same then some k.toNat else none),[(slot,.data e ei.size (repD k.toNat (ei.zero.map nrm1)) true)]) else none
       | _,_=>none
     | none=>none
   | _=>none
 | none=>none):=by
 unfold makeSlS
 cases hT:T t with
 | none=>trivial
 | some i =>
   simp only
   split
   ·rename_i e hk
    split
    ·rename_i ei u hE hU
     split
     ·rename_i k1 n k2 k hn hkk
      split
      ·rename_i zs hzs
       split
       ·rename_i p hp
        split
        ·rename_i hcs hall
         simp only [Bool.and_eq_true,decide_eq_true_eq] at hall
         obtain ⟨h1,h2,h3⟩:=hall
         intro hc
         have hc1:=of_decide_eq_true hc.1
         have hz:=pkU_c s u _ p hp (by rw [hcs];trivial)
         rw [zeroS_c s hzs,allDV_data] at hz
         have hz':encU u (p.f s)=ei.zero.map nrm1:=by
          have:=congrArg (fun x=>x.map Prod.fst) hz
          simp only [Option.map_some,Option.some.injEq] at this
          exact this.symm
         rw [asI_c hn,asI_c hkk,hE]
         simp only [aInt]
         have hm:(maxLen:Int)=9223372036854775807:=rfl
         rw [if_neg (noneAt_c s h1),if_pos ⟨hc1.1,hc1.2.1,hc1.2.2.1,by rw [hm];exact hc1.2.2.2,h3⟩,repD_enc hz']
         simp only [HR.Ok,SV.c,cO,SO.c,oOf,Nat.zero_mul,h2]
         cases same with
         | false=>rfl
         | true =>
           have:=hs rfl
           subst this
           rw [hn] at hkk
           cases hkk
           rfl
        ·trivial
       ·trivial
      ·trivial
     ·trivial
    ·trivial
   ·trivial
def strS (f:σ→List UInt8):(u:U)→Option (PK σ (List u.T))
 | .int .u8=>some ⟨fun s=>(f s).map fun b=>(b.toNat:Int),[],[]⟩
 | _=>none
def srcS (rd:Nat→Option (SO σ)) (u:U) (y:SV σ):Option (PK σ (List u.T)) :=
 match y with
 | .val (.slice none 0 0)=>some ⟨fun _=>[],[],[]⟩
 | .lst u' f=>match eqU u' u with | some ⟨h⟩=>some ⟨castLF h f,[],[]⟩ | none=>none
 | .sl r z o n _=>match rd r with
   | some (.data e u' f wr)=>match eqU u' u,decide (z=szU u') with
     | some ⟨h⟩,true=>some ⟨castLF h (rowP o n f),[rowC o n f],[]⟩
     | _,_=>none
   | _=>none
 | y=>match asS y with
   | some f=>strS f u
   | none=>none
theorem bytesD_enc (l:List UInt8):bytesD l=encL (.int .u8) (l.map fun b=>(b.toNat:Int)):=by
 induction l with
 | nil=>rfl
 | cons b l ih =>
   rw [List.map_cons,show encL (.int .u8) (((b.toNat:Nat):Int)::l.map fun b=>((b.toNat:Nat):Int))=encU (.int .u8) ((b.toNat:Nat):Int)++encL (.int .u8) (l.map fun b=>((b.toNat:Nat):Int)) from List.flatMap_cons,←ih]
   rfl
theorem srcS_c (s:σ) {rd:Nat→Option (SO σ)} {u:U} {y:SV σ} {p:PK σ (List u.T)} (h:srcS rd u y=some p) (hc:allT s p.cs):srcA (rdc s rd) (szU u) (y.c s)=some (encL u (p.f s),(p.f s).length):=by
 unfold srcS at h
 split at h
 ·cases h;rw [SV.c];rfl
 ·split at h
  ·rename_i hk _
   subst hk
   cases h
   rw [SV.c]
   simp only [srcA,castLF]
   rw [if_pos (encL_length _ _)]
  ·cases h
 ·rename_i r z o n cap
  split at h
  ·rename_i e u' f wr hr
   split at h
   ·rename_i hk _ hz
    subst hk
    cases h
    have hz:=of_decide_eq_true hz
    have h1:=rowC_eq hc.1
    rw [SV.c]
    have h2:oOf s o*szU u'+n s*szU u'≤(encL u' (f s)).length:=by
     rw [encL_length,←Nat.add_mul]
     exact Nat.mul_le_mul_right _ h1
    simp only [srcA,rdc,hr,Option.map_some,SO.c,castLF,hz]
    rw [if_pos ⟨trivial,h2⟩,rowP_eq,encL_drop,encL_take,List.length_take,List.length_drop,Nat.min_eq_left (by omega)]
   ·cases h
  ·cases h
 ·split at h
  ·rename_i f hf
   unfold strS at h
   split at h
   ·cases h
    rw [asS_c hf]
    simp only [srcA]
    rw [if_pos (show szU (U.int .u8)=1 from rfl),bytesD_enc]
    have:(⟨(f s).toArray⟩:ByteArray).size=(f s).length:=by show (f s).toArray.size=_;simp
    rw [this,List.length_map]
   ·cases h
  ·cases h
def fitS {α:Type} (bytes:Nat) (F:σ→List α):σ→Bool:=fun s=>decide ((F s).length*bytes≤140737488355328)
def newS0 {u:U} (slot e:Nat) (bytes:Nat) (F:σ→List u.T) (more:List (Nat×SO σ)):HR σ :=
 .req [fitS bytes F] (.ok (.sl slot (szU u) none (fun s=>(F s).length) .unk) ((slot,.data e u F true)::more))
def newS {u:U} (slot e:Nat) (bytes:Nat) (F:σ→List u.T) (more:List (Nat×SO σ)):HR σ :=
 .req [fitS bytes F] (.bnd (fun s=>some (F s)) (.ok (.sl slot (szU u) none (fun p=>p.2.length) .unk) ((slot,.data e u (fun p=>p.2) true)::mapO Prod.fst more)))
theorem newS_of {u:U} {slot e:Nat} {bytes:Nat} {F:σ→List u.T} {more:List (Nat×SO σ)} {s:σ} {x:Option (AV×List (Nat×AO))} (h:(newS0 slot e bytes F more).Ok s x):(newS slot e bytes F more).Ok s x:=by
 intro h2 a ha
 cases ha
 have:=h h2
 show x=some (_,_)
 rw [show x=some (_,_) from this]
 simp only [SV.c,cO,SO.c,mapOs_c,oOf,cpOf]
theorem newA_c (s:σ) {rd:Nat→Option (SO σ)} {slot e bytes:Nat} {u:U} (hn:noneAt rd slot=true) (hb:0<bytes) {a b:List u.T} (hf:(a++b).length*bytes≤140737488355328) {n:Nat} (ha:a.length=n) :
 newA (rdc s rd) slot e (szU u) bytes b.length (encL u b) n (encL u a)=some (.sl slot 0 (a++b).length none,[(slot,.data e (szU u) (encL u (a++b)) true)]):=by
 have hl:(a++b).length=n+b.length:=by rw [List.length_append,ha]
 unfold newA
 rw [if_neg (noneAt_c s hn),if_pos,hl,encL_append]
 rw [hl] at hf
 refine ⟨hf,?_⟩
 have:n+b.length≤(n+b.length)*bytes:=Nat.le_mul_of_pos_right _ hb
 have hm:maxLen=9223372036854775807:=rfl
 omega
def isNilS:SV σ→Bool
 | .val (.slice none 0 0)=>true
 | _=>false
theorem srcS_nil {rd:Nat→Option (SO σ)} {u:U} {y:SV σ} {p:PK σ (List u.T)} (h:srcS rd u y=some p) (hn:isNilS y=true) (s:σ):p.cs=[]∧p.f s=[]:=by
 unfold isNilS at hn
 split at hn
 ·unfold srcS at h
  simp only [Option.some.injEq] at h
  subst h
  exact ⟨rfl,rfl⟩
 ·cases hn
def appS (eg:Bool) (T:Ty) (rd:Nat→Option (SO σ)) (slot:Nat) (t t2:Option Nat) (x y:SV σ):HR σ :=
 match t.bind T,t2.bind T with
 | some i,some j=>match i.k,j.k.srcOk with
   | .slice e,true=>match T e,uOf T 20 e with
     | some ei,some u=>match srcS rd u y,decide (szU u=ei.size∧0<ei.size∧0<ei.bytes)&&noneAt rd slot with
       | some p,true=>match x with
         | .val (.slice none 0 0) => .req p.cs (newS slot e ei.bytes p.f [])
         | .sl r z o n .unk=>match rd r,o with
           | some (.data e' u' f true),none=>match eqU u' u,decide (e'=e∧z=szU u) with
             | some ⟨h⟩,true => .req (p.cs++[rowC none n f]) (newS slot e ei.bytes (fun s=>castLF h (fun s=>(f s).take (n s)) s++p.f s) [(r,.dead)])
             | _,_ => .fail "append: row"
           | _,_ => .fail "append: object"
         | .sl r z o n .full=>match rd r with
           | some (.data e' u' f wr)=>match eqU u' u,decide (e'=e∧z=szU u) with
             | some ⟨h⟩,true=>match isNilS y with
               | true => .req [fun s=>decide (n s≠0)] (.ok (.sl r z o n .full) [])
               | false=>match eg with
               | false => .req (p.cs++[rowC o n f,fun s=>decide (n s=0∨(p.f s).length≠0)]) (newS slot e ei.bytes (fun s=>castLF h (rowP o n f) s++p.f s) [])
               | true => .req p.cs (.iff (fun s=>decide (n s=0∨(p.f s).length≠0)) (.req [rowC o n f] (newS slot e ei.bytes (fun s=>castLF h (rowP o n f) s++p.f s) [])) (.ok (.sl r z o n .full) []))
             | _,_ => .fail "append: row"
           | _ => .fail "append: object"
         | .sl r z o n (.fn c)=>match rd r,o with
           | some (.data e' u' f true),none=>match eqU u' u,decide (e'=e∧z=szU u) with
             | some ⟨h⟩,true => .req (p.cs++[fun s=>decide (n s<c s∧n s+(p.f s).length≤c s∧n s+(p.f s).length≤(f s).length)])
                (.bnd (fun s=>some (castLF h (fun s=>(f s).take (n s)) s++(p.f s++castLF h (fun s=>(f s).drop (n s+(p.f s).length)) s)))
                  (.ok (.sl r z none (fun q=>n q.1+(p.f q.1).length) (.fn fun q=>c q.1)) [(r,.data e u (fun q=>q.2) true)]))
             | _,_ => .fail "append: row"
           | _,_ => .fail "append: object"
         | _ => .fail "append: to this"
       | _,_ => .fail "append: what"
     | _,_ => .fail "append: type"
   | _,_ => .fail "append: type"
 | _,_ => .fail "append: type"
theorem appS_c (s:σ) (eg:Bool) (T:Ty) (rd:Nat→Option (SO σ)) (slot:Nat) (t t2:Option Nat) (x y:SV σ):(appS eg T rd slot t t2 x y).Ok s (match t.bind T,t2.bind T with
 | some i,some j=>if j.k.srcOk then match i.k with
   | .slice e=>match T e with
     | some ei=>match srcA (rdc s rd) ei.size (y.c s) with
       | some (cells,m)=>if 0<ei.size then effAppend (rdc s rd) slot e ei.size ei.bytes (x.c s) cells m else none
       | none=>none
     | none=>none
   | _=>none
 else none
 | _,_=>none):=by
 unfold appS
 split
 ·rename_i i j hi hj
  split
  ·rename_i e hk hso
   rw [if_pos hso]
   split
   ·rename_i ei u hE hU
    split
    ·rename_i p hp hd
     simp only [Bool.and_eq_true,decide_eq_true_eq] at hd
     obtain ⟨⟨hsz,hpos,hb⟩,hn⟩:=hd
     have hsrc:allT s p.cs→srcA (rdc s rd) ei.size (y.c s)=some (encL u (p.f s),(p.f s).length):=fun h=>by rw [←hsz];exact srcS_c s hp h
     split
     ·intro h1
      refine newS_of ?_
      intro h2
      have hf:=of_decide_eq_true h2.1
      simp only [hk,hE]
      rw [hsrc h1]
      simp only
      rw [if_pos hpos,SV.c,←hsz]
      simp only [effAppend]
      have:=newA_c s (e:=e) (bytes:=ei.bytes) (a:=[]) (b:=p.f s) hn hb hf (n:=0) rfl
      rw [show encL u []=[] from rfl] at this
      rw [this]
      simp only [HR.Ok,SV.c,cO,SO.c,oOf,Nat.zero_mul,cpOf,List.nil_append]
     ·rename_i r z o n
      split
      ·rename_i e' u' f hr
       split
       ·rename_i hku _ hdd
        subst hku
        obtain ⟨rfl,hz⟩:=of_decide_eq_true hdd
        intro h1
        refine newS_of ?_
        intro h2
        rw [allT_append] at h1
        have hf:=of_decide_eq_true h2.1
        have hrow:n s≤(f s).length:=of_decide_eq_true h1.2.1
        simp only [hk,hE]
        rw [hsrc h1.1]
        simp only
        rw [if_pos hpos,SV.c,←hsz]
        simp only [effAppend,cpOf,rdc,hr,Option.map_some,SO.c,oOf,Nat.zero_mul]
        have hA:=newA_c s (e:=e') (bytes:=ei.bytes) (a:=(f s).take (n s)) (b:=p.f s) hn hb hf (n:=n s) (by rw [List.length_take];omega)
        rw [if_pos ⟨trivial,trivial,trivial,trivial⟩]
        have hle:n s*szU u'≤(encL u' (f s)).length:=by rw [encL_length];exact Nat.mul_le_mul_right _ hrow
        have fin:∀C,C=encL u' ((f s).take (n s))→(match newA (rdc s rd) slot e' (szU u') ei.bytes (p.f s).length (encL u' (p.f s)) (n s) C with
         | some (v,u)=>some (v,u++[(r,AO.dead)])
         | none=>none)=some (AV.sl slot 0 ((f s).take (n s)++p.f s).length none,[(slot,.data e' (szU u') (encL u' ((f s).take (n s)++p.f s)) true),(r,AO.dead)]):=fun C hC=>by
         rw [hC,hA]
         rfl
        have goal:∀X,X=some (AV.sl slot 0 ((f s).take (n s)++p.f s).length none,[(slot,AO.data e' (szU u') (encL u' ((f s).take (n s)++p.f s)) true),(r,AO.dead)])→(HR.ok (.sl slot (szU u') none (fun s=>(castLF rfl (fun s=>(f s).take (n s)) s++p.f s).length) .unk) [(slot,.data e' u' (fun s=>castLF rfl (fun s=>(f s).take (n s)) s++p.f s) true),(r,.dead)]:HR σ).Ok s X:=fun X hX=>by
         rw [hX]
         simp only [HR.Ok,SV.c,cO,SO.c,oOf,Nat.zero_mul,cpOf,castLF]
        refine goal _ ?_
        split
        ·rename_i heq
         exact fin _ (by rw [←encL_take,heq,List.take_length])
        ·first
         | exact fin _ (by rw [←encL_take])
         | (rw [if_pos hle];exact fin _ (by rw [←encL_take]))
       ·trivial
      ·trivial
     ·rename_i r z o n
      split
      ·rename_i e' u' f wr hr
       split
       ·rename_i hku _ hdd
        subst hku
        obtain ⟨rfl,hz⟩:=of_decide_eq_true hdd
        split
        ·rename_i hny
         obtain ⟨q1,q2⟩:=srcS_nil hp hny s
         intro h1
         have hn0:=of_decide_eq_true h1.1
         have hsr:=hsrc (by rw [q1];trivial)
         rw [q2] at hsr
         simp only [hk,hE]
         rw [hsr]
         simp only
         rw [if_pos hpos,←hsz]
         simp only [HR.Ok,SV.c,effAppend,cpOf,rdc,hr,Option.map_some,SO.c,cO]
         rw [if_pos ⟨trivial,trivial⟩,if_pos trivial,if_neg hn0,if_pos (show ([]:List u'.T).length=0 from rfl)]
        cases eg with
        | false =>
          intro h1
          refine newS_of ?_
          intro h2
          rw [allT_append] at h1
          have hf:=of_decide_eq_true h2.1
          have hrow:=rowC_eq h1.2.1
          have hor:=of_decide_eq_true h1.2.2.1
          simp only [hk,hE]
          rw [hsrc h1.1]
          simp only
          rw [if_pos hpos,SV.c,←hsz]
          simp only [effAppend,cpOf,rdc,hr,Option.map_some,SO.c]
          have hfit:(rowP o n f s++p.f s).length*ei.bytes≤140737488355328:=hf
          have hlen:(rowP o n f s).length=n s:=by rw [rowP_eq,List.length_take,List.length_drop];omega
          have hA:=newA_c s (e:=e') (bytes:=ei.bytes) (a:=rowP o n f s) (b:=p.f s) hn hb hfit hlen
          have goal:∀X,X=some (AV.sl slot 0 (rowP o n f s++p.f s).length none,[(slot,AO.data e' (szU u') (encL u' (rowP o n f s++p.f s)) true)])→(HR.ok (.sl slot (szU u') none (fun s=>(castLF rfl (rowP o n f) s++p.f s).length) .unk) [(slot,.data e' u' (fun s=>castLF rfl (rowP o n f) s++p.f s) true)]:HR σ).Ok s X:=fun X hX=>by
           rw [hX]
           simp only [HR.Ok,SV.c,cO,SO.c,oOf,Nat.zero_mul,cpOf,castLF]
          refine goal _ ?_
          rw [if_pos ⟨trivial,trivial⟩,if_pos trivial]
          by_cases hn0:n s=0
          ·rw [if_pos hn0]
           have h0:rowP o n f s=[]:=List.eq_nil_of_length_eq_zero (by omega)
           rw [h0,hn0] at hA
           rw [h0]
           exact hA
          ·rw [if_neg hn0,if_neg (by rcases hor with h | h;exact (hn0 h).elim;exact h)]
           have hle:oOf s o*szU u'+n s*szU u'≤(encL u' (f s)).length:=by rw [encL_length,←Nat.add_mul];exact Nat.mul_le_mul_right _ hrow
           rw [hz,if_pos hle,encL_drop,encL_take,←rowP_eq]
           exact hA
        | true =>
          intro h1
          rw [HR.Ok]
          cases hc:decide (n s=0∨(p.f s).length≠0) with
          | true =>
            have hor:=of_decide_eq_true hc
            intro hr1
            refine newS_of ?_
            intro h2
            have hf:=of_decide_eq_true h2.1
            have hrow:=rowC_eq hr1.1
            simp only [hk,hE]
            rw [hsrc h1]
            simp only
            rw [if_pos hpos,SV.c,←hsz]
            simp only [effAppend,cpOf,rdc,hr,Option.map_some,SO.c]
            have hfit:(rowP o n f s++p.f s).length*ei.bytes≤140737488355328:=hf
            have hlen:(rowP o n f s).length=n s:=by rw [rowP_eq,List.length_take,List.length_drop];omega
            have hA:=newA_c s (e:=e') (bytes:=ei.bytes) (a:=rowP o n f s) (b:=p.f s) hn hb hfit hlen
            have goal:∀X,X=some (AV.sl slot 0 (rowP o n f s++p.f s).length none,[(slot,AO.data e' (szU u') (encL u' (rowP o n f s++p.f s)) true)])→(HR.ok (.sl slot (szU u') none (fun s=>(castLF rfl (rowP o n f) s++p.f s).length) .unk) [(slot,.data e' u' (fun s=>castLF rfl (rowP o n f) s++p.f s) true)]:HR σ).Ok s X:=fun X hX=>by
             rw [hX]
             simp only [HR.Ok,SV.c,cO,SO.c,oOf,Nat.zero_mul,cpOf,castLF]
            refine goal _ ?_
            rw [if_pos ⟨trivial,trivial⟩,if_pos trivial]
            by_cases hn0:n s=0
            ·rw [if_pos hn0]
             have h0:rowP o n f s=[]:=List.eq_nil_of_length_eq_zero (by omega)
             rw [h0,hn0] at hA
             rw [h0]
             exact hA
            ·rw [if_neg hn0,if_neg (by rcases hor with h | h;exact (hn0 h).elim;exact h)]
             have hle:oOf s o*szU u'+n s*szU u'≤(encL u' (f s)).length:=by rw [encL_length,←Nat.add_mul];exact Nat.mul_le_mul_right _ hrow
             rw [hz,if_pos hle,encL_drop,encL_take,←rowP_eq]
             exact hA
          | false =>
            have hno:=of_decide_eq_false hc
            have hn0:¬n s=0:=fun e=>hno (.inl e)
            have hm0:(p.f s).length=0:=by
             rcases Nat.eq_zero_or_pos (p.f s).length with e | e
             ·exact e
             ·exact (hno (.inr (by omega))).elim
            show _=some _
            simp only [hk,hE]
            rw [hsrc h1]
            simp only
            rw [if_pos hpos,←hsz]
            simp only [SV.c,effAppend,cpOf,rdc,hr,Option.map_some,SO.c]
            rw [if_pos ⟨trivial,trivial⟩,if_pos trivial,if_neg hn0,if_pos hm0]
            rfl
       ·trivial
      ·trivial
     ·rename_i r z o n c
      split
      ·rename_i e' u' f hr
       split
       ·rename_i hku _ hdd
        subst hku
        obtain ⟨rfl,hz⟩:=of_decide_eq_true hdd
        intro h1 a ha
        cases ha
        rw [allT_append] at h1
        obtain ⟨g1,g2,g3⟩:=of_decide_eq_true h1.2.1
        simp only [hk,hE]
        rw [hsrc h1.1]
        simp only
        rw [if_pos hpos,SV.c,←hsz]
        simp only [effAppend,cpOf,rdc,hr,Option.map_some,SO.c,oOf,Nat.zero_mul]
        have hle:n s*szU u'≤(encL u' (f s)).length:=by rw [encL_length];exact Nat.mul_le_mul_right _ (by omega)
        have hle2:(n s+(p.f s).length)*szU u'≤(encL u' (f s)).length:=by rw [encL_length];exact Nat.mul_le_mul_right _ g3
        have hcell:splice (encL u' (f s)) (n s*szU u') (encL u' (p.f s))=encL u' ((f s).take (n s)++(p.f s++(f s).drop (n s+(p.f s).length))):=by
         rw [splice_eq _ _ _ hle,encL_append,encL_append,encL_take,encL_length,←Nat.add_mul,encL_drop,List.append_assoc]
        rw [if_pos ⟨trivial,trivial⟩,if_neg (by omega),if_pos ⟨trivial,trivial,g2,hle2⟩,hcell]
        simp only [HR.Ok,SV.c,cO,SO.c,oOf,Nat.zero_mul,cpOf,castLF]
       ·trivial
      ·trivial
     ·trivial
    ·trivial
   ·trivial
  ·trivial
 ·trivial
end
end Go.Proofs.Ytkpijdndakljjaa
namespace Go.Proofs.Ytkpijdndakljjaa
open Go.RowKit
section
variable {σ:Type}
def bytesU (l:List Int):List UInt8:=l.map fun n=>UInt8.ofNat n.toNat
theorem bytesU_c:∀l:List Int,bytesOfD (encL (.int .u8) l)=some (bytesU l)
 | []=>rfl
 | n::l=>by
   rw [show encL (.int .u8) (n::l)=DV.val (.int .u8 n)::encL (.int .u8) l from rfl,bytesOfD,bytesU_c l]
   rfl
def isSl:SV σ→Bool
 | .lst _ _=>true
 | .sl _ _ _ _ _=>true
 | .val (.slice none 0 0)=>true
 | _=>false
theorem isSl_c {v:SV σ} (h:isSl v=true) (s:σ):isStr (v.c s)=false:=by
 unfold isSl at h
 split at h
 ·rw [SV.c];rfl
 ·rw [SV.c];rfl
 ·rw [SV.c];rfl
 ·cases h
def cvS (T:Ty) (rd:Nat→Option (SO σ)) (src dst:Nat) (x:SV σ):HR σ :=
 match T src,T dst with
 | some si,some di=>match si.k,di.k with
   | .slice e,.str=>match isSl x&&u8Of (T e),srcS rd (.int .u8) x with
     | true,some p => .req p.cs (.ok (.str fun s=>bytesU (p.f s)) [])
     | _,_ => .fail "convert: of this"
   | _,_ => .fail "convert: types"
 | _,_ => .fail "convert: type"
theorem cvS_c (s:σ) (T:Ty) (rd:Nat→Option (SO σ)) (src dst:Nat) (x:SV σ):(cvS T rd src dst x).Ok s (match T src,T dst with
 | some si,some di=>match si.k,di.k with
   | .slice e,.str=>if isStr (x.c s) || !(u8Of (T e)) then none else match srcA (rdc s rd) 1 (x.c s) with
     | some (cells,_)=>match bytesOfD cells with
       | some l=>some (.d (.val (.string ⟨l.toArray⟩)),[])
       | none=>none
     | none=>none
   | .slice _,.slice e=>if src=dst∧u8Of (T e)=true then (match x.c s with
     | .sl r off n cap=>match rdc s rd r with
       | some (.data _ s cs true)=>if s=1∧0<n then some (.d (.dl ((cs.drop off).take n) n cap),[(r,.dead)]) else none
       | _=>none
     | _=>none) else none
   | _,_=>none
 | _,_=>none):=by
 unfold cvS
 split
 ·split
  ·rename_i h1 h2
   split
   ·rename_i p hb hp
    rw [Bool.and_eq_true] at hb
    intro hc
    have h3:=srcS_c s hp hc
    simp only [h1,h2]
    rw [isSl_c hb.1 s,hb.2,show srcA (rdc s rd) 1 (x.c s)=some (encL (.int .u8) (p.f s),(p.f s).length) from h3]
    simp only [Bool.not_true,Bool.or_false,Bool.false_eq_true,if_false,bytesU_c,HR.Ok,SV.c,cO]
   ·trivial
  ·trivial
 ·trivial
def layL {α:Type} (f:List α) (o:Nat) (l:List α):List α:=f.take o++l++f.drop (o+l.length)
theorem layL_c (u:U) (f l:List u.T) (o:Nat) (h:o+l.length≤f.length):splice (encL u f) (o*szU u) (encL u l)=encL u (layL f o l):=by
 rw [splice_eq _ _ _ (by rw [encL_length];exact Nat.mul_le_mul_right _ (by omega)),layL,encL_append,encL_append,encL_length,←Nat.add_mul,encL_drop,encL_take]
def oAt (o:Option (σ→Nat)):σ→Nat:=match o with | none=>fun _=>0 | some o=>o
theorem oAt_c (s:σ) (o:Option (σ→Nat)):oAt o s=oOf s o:=by cases o<;>rfl
def copyS (T:Ty) (rd:Nat→Option (SO σ)) (t:Option Nat) (x y:SV σ):HR σ :=
 match t.bind T with
 | some i=>match i.k with
   | .slice e=>match T e with
     | some ei=>match x with
       | .sl r z o n cap=>match rd r with
         | some (.data e' u f true)=>match srcS rd u y,decide (szU u=ei.size∧z=szU u) with
           | some p,true => .req (p.cs++[rowC o n f]) (.ok (.int .i64 fun s=>((min (p.f s).length (n s):Nat):Int)) [(r,.data e' u (fun s=>layL (f s) (oAt o s) ((p.f s).take (n s))) true)])
           | _,_ => .fail "copy: what"
         | _ => .fail "copy: object"
       | _ => .fail "copy: to this"
     | none => .fail "copy: type"
   | _ => .fail "copy: type"
 | none => .fail "copy: type"
theorem copyS_c (s:σ) (T:Ty) (rd:Nat→Option (SO σ)) (t:Option Nat) (x y:SV σ):(copyS T rd t x y).Ok s (match [x.c s,y.c s],t.bind T with
 | [.sl r off n cap,y],some i=>match i.k with
   | .slice e=>match T e with
     | some ei=>match srcA (rdc s rd) ei.size y,rdc s rd r with
       | some (cells,m),some (.data e' s cs true)=>if s=ei.size∧off+n*s≤cs.length then some (aInt .i64 (Nat.min m n),[(r,.data e' s (splice cs off (cells.take (Nat.min m n*s))) true)]) else none
       | _,_=>none
     | none=>none
   | _=>none
 | _,_=>none):=by
 unfold copyS
 split
 ·rename_i i hi
  split
  ·rename_i e hk
   split
   ·rename_i ei hE
    split
    ·rename_i r z o n cap
     split
     ·rename_i e' u f hr
      split
      ·rename_i p hp hd
       obtain ⟨h1,h2⟩:=of_decide_eq_true hd
       intro hc
       rw [allT_append] at hc
       have h3:=srcS_c s hp hc.1
       have h4:=rowC_eq hc.2.1
       have h5:(rdc s rd) r=some (.data e' (szU u) (encL u (f s)) true):=by simp only [rdc,hr,Option.map_some,SO.c]
       have hm:Nat.min (p.f s).length (n s)=min (p.f s).length (n s):=rfl
       simp only [SV.c,hi,hk,hE,←h1,h3,h5,HR.Ok,cO,SO.c]
       rw [if_pos ⟨trivial,by rw [h2,encL_length,←Nat.add_mul];exact Nat.mul_le_mul_right _ h4⟩,hm,encL_take,h2,layL_c]
       ·rw [oAt_c]
        have:(p.f s).take (min (p.f s).length (n s))=(p.f s).take (n s):=by
         rcases Nat.le_total (p.f s).length (n s) with h | h
         ·rw [Nat.min_eq_left h,List.take_length,List.take_of_length_le h]
         ·rw [Nat.min_eq_right h]
        rw [this]
       ·rw [List.length_take];omega
      ·trivial
     ·trivial
    ·trivial
   ·trivial
  ·trivial
 ·trivial
def makeMS (T:Ty) (rd:Nat→Option (SO σ)) (slot t:Nat):HR σ :=
 match noneAt rd slot&&isSet T t with
 | true => .ok (.ptr slot 0) [(slot,.mp fun _=>[])]
 | false => .fail "map: type"
theorem makeMS_c (s:σ) (T:Ty) (rd:Nat→Option (SO σ)) (slot t:Nat):(makeMS T rd slot t).Ok s (if (rdc s rd slot).isSome then none else if isSet T t then some (.ptr slot 0,[(slot,.mp [])]) else none):=by
 unfold makeMS
 split
 ·rename_i h
  rw [Bool.and_eq_true] at h
  rw [if_neg (noneAt_c s h.1),if_pos h.2]
  simp only [HR.Ok,SV.c,cO,SO.c]
 ·trivial
def lookMS (T:Ty) (rd:Nat→Option (SO σ)) (t:Nat) (x y:SV σ):HR σ :=
 match isSet T t,x with
 | true,.ptr r _=>match rd r,asS y with
   | some (.mp f),some k => .ok (.bool fun s=>decide (k s∈f s)) []
   | _,_ => .fail "map: lookup"
 | _,_ => .fail "map: type"
theorem lookMS_c (s:σ) (T:Ty) (rd:Nat→Option (SO σ)) (t:Nat) (x y:SV σ):(lookMS T rd t x y).Ok s (if isSet T t then (match x.c s,y.c s with
 | .ptr r _,.d (.val (.string k))=>match rdc s rd r with
   | some (.mp ks)=>some (aBool (decide (k.data.toList∈ks)),[])
   | _=>none
 | _,_=>none) else none):=by
 unfold lookMS
 split
 ·rename_i r off hT
  split
  ·rename_i f k hr hk
   rw [if_pos hT,asS_c hk]
   simp only [HR.Ok,SV.c,cO,rdc,hr,Option.map_some,SO.c]
  ·trivial
 ·trivial
def isTrue (v:SV σ):Bool:=match v with | .val (.bool true)=>true | _=>false
theorem isTrue_c {v:SV σ} (h:isTrue v=true) (s:σ):v.c s = .d (.val (.bool true)):=by
 unfold isTrue at h
 split at h
 ·rw [SV.c]
 ·cases h
def updMS (T:Ty) (rd:Nat→Option (SO σ)) (t:Nat) (x y z:SV σ):HR σ :=
 match isSet T t&&isTrue z,x with
 | true,.ptr r _=>match rd r,asS y with
   | some (.mp f),some k => .ok .undef [(r,.mp fun s=>addK (f s) (k s))]
   | _,_ => .fail "map: update"
 | _,_ => .fail "map: type"
theorem updMS_c (s:σ) (T:Ty) (rd:Nat→Option (SO σ)) (t:Nat) (x y z:SV σ):(updMS T rd t x y z).Ok s (if isSet T t then (match x.c s,y.c s,z.c s with
 | .ptr r _,.d (.val (.string k)),.d (.val (.bool true))=>match rdc s rd r with
   | some (.mp ks)=>some (.undef,[(r,.mp (addK ks k.data.toList))])
   | _=>none
 | _,_,_=>none) else none):=by
 unfold updMS
 split
 ·rename_i r off hT
  rw [Bool.and_eq_true] at hT
  split
  ·rename_i f k hr hk
   rw [if_pos hT.1,asS_c hk,isTrue_c hT.2]
   simp only [HR.Ok,SV.c,cO,rdc,hr,Option.map_some,SO.c]
  ·trivial
 ·trivial
def hS (eg:Nat→Bool) (T:Ty) (rd:Nat→Option (SO σ)) (slot:Nat) (o:Oper) (ρ:Operand→SV σ):HR σ :=
 match o.op with
 | .alloc t=>allocS T rd slot t
 | .box t x=>boxS rd slot (ρ x)
 | .buildSlice t n parts=>buildSlS T rd slot t n (partsS ρ parts)
 | .load t x=>loadS T rd t (ρ x)
 | .store t x y=>storeS T rd t (ρ x) (ρ y)
 | .makeMap t none=>makeMS T rd slot t
 | .lookup t x y false=>lookMS T rd t (ρ x) (ρ y)
 | .mapUpdate t x y z=>updMS T rd t (ρ x) (ρ y) (ρ z)
 | .makeSlice t l c=>makeSlS T rd slot t (opEq l c) (ρ l) (ρ c)
 | .convert src dst x=>cvS T rd src dst (ρ x)
 | .call c=>match c.callee with
   | .builtin .append=>match c.args.toList.map ρ with
     | [x,y]=>appS (eg slot) T rd slot c.argTypes[0]? c.argTypes[1]? x y
     | _ => .fail "append: arguments"
   | .builtin .copy=>match c.args.toList.map ρ with
     | [x,y]=>copyS T rd c.argTypes[0]? x y
     | _ => .fail "copy: arguments"
   | _ => .fail "call"
 | _ => .fail "operation"
theorem hS_c (s:σ) (eg:Nat→Bool) (T:Ty) (rd:Nat→Option (SO σ)) (slot:Nat) (o:Oper) (ρ:Operand→SV σ):(hS eg T rd slot o ρ).Ok s (effH T (rdc s rd) slot o fun x=>(ρ x).c s):=by
 unfold hS effH
 cases ho:o.op with
 | alloc t=>exact allocS_c s T rd slot t
 | box t x=>exact boxS_c s rd slot _
 | buildSlice t n parts =>
   have:=buildSlS_c s T rd slot t n (partsS ρ parts)
   have e:((partsS ρ parts).map fun p=>(p.1,p.2.c s))=(parts.toList.map fun (j,x)=>(j,(ρ x).c s)):=by unfold partsS;rw [List.map_map];rfl
   rw [e] at this
   have e2:((parts.toList.map fun ((j,x):Nat×Operand)=>(j,(ρ x).c s)).all fun p=>isV (kinds (rdc s rd)) p.2)=(parts.toList.all fun ((_,x):Nat×Operand)=>isV (kinds (rdc s rd)) ((ρ x).c s)):=by rw [List.all_map];rfl
   rw [e2] at this
   exact this
 | load t x=>exact loadS_c s T rd t _
 | store t x y=>exact storeS_c s T rd t _ _
 | makeMap t r=>cases r with | none=>exact makeMS_c s T rd slot t | some r=>trivial
 | lookup t x y ok=>cases ok with | false=>exact lookMS_c s T rd t _ _ | true=>trivial
 | mapUpdate t x y z=>exact updMS_c s T rd t _ _ _
 | makeSlice t l c=>exact makeSlS_c s T rd slot t (opEq l c) (ρ l) (ρ c) (fun h=>by rw [opEq_eq h])
 | convert src dst x=>exact cvS_c s T rd src dst _
 | call c =>
   simp only
   split
   ·rename_i hc
    simp only [hc]
    split
    ·rename_i x y hxy
     have:=appS_c s (eg slot) T rd slot c.argTypes[0]? c.argTypes[1]? x y
     rw [list_map_c,hxy]
     simp only [cL]
     cases h1:c.argTypes[0]?.bind T with
     | none=>simp only [h1] at this;exact this
     | some i =>
       cases h2:c.argTypes[1]?.bind T with
       | none=>simp only [h1,h2] at this;exact this
       | some j=>simp only [h1,h2] at this;exact this
    ·trivial
   ·rename_i hc
    simp only [hc]
    split
    ·rename_i x y hxy
     rw [list_map_c,hxy]
     exact copyS_c s T rd c.argTypes[0]? x y
    ·trivial
   ·trivial
 | _=>trivial
end
end Go.Proofs.Ytkpijdndakljjaa
