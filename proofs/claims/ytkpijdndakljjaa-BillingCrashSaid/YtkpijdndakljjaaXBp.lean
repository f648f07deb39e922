import Derived.Test.YtkpijdndakljjaaXAp
import Derived.Test.YtkpijdndakljjaaHBp
set_option linter.unusedSimpArgs false
set_option linter.unusedVariables false
namespace Go.Proofs.Ytkpijdndakljjaa
open Go.RowKit
structure GT where
 t:U
 l:List t.T
def gTab (_:Nat):Option GT:=none
inductive yQ {υ β:Type} (body:υ->Option (υ ⊕ β)):υ->β->Prop where
 | done {x b} (h:body x=some (.inr b)):yQ body x b
 | step {x y b} (h:body x=some (.inl y)) (k:yQ body y b):yQ body x b
theorem yQ.det {υ β:Type} {body:υ->Option (υ ⊕ β)} {x:υ} {b c:β} (h:yQ body x b):yQ body x c->b=c:=by
 induction h with
 | done h =>
   intro k;cases k with
   | done h'=>rw [h] at h';cases h';rfl
   | step h' _=>rw [h] at h';cases h'
 | step h _ ih =>
   intro k;cases k with
   | done h'=>rw [h] at h';cases h'
   | step h' k'=>rw [h] at h';cases h';exact ih k'
open Classical in
noncomputable def ay {υ β:Type} (body:υ->Option (υ ⊕ β)) (x:υ):Option β :=
 if h:∃b,yQ body x b then some (Classical.choose h) else none
theorem oZ {υ β:Type} {body:υ->Option (υ ⊕ β)} {x:υ} {b:β}:ay body x=some b↔yQ body x b:=by
 unfold ay;constructor
 ·intro h;split at h
  ·rename_i hx;cases h;exact Classical.choose_spec hx
  ·cases h
 ·intro h;rw [dif_pos ⟨b,h⟩];exact congrArg some ((Classical.choose_spec (⟨b,h⟩:∃b,yQ body x b)).det h)
theorem fG {υ β:Type} (body:υ->Option (υ ⊕ β)) (x:υ):ay body x=match body x with
 | some (.inl y)=>ay body y
 | some (.inr b)=>some b
 | none=>none:=by
 cases h:body x with
 | none =>
   unfold ay;rw [dif_neg];rintro ⟨b,k⟩;cases k with
   | done h'=>rw [h] at h';cases h'
   | step h' _=>rw [h] at h';cases h'
 | some r =>
   cases r with
   | inr b=>exact oZ.2 (.done h)
   | inl y =>
     simp only;cases hy:ay body y with
     | some b=>exact oZ.2 (.step h (oZ.1 hy))
     | none =>
       unfold ay;rw [dif_neg];rintro ⟨b,k⟩;cases k with
       | done h'=>rw [h] at h';cases h'
       | step h' k'=>rw [h] at h';cases h';rw [oZ.2 k'] at hy;cases hy
inductive VI where
 | u (u:U) | own (r e:Nat) (u:U) | nil | np | pt (r off:Nat) | cl (f:Nat) (caps:List (Nat×Nat)) | agg (l:List VI) | junk
inductive OI where
 | mix (l:List VI) | row (e:Nat) (u:U) (wr:Bool) | arr (u:U) | mp | dead
structure NI where
 p:Nat
 kind:Nat
 tms:List (Nat×VI)
 hps:List (Nat×OI)
 tm0:List (Nat×VI)
 hp0:List (Nat×OI)
inductive TR:Type->Type->Type 1 where
 | ret {β σ:Type} (f:σ->β):TR β σ
 | fail {β σ:Type} (msg:String):TR β σ
 | bad {β σ:Type} (is:List Nat) (msg:String):TR β σ
 | note {β σ:Type} (n:NI):TR β σ
 | req {β σ:Type} (c:List (σ->Bool)) (r:TR β σ):TR β σ
 | bnd {β σ α:Type} (f:σ->Option α) (r:TR β (σ×α)):TR β σ
 | iff {β σ:Type} (c:σ->Bool) (t e:TR β σ):TR β σ
 | join {β σ υ:Type} (a:TR (υ ⊕ β) σ) (b:TR β (σ×υ)):TR β σ
 | loop {β σ υ:Type} (x0:σ->υ) (body:TR (υ ⊕ β) (σ×υ)):TR β σ
 | out {β σ υ:Type} (t:TR β σ):TR (υ ⊕ β) σ
def allB {σ:Type} (s:σ):List (σ->Bool)->Bool
 | []=>true
 | [c]=>c s
 | c::cs=>c s&&allB s cs
theorem TY {σ:Type} (s:σ):∀cs:List (σ->Bool),allB s cs=true↔allT s cs
 | []=>by simp [allB,allT]
 | [c]=>by simp [allB,allT]
 | c::d::cs=>by
   rw [allB,allT,Bool.and_eq_true,TY s (d::cs)];intro h;cases h
noncomputable def TR.run:{β σ:Type}->TR β σ->σ->Option β
 | _,_,.ret f,s=>some (f s)
 | _,_,.fail _,_=>none
 | _,_,.bad _ _,_=>none
 | _,_,.note _,_=>none
 | _,_,.req c r,s=>bif allB s c then r.run s else none
 | _,_,.bnd f r,s=>match f s with | some a=>r.run (s,a) | none=>none
 | _,_,.iff c t e,s=>bif c s then t.run s else e.run s
 | _,_,.join a b,s=>match a.run s with
   | some (.inl u)=>b.run (s,u)
   | some (.inr x)=>some x
   | none=>none
 | _,_,.loop x0 body,s=>ay (fun u=>body.run (s,u)) (x0 s)
 | _,_,.out t,s=>match t.run s with | some b=>some (.inr b) | none=>none
def Ec {β σ:Type} (cs:List (σ->Bool)) (t:TR β σ):TR β σ:=match cs with | []=>t | cs => .req cs t
theorem qY {β σ:Type} {cs:List (σ->Bool)} {t:TR β σ} {s:σ} {b:β} (h:(Ec cs t).run s=some b):allT s cs/\t.run s=some b:=by
 unfold Ec at h;split at h
 ·exact ⟨trivial,h⟩
 ·rw [TR.run] at h;cases hc:allB s cs with
  | true=>rw [hc] at h;exact ⟨(TY s cs).1 hc,h⟩
  | false=>rw [hc] at h;cases h
def HR.thn {β:Type}:{σ:Type}->HR σ->(SV σ->List (Nat×SO σ)->TR β σ)->((τ:Type)->(τ->σ)->SV τ->List (Nat×SO τ)->TR β τ)->TR β σ
 | _,.ok v us,K0,_=>K0 v us
 | _,.req c r,K0,K=>Ec c (r.thn K0 K)
 | _,.bnd f r,_,K => .bnd f (r.thn (fun v us=>K _ Prod.fst v us) (fun τ g v us=>K τ (fun t=>(g t).1) v us))
 | _,.fail m,_,_ => .fail m
 | _,.iff c t e,K0,K => .iff c (t.thn K0 K) (e.thn K0 K)
theorem HR.thn_c {β:Type} {b:β}:{σ:Type}->(h:HR σ)->{s:σ}->{x:Option (AV×List (Nat×AO))}->{K0:SV σ->List (Nat×SO σ)->TR β σ}->{K:(τ:Type)->(τ->σ)->SV τ->List (Nat×SO τ)->TR β τ} ->
 (h.thn K0 K).run s=some b->h.Ok s x ->
 (∃v us,x=some (v.c s,cO s us)/\(K0 v us).run s=some b)\/∃(τ:Type) (g:τ->σ) (s':τ) (v:SV τ) (us:List (Nat×SO τ)),g s'=s/\x=some (v.c s',cO s' us)/\(K τ g v us).run s'=some b
 | _,.ok v us,s,x,K0,K,hr,ho => .inl ⟨v,us,ho,hr⟩
 | _,.req c r,s,x,K0,K,hr,ho=>by
   rw [HR.thn] at hr;obtain ⟨h1,h2⟩:=qY hr;exact HR.thn_c r h2 (ho h1)
 | _,.bnd f r,s,x,K0,K,hr,ho=>by
   rw [HR.thn,TR.run] at hr;cases hf:f s with
   | none=>rw [hf] at hr;cases hr
   | some a =>
     rw [hf] at hr;rcases HR.thn_c r hr (ho a hf) with ⟨v,us,h1,h2⟩ | ⟨τ,g,s',v,us,h1,h2,h3⟩
     ·exact .inr ⟨_,Prod.fst,(s,a),v,us,rfl,h1,h2⟩
     ·exact .inr ⟨τ,fun t=>(g t).1,s',v,us,by show (g s').1=s;rw [h1],h2,h3⟩
 | _,.fail m,s,x,K0,K,hr,ho=>by rw [HR.thn,TR.run] at hr;cases hr
 | _,.iff c t e,s,x,K0,K,hr,ho=>by
   rw [HR.thn,TR.run] at hr;rw [HR.Ok] at ho;cases hc:c s with
   | true=>rw [hc] at hr ho;exact HR.thn_c t hr ho
   | false=>rw [hc] at hr ho;exact HR.thn_c e hr ho
section
variable {σ:Type}
def Wq (v:Value):SV σ :=
 match v with
 | .agg cs=>match cs.toList.all (·.oneCell') with | true => .agg (cs.toList.map .val) | false => .junk
 | .tuple cs=>match cs.isEmpty with | true => .undef | false => .junk
 | v => .val v
theorem X9 (s:σ):∀l:List Value,cL s (l.map .val)=l.map fun c=>AV.d (.val c)
 | []=>rfl
 | x::l=>by rw [List.map_cons,cL,X9 s l,SV.c];rfl
theorem ac8 (s:σ) (v:Value):(Wq v:SV σ).c s=Fq v:=by
 unfold Wq Fq;split
 ·rename_i cs;show _=(if (cs.toList.all fun x=>x.oneCell')=true then AV.agg (cs.toList.map fun c => .d (.val c)) else .junk)
  cases h:(cs.toList.all fun x=>x.oneCell') with
  | true=>rw [if_pos rfl,SV.c,X9]
  | false=>rw [if_neg (by simp),SV.c]
 ·rename_i cs;show _=(if cs.isEmpty=true then AV.undef else .junk)
  cases h:cs.isEmpty with
  | true=>rw [if_pos rfl,SV.c]
  | false=>rw [if_neg (by simp),SV.c]
 ·rename_i h1 h2;rw [SV.c];cases v<;>first | rfl | exact (h1 _ rfl).elim | exact (h2 _ rfl).elim
def xq (d:SS σ):Operand->SV σ
 | .tmp t=>match jF t d.tm with | some x=>x | none => .junk
 | .const v=>Wq v
 | .global g=>match gTab g with | some x => .dpt x.t (fun _=>x.l) (fun _=>0) 0 | none => .junk
 | .func f=>match Nat.blt f 1048576 with | true => .clo f [] | false => .junk
def iU (g:Nat):Option (List DV):=(gTab g).map fun x=>aI x.t x.l
theorem Ua (s:σ) (N:Nat) (d:SS σ) (x:Operand):(xq d x).c s=(d.c s N).ev iU x:=by
 cases x with
 | tmp t =>
   show _=(d.c s N).get t;unfold xq SL.get SS.c;simp only [pU];rw [jO];cases look t d.tm with
   | none=>simp only [Option.map_none];rw [SV.c]
   | some x=>rfl
 | const v=>exact ac8 s v
 | global g =>
   show (match gTab g with | some x=>SV.dpt x.t (fun _=>x.l) (fun _=>0) 0 | none => .junk:SV σ).c s=(match (gTab g).map fun x=>aI x.t x.l with | some cells=>AV.dptr cells 0 | none => .junk)
   cases gTab g with
   | none=>rw [SV.c];rfl
   | some x=>rw [SV.c,Nat.zero_mul];rfl
 | func f =>
   show (match Nat.blt f 1048576 with | true=>SV.clo f [] | false => .junk:SV σ).c s=(match Nat.blt f 1048576 with | true=>AV.clo f [] | false => .junk)
   cases Nat.blt f 1048576 with
   | true=>rw [SV.c,cL]
   | false=>rw [SV.c]
def kS (d:SS σ) (r:Nat):Option (SO σ):=jF r d.hp
theorem mM (s:σ) (N:Nat) (d:SS σ):iI s (kS d)=(d.c s N).rd:=by
 funext r;unfold iI kS SL.rd SS.c;rw [jO];simp only [lu]
def ac9 (d:SS σ) (o:Option Nat) (v:SV σ):SS σ:=match o with | some t=>⟨(t,v)::d.tm,d.hp⟩ | none=>d
def IJ (d:SS σ) (o:Option Nat) (v:SV σ) (us:List (Nat×SO σ)):SS σ:=⟨(ac9 d o v).tm,us++d.hp⟩
theorem ada (s:σ) (N:Nat) (d:SS σ) (o:Option Nat) (v:SV σ):(ac9 d o v).c s N=(d.c s N).put o (v.c s):=by
 cases o<;>rfl
theorem aj0 (s:σ) (N:Nat) (d:SS σ) (o:Option Nat) (v:SV σ) (us:List (Nat×SO σ)):(IJ d o v us).c s N=(d.c s N).app o (v.c s) (cO s us):=by
 unfold IJ SL.app;rw [<-ada];unfold SS.c;simp only [dL]
structure EN where
 ks:List Nat
 rds:List Nat
 lvs:List Nat
 chg:List Nat
def Qs (e:Ef):EN:=⟨wU e,e.rds,e.lvs,e.chg⟩
def kL (r:Nat):List Nat->Bool
 | []=>false
 | x::l=>match decide (r=x) with | true=>true | false=>kL r l
theorem Ed (r:Nat):∀l:List Nat,kL r l=l.contains r
 | []=>rfl
 | x::l=>by
   rw [kL,List.contains_cons,Ed r l];by_cases h:r=x
   ·subst h;simp
   ·rw [decide_eq_false h];simp [h]
def FT (a b:List Nat):Bool:=a.all fun r => !kL r b
def ncN (x y:EN):Bool:=(FT x.ks y.rds&&FT x.ks y.ks)&&(FT x.chg y.lvs&&(FT y.ks x.rds&&FT y.chg x.lvs))
theorem Ya {α:Type} (p q:α->Bool):∀l:List α,l.all (fun r=>p r&&q r)=(l.all p&&l.all q)
 | []=>rfl
 | x::l=>by rw [List.all_cons,List.all_cons,List.all_cons,Ya p q l];cases p x<;>cases q x<;>cases l.all p<;>rfl
theorem aj1 (x y:Ef):ncN (Qs x) (Qs y)=Vx x y:=by
 unfold ncN Vx FT Qs;simp only [Ed,Ya,Bool.and_assoc]
def Ws (ops:Array Oper) (anc:List Nat) (o:Oper) (e:EN) (log:List (Nat×EN)):Bool :=
 log.all fun x=>kL x.1 anc||match ops[x.1]? with | some oj=>oj.apart ops o&&ncN x.2 e | none=>false
theorem adb (ops:Array Oper) (anc:List Nat) (o:Oper) (e:Ef) (log:List (Nat×Ef)):Ws ops anc o (Qs e) (log.map fun x=>(x.1,Qs x.2))=yM ops anc o e log:=by
 unfold Ws yM;rw [List.all_map];congr 1;funext x;simp only [Function.comp,Ed];cases ops[x.1]? with
 | none=>rfl
 | some oj=>simp only [aj1]
def bK:List (Nat×SO σ)->List Nat
 | []=>[]
 | (r,_)::l=>r::bK l
theorem Ub (s:σ):∀us:List (Nat×SO σ),(cO s us).map (·.1)=bK us
 | []=>rfl
 | (r,o)::l=>by rw [cO,List.map_cons,bK,Ub s l]
def J9 (x:Option (SO σ)) (o:SO σ):Bool :=
 match x with
 | none=>false
 | some x=>match x.kind,o.kind with
   | .data a,.data b=>decide (a=b)
   | .mix,.mix=>true
   | .mp,.mp=>true
   | .dead,.dead=>true
   | _,_=>false
theorem ade (s:σ) (x:Option (SO σ)) (o:SO σ):Hr (x.map (·.c s)) (o.c s)=J9 x o:=by
 unfold Hr J9;cases x with
 | none=>rfl
 | some x =>
   simp only [Option.map_some];cases x<;>cases o<;>simp [SO.c,SO.kind]<;>rfl
def uQ (rd:Nat->Option (SO σ)):List (Nat×SO σ)->List Nat
 | []=>[]
 | (r,o)::l=>match J9 (rd r) o with | true=>uQ rd l | false=>r::uQ rd l
theorem Yb (s:σ) (rd:Nat->Option (SO σ)):∀us:List (Nat×SO σ),sD (iI s rd) (cO s us)=uQ rd us
 | []=>rfl
 | (r,o)::l=>by
   have ih:=Yb s rd l;unfold sD at ih ⊢;rw [cO,List.filter_cons,uQ];simp only;rw [show Hr (iI s rd r) (o.c s)=J9 (rd r) o from ade s (rd r) o];cases h:J9 (rd r) o with
   | true=>simpa using ih
   | false=>simp [ih]
end
inductive WG (σ:Type):Type where
 | yes | no | dyn (t:Nat) (f:σ->Bool) (want:Bool) | bad
section
variable {σ:Type}
def adf (ops:Array Oper) (d:SS σ) (o:Oper):WG σ :=
 match o.guard with
 | none => .yes
 | some (j,want)=>match ops[j]? with
   | none => .no
   | some oj=>match oj.dst with
     | none => .no
     | some t=>match jF t d.tm with
       | some (.val (.bool b))=>match b,want with
         | true,true => .yes
         | false,false => .yes
         | _,_ => .no
       | some (.bool f) => .dyn t f want
       | some .undef => .no
       | _ => .bad
def WG.Ok (s:σ) (N:Nat) (d:SS σ) (x:Option Bool):WG σ->Prop
 | .yes=>x=some true
 | .no=>x=some false
 | .dyn t f want=>x=some (f s==want)/\(d.c s N).get t=dX (f s)
 | .bad=>True
def CG (d:SS σ) (t:Nat) (b:Bool):SS σ:=⟨(t,.val (.bool b))::d.tm,d.hp⟩
theorem Qu {s:σ} {N:Nat} {d:SS σ} {t:Nat} {b:Bool} (h:(d.c s N).get t=dX b):((CG d t b).c s N).S=(d.c s N).S:=by
 unfold SL.S;have:((CG d t b).c s N).get=(d.c s N).get:=by
  funext k;unfold SL.get;show (match look k ((t,(SV.val (.bool b):SV σ).c s)::cT s d.tm) with | some x=>x | none=>AV.junk)=_;rw [look];by_cases hk:t=k
  ·subst hk;rw [if_pos rfl,SV.c];exact h.symm
  ·rw [if_neg hk];rfl
 rw [this];rfl
theorem af5 (s:σ) (N:Nat) (ops:Array Oper) (d:SS σ) (o:Oper):(adf ops d o).Ok s N d (tq ops (d.c s N) o):=by
 unfold adf tq;cases o.guard with
 | none=>rfl
 | some p =>
   obtain ⟨j,want⟩:=p;simp only;cases ops[j]? with
   | none=>rfl
   | some oj =>
     simp only [Option.bind_some];cases oj.dst with
     | none=>rfl
     | some t =>
       simp only;have he:(d.c s N).get t=match jF t d.tm with | some v=>v.c s | none => .junk:=by
        unfold SL.get SS.c;simp only [pU];rw [jO];cases look t d.tm<;>rfl
       rw [he];cases hlq:jF t d.tm with
       | none=>trivial
       | some v =>
         cases v with
         | val v=>cases v with
           | bool b=>simp only [SV.c];cases b<;>cases want<;>rfl
           | _=>trivial
         | bool f =>
           refine ⟨?_,?_⟩
           ·simp only [SV.c,dX]
           ·rw [he,hlq];simp only [SV.c]
         | undef=>simp only [SV.c];rfl
         | _=>trivial
def adg (ρ:Operand->SV σ) (o:Oper):Option (Nat×List (SV σ)) :=
 match o.op with
 | .call c=>match c.callee with
   | .value x=>match ρ x with
     | .clo f caps=>some (f % 1048576,caps.take (f / 1048576)++(c.args.toList.map ρ++caps.drop (f / 1048576)))
     | _=>none
   | _=>none
 | _=>none
def Wu (o:Oper):Bool :=
 match o.op with
 | .call c=>match c.callee with
   | .value _=>false
   | _=>true
 | _=>true
theorem af6 (s:σ) (ρ:Operand->SV σ) (o:Oper) {f:Nat} {args:List (SV σ)} (h:adg ρ o=some (f,args)):vJ (fun x=>(ρ x).c s) o=some (f,cL s args):=by
 unfold adg at h;unfold vJ;split at h
 ·rename_i c hc;rw [hc];simp only;split at h
  ·rename_i x hx;rw [hx];simp only;split at h
   ·rename_i g caps hv;cases h;rw [hv,SV.c];simp only;rw [oW,oW,IZ,IY,qH]
   ·cases h
  ·cases h
 ·cases h
theorem adh (ρ:Operand->AV) (o:Oper) (h:Wu o=true):vJ ρ o=none:=by
 unfold Wu at h;unfold vJ;split at h
 ·rename_i c hc;rw [hc];simp only;split at h
  ·cases h
  ·rename_i hx;split
   ·rename_i x hx';exact (hx x hx').elim
   ·rfl
 ·rename_i hc;split
  ·rename_i c hc';exact (hc c hc').elim
  ·rfl
def Yc (T:Ty) (o:Oper):Bool :=
 match o.op with
 | .alloc _=>true
 | .box _ _=>true
 | .buildSlice _ _ _=>true
 | .load _ _=>true
 | .store _ _ _=>true
 | .makeSlice _ _ _=>true
 | .makeMap _ _=>true
 | .lookup _ _ _ _=>true
 | .mapUpdate _ _ _ _=>true
 | .convert src dst _=>match T src,T dst with
   | some si,some di=>match si.k,di.k with | .slice _,.str=>true | _,_=>false
   | _,_=>false
 | .call c=>match c.callee with | .builtin .append=>true | .builtin .copy=>true | _=>false
 | _=>false
theorem af7 (T:Ty) (q:Nat->Bool) (lk:Nat->Option AK) (o:Oper) (ρ:Operand->AV) (h:Yc T o=true):BQ T q lk o ρ=none:=by
 unfold Yc at h;unfold BQ;cases ho:o.op with
 | convert src dst x =>
   rw [ho] at h;simp only at h ⊢;split at h
   ·rename_i si di h1 h2;split at h
    ·rename_i h3 h4;simp only [h1,h2,h3,h4]
    ·cases h
   ·cases h
 | call c =>
   rw [ho] at h;simp only at h ⊢;split at h
   ·rename_i hc;simp only [hc];split<;>rfl
   ·rename_i hc;simp only [hc];split<;>rfl
   ·cases h
 | alloc t=>rfl
 | box t x=>rfl
 | buildSlice t n parts=>rfl
 | load t x=>rfl
 | store t x y=>rfl
 | makeSlice t l c=>rfl
 | makeMap t r=>rfl
 | lookup t x y ok=>rfl
 | mapUpdate t x y z=>rfl
 | _=>first | (rw [ho] at h;cases h;done) | (exact absurd h (by rw [ho];simp)) | (rw [ho] at h;simp at h)
def sN (T:Ty) (o:Oper) (ρ:Operand->SV σ):Option (List (σ->Bool)×SV σ) :=
 match o.op with
 | .convert src dst x=>match T src,T dst with
   | some si,some di=>match si.k,di.k with
     | .str,.slice e=>match Fb (T e),asS (ρ x) with
       | true,some f=>some ([fun s=>decide ((f s).length<=140737488355328)],.lst (.int .u8) fun s=>(f s).map fun b=>(b.toNat:Int))
       | _,_=>none
     | _,_=>none
   | _,_=>none
 | _=>none
theorem apX (s:σ) (T:Ty) (q:Nat->Bool) (lk:Nat->Option AK) (rd:Nat->Option AO) (slot:Nat) (o:Oper) (ρ:Operand->SV σ) {cs:List (σ->Bool)} {v:SV σ} (h:sN T o ρ=some (cs,v)) (hc:allT s cs) :
 BQ T q lk o (fun x=>(ρ x).c s)=none/\BR T rd slot o (fun x=>(ρ x).c s)=none/\Jj T rd slot o (fun x=>(ρ x).c s)=some (v.c s,[]):=by
 unfold sN at h;split at h
 ·rename_i src dst x ho;split at h
  ·rename_i si di hsi hdi;split at h
   ·rename_i e k1 k2;split at h
    ·rename_i f hu hf;cases h;have hx:=sU (s:=s) hf;have hl:(⟨(f s).toArray⟩:ByteArray).size=(f s).length:=by show (f s).toArray.size=_;simp
     refine ⟨?_,?_,?_⟩
     ·unfold BQ;simp only [ho,hsi,hdi,k1,k2,hx]
     ·unfold BR;simp only [ho,hsi,hdi,k1,k2]
     ·unfold Jj;simp only [ho,hsi,hdi,k1,k2,hx,hu,if_true,hl];rw [if_pos (of_decide_eq_true hc.1),SV.c,J8,List.length_map]
    ·cases h
   ·cases h
  ·cases h
 ·cases h
def OJ (rs:List Nat) (rd:Nat->Option (SO σ)):Nat->Option (SO σ):=fun r=>match kL r rs with | true=>rd r | false=>none
theorem Yd (s:σ) (rs:List Nat) (rd:Nat->Option (SO σ)):iI s (OJ rs rd)=restrict rs (iI s rd):=by
 funext r;unfold iI OJ restrict;rw [Ed];cases rs.contains r<;>rfl
def gB (o:Oper) (ρ:Operand->SV σ):List Nat:=o.op.operands.toList.flatMap fun x=>(ρ x).refs
theorem Ko (s:σ) (o:Oper) (ρ:Operand->SV σ):(o.op.operands.toList.flatMap fun x=>((ρ x).c s).refs)=gB o ρ:=by
 unfold gB;congr 1;funext x;exact JU s _
end
structure Grow {σ τ:Type} (d:SS σ) (g:τ->σ) (d':SS τ):Prop where
 tm:∃l,d'.tm=l++nY g d.tm
 hp:∃l,d'.hp=l++jP g d.hp
section
variable {σ τ υ:Type}
mutual
theorem map_map (g:τ->σ) (h:υ->τ):∀v:SV σ,(v.map g).map h=v.map fun t=>g (h t)
 | .val v=>by rw [SV.map,SV.map,SV.map]
 | .int k f=>by rw [SV.map,SV.map,SV.map]
 | .bool f=>by rw [SV.map,SV.map,SV.map]
 | .str f=>by rw [SV.map,SV.map,SV.map]
 | .lst t f=>by rw [SV.map,SV.map,SV.map]
 | .ptr r off=>by rw [SV.map,SV.map,SV.map]
 | .ptx r z j off=>by rw [SV.map,SV.map,SV.map]
 | .sl r z o n cap=>by rw [SV.map,SV.map,SV.map];cases o<;>cases cap<;>rfl
 | .dpt t f j off=>by rw [SV.map,SV.map,SV.map]
 | .agg cs=>by rw [SV.map,SV.map,SV.map,xu g h cs]
 | .tup cs=>by rw [SV.map,SV.map,SV.map,xu g h cs]
 | .clo f cs=>by rw [SV.map,SV.map,SV.map,xu g h cs]
 | .undef=>by rw [SV.map,SV.map,SV.map]
 | .junk=>by rw [SV.map,SV.map,SV.map]
theorem xu (g:τ->σ) (h:υ->τ):∀l:List (SV σ),rQ h (rQ g l)=rQ (fun t=>g (h t)) l
 | []=>by rw [rQ,rQ,rQ]
 | x::l=>by rw [rQ,rQ,rQ,map_map g h x,xu g h l]
end
theorem aaF (g:τ->σ) (h:υ->τ) (o:SO σ):(o.map g).map h=o.map fun t=>g (h t):=by
 cases o with
 | mix cs=>show SO.mix _=SO.mix _;rw [xu]
 | _=>rfl
theorem OL (g:τ->σ) (h:υ->τ):∀l:List (Nat×SV σ),nY h (nY g l)=nY (fun t=>g (h t)) l
 | []=>rfl
 | (t,v)::l=>by rw [nY,nY,nY,map_map,OL g h l]
theorem OM (g:τ->σ) (h:υ->τ):∀l:List (Nat×SO σ),jP h (jP g l)=jP (fun t=>g (h t)) l
 | []=>rfl
 | (t,v)::l=>by rw [jP,jP,jP,aaF,OM g h l]
theorem H6 (g:τ->σ):∀a b:List (Nat×SV σ),nY g (a++b)=nY g a++nY g b
 | [],b=>rfl
 | (t,v)::a,b=>by rw [List.cons_append,nY,nY,H6 g a b];rfl
theorem H7 (g:τ->σ):∀a b:List (Nat×SO σ),jP g (a++b)=jP g a++jP g b
 | [],b=>rfl
 | (t,v)::a,b=>by rw [List.cons_append,jP,jP,H7 g a b];rfl
mutual
theorem map_id:∀v:SV σ,v.map (fun s=>s)=v
 | .val v=>by rw [SV.map]
 | .int k f=>by rw [SV.map]
 | .bool f=>by rw [SV.map]
 | .str f=>by rw [SV.map]
 | .lst t f=>by rw [SV.map]
 | .ptr r off=>by rw [SV.map]
 | .ptx r z j off=>by rw [SV.map]
 | .sl r z o n cap=>by rw [SV.map];cases o<;>cases cap<;>rfl
 | .dpt t f j off=>by rw [SV.map]
 | .agg cs=>by rw [SV.map,Ee cs]
 | .tup cs=>by rw [SV.map,Ee cs]
 | .clo f cs=>by rw [SV.map,Ee cs]
 | .undef=>by rw [SV.map]
 | .junk=>by rw [SV.map]
theorem Ee:∀l:List (SV σ),rQ (fun s=>s) l=l
 | []=>by rw [rQ]
 | x::l=>by rw [rQ,map_id x,Ee l]
end
theorem af8 (o:SO σ):o.map (fun s=>s)=o:=by
 cases o with
 | mix cs=>show SO.mix _=SO.mix _;rw [Ee]
 | _=>rfl
theorem Eh:∀l:List (Nat×SV σ),nY (fun s=>s) l=l
 | []=>rfl
 | (t,v)::l=>by rw [nY,map_id,Eh l]
theorem Ei:∀l:List (Nat×SO σ),jP (fun s=>s) l=l
 | []=>rfl
 | (t,v)::l=>by rw [jP,af8,Ei l]
theorem Grow.refl (d:SS σ):Grow d (fun s=>s) d:=⟨⟨[],by rw [Eh];rfl⟩,⟨[],by rw [Ei];rfl⟩⟩
theorem Grow.trans {d:SS σ} {g:τ->σ} {d':SS τ} {h:υ->τ} {d'':SS υ} (a:Grow d g d') (b:Grow d' h d''):Grow d (fun t=>g (h t)) d'':=by
 obtain ⟨⟨l1,h1⟩,⟨l2,h2⟩⟩:=a;obtain ⟨⟨l3,h3⟩,⟨l4,h4⟩⟩:=b;exact ⟨⟨l3++nY h l1,by rw [h3,h1,H6,OL,List.append_assoc]⟩,⟨l4++jP h l2,by rw [h4,h2,H7,OM,List.append_assoc]⟩⟩
theorem Grow.app {d:SS σ} {g:τ->σ} {d':SS τ} (a:Grow d g d') (o:Option Nat) (v:SV τ) (us:List (Nat×SO τ)):Grow d g (IJ d' o v us):=by
 obtain ⟨⟨l1,h1⟩,⟨l2,h2⟩⟩:=a;refine ⟨?_,⟨us++l2,by show us++d'.hp=_;rw [h2,List.append_assoc]⟩⟩;cases o with
 | none=>exact ⟨l1,h1⟩
 | some t=>exact ⟨(t,v)::l1,by show (t,v)::d'.tm=_;rw [h1];rfl⟩
theorem Grow.put {d:SS σ} {g:τ->σ} {d':SS τ} (a:Grow d g d') (o:Option Nat) (v:SV τ):Grow d g (ac9 d' o v):=by
 obtain ⟨⟨l1,h1⟩,⟨l2,h2⟩⟩:=a;cases o with
 | none=>exact ⟨⟨l1,h1⟩,⟨l2,h2⟩⟩
 | some t=>exact ⟨⟨(t,v)::l1,by show (t,v)::d'.tm=_;rw [h1];rfl⟩,⟨l2,h2⟩⟩
theorem Grow.map (d:SS σ) (g:τ->σ):Grow d g (d.map g):=⟨⟨[],rfl⟩,⟨[],rfl⟩⟩
end
def af9 (o:Oper):Bool :=
 match o.op with
 | .binOp _ _ _ _ _=>true
 | .unOp _ _ _=>true
 | .convert _ _ _=>true
 | .slice _ _ _ _ _=>true
 | _=>false
def adi {β σ:Type} (b:Bool) (v:SV σ) (K0:SV σ->TR β σ) (K:(τ:Type)->(τ->σ)->SV τ->TR β τ):TR β σ :=
 match b,v with
 | true,.int k f => .bnd (fun s=>some (f s)) (K (σ×Int) Prod.fst (.int k Prod.snd))
 | true,.str f => .bnd (fun s=>some (f s)) (K (σ×List UInt8) Prod.fst (.str Prod.snd))
 | true,.lst t f => .bnd (fun s=>some (f s)) (K (σ×List t.T) Prod.fst (.lst t Prod.snd))
 | _,v=>K0 v
theorem aga {β σ:Type} {n:Bool} {v:SV σ} {K0:SV σ->TR β σ} {K:(τ:Type)->(τ->σ)->SV τ->TR β τ} {s:σ} {b:β} (h:(adi n v K0 K).run s=some b) :
 (K0 v).run s=some b\/∃(τ:Type) (g:τ->σ) (s':τ) (v':SV τ),g s'=s/\v'.c s'=v.c s/\(K τ g v').run s'=some b:=by
 unfold adi at h;split at h
 ·rw [TR.run] at h;exact .inr ⟨_,Prod.fst,_,_,rfl,by rw [SV.c,SV.c],h⟩
 ·rw [TR.run] at h;exact .inr ⟨_,Prod.fst,_,_,rfl,by rw [SV.c,SV.c],h⟩
 ·rw [TR.run] at h;exact .inr ⟨_,Prod.fst,_,_,rfl,by rw [SV.c,SV.c],h⟩
 ·exact .inl h
abbrev Ye (β:Type):Type 1:=Nat->(σ:Type)->Nat->List (SV σ)->SS σ->Nat->((τ:Type)->(τ->σ)->SV τ->List (Nat×SO τ)->List Nat->Nat->TR β τ)->TR β σ
section
variable {β:Type} (eg:Nat->Bool) (call:Ye β) (T:Ty) (q:Nat->Bool) (N base:Nat) (ops:Array Oper) (draw:Bool) (anc:List (List Nat))
def ncD (i:Nat) (o:Oper) (e:EN) (log:List (Nat×EN)):Bool:=match draw with | false=>true | true=>Ws ops (anc.getD i []) o e log
def brW {σ:Type} (d:SS σ) (w:WG σ) (go skip:SS σ->TR β σ):TR β σ :=
 match w with
 | .yes=>go d
 | .no=>skip d
 | .dyn t f true => .iff f (go (CG d t true)) (skip (CG d t false))
 | .dyn t f false => .iff f (skip (CG d t true)) (go (CG d t false))
 | .bad => .fail "guard"
def Wv (i:Nat) (o:Oper) {σ:Type} (d:SS σ) (log:List (Nat×EN)) (rec:SS σ->List (Nat×EN)->TR β σ):TR β σ :=
 match ncD ops draw anc i o ⟨[],[],[],[]⟩ log with
 | true=>rec (ac9 d o.dst .undef) ((i,⟨[],[],[],[]⟩)::log)
 | false => .fail "order"
def aj2 (i:Nat) (o:Oper) (σ:Type) (d:SS σ) (log:List (Nat×EN)) (F:Nat) (K:(τ:Type)->(τ->σ)->SS τ->Nat->TR β τ)
    (rec:(σ:Type)->SS σ->List (Nat×EN)->Nat->((τ:Type)->(τ->σ)->SS τ->Nat->TR β τ)->TR β σ):TR β σ :=
 match Wu o with
 | false=>match adg (xq d) o with
   | none => .fail "call of what"
   | some (f,args)=>call i σ f args d F (fun τ g v us rds F' =>
     match ncD ops draw anc i o ⟨bK us,rds,[],uQ (kS (d.map g)) us⟩ log with
     | true=>rec τ (IJ (d.map g) o.dst v us) ((i,⟨bK us,rds,[],uQ (kS (d.map g)) us⟩)::log) F' (fun τ' g' d' F''=>K τ' (fun t=>g (g' t)) d' F'')
     | false => .fail "order of a call")
 | true=>match Yc T o with
   | false=>match sQ T q (Qp (OJ (gB o (xq d)) (kS d))) o (xq d) with
     | none=>match sN T o (xq d) with
       | none => .bad [base+i] "operation"
       | some (cs,v)=>match ncD ops draw anc i o ⟨[],(base+i)::gB o (xq d),[],[]⟩ log with
         | true=>Ec cs (rec σ (IJ d o.dst v []) ((i,⟨[],(base+i)::gB o (xq d),[],[]⟩)::log) F K)
         | false => .fail "order"
     | some (cs,v)=>match ncD ops draw anc i o ⟨[],[],gB o (xq d),[]⟩ log with
       | true=>Ec cs (adi (af9 o) v (fun v=>rec σ (IJ d o.dst v []) ((i,⟨[],[],gB o (xq d),[]⟩)::log) F K)
         (fun τ g v=>rec τ (IJ (d.map g) o.dst v []) ((i,⟨[],[],gB o (xq d),[]⟩)::log) F (fun τ' g' d' F''=>K τ' (fun t=>g (g' t)) d' F'')))
       | false => .fail "order"
   | true=>(hS eg T (OJ ((base+i)::gB o (xq d)) (kS d)) (base+i) o (xq d)).thn
     (fun v us=>match ncD ops draw anc i o ⟨bK us,(base+i)::gB o (xq d),[],uQ (kS d) us⟩ log with
       | true=>rec σ (IJ d o.dst v us) ((i,⟨bK us,(base+i)::gB o (xq d),[],uQ (kS d) us⟩)::log) F K
       | false => .fail "order")
     (fun τ g v us=>match ncD ops draw anc i o ⟨bK us,(base+i)::gB o (xq d),[],uQ (kS (d.map g)) us⟩ log with
       | true=>rec τ (IJ (d.map g) o.dst v us) ((i,⟨bK us,(base+i)::gB o (xq d),[],uQ (kS (d.map g)) us⟩)::log) F (fun τ' g' d' F''=>K τ' (fun t=>g (g' t)) d' F'')
       | false => .fail "order")
def Qv:List (Nat×Oper)->(σ:Type)->SS σ->List (Nat×EN)->Nat->((τ:Type)->(τ->σ)->SS τ->Nat->TR β τ)->TR β σ
 | [],σ,d,_,F,K=>K σ (fun s=>s) d F
 | (i,o)::is,σ,d,log,F,K=>match am0 N o.dst with
   | false => .fail "dst"
   | true=>brW d (adf ops d o) (fun d=>aj2 eg call T q base ops draw anc i o σ d log F K (fun σ d log F K=>Qv is σ d log F K)) (fun d=>Wv ops draw anc i o d log (fun d log=>Qv is σ d log F K))
end
def adk (P:Program) (N:Nat) {β:Type} (call:Ye β):Prop :=
 ∀(i:Nat) (σ:Type) (f:Nat) (args:List (SV σ)) (d:SS σ) (F:Nat) (K:(τ:Type)->(τ->σ)->SV τ->List (Nat×SO τ)->List Nat->Nat->TR β τ) (s:σ) (b:β),(call i σ f args d F K).run s=some b ->
  ∃(τ:Type) (g:τ->σ) (s':τ) (v:SV τ) (us:List (Nat×SO τ)) (rds:List Nat) (F':Nat),g s'=s/\xY P f=true/\Does P iU f (cL s args) rds (v.c s') (cO s' us) (d.c s N).rd/\(K τ g v us rds F').run s'=some b
section
variable {P:Program} {eg:Nat->Bool} {q:Nat->Bool} {N base:Nat} {ops:Array Oper} {draw:Bool} {anc:List (List Nat)} {β:Type} {call:Ye β}
def Wx {σ:Type} (N:Nat) (d:SS σ) (s:σ) (b:β) (K:(τ:Type)->(τ->σ)->SS τ->Nat->TR β τ) (sl:SL):Prop :=
 ∃(τ:Type) (g:τ->σ) (s':τ) (d':SS τ) (F':Nat),g s'=s/\Grow d g d'/\sl=d'.c s' N/\(K τ g d' F').run s'=some b
theorem zN {GL:Nat->Option (List DV)} {K K':SL->Prop} (hK:∀s,K s->K' s) {is:List Nat} {s:SL} {log:List (Nat×Ef)} (h:pO P GL q N base ops draw K is s log):pO P GL q N base ops draw K' is s log:=by
 obtain ⟨L,s',h1,h2,h3,h4⟩:=h;exact ⟨L,s',h1,h2,hK _ h3,h4⟩
theorem adl {GL:Nat->Option (List DV)} {K:SL->Prop} {is:List Nat} {s s2:SL} {log:List (Nat×Ef)} (e:s2.S=s.S) (h:pO P GL q N base ops draw K is s2 log):pO P GL q N base ops draw K is s log:=by
 obtain ⟨L,s',h1,h2,h3,h4⟩:=h;exact ⟨L,s',h1,by rw [<-e];exact h2,h3,h4⟩
theorem Kq (hanc:draw=true->anc=uD ops ops.size) (hcall:adk P N call) :
 ∀(is:List (Nat×Oper)) (σ:Type) (d:SS σ) (log:List (Nat×Ef)) (slog:List (Nat×EN)) (F:Nat) (K:(τ:Type)->(τ->σ)->SS τ->Nat->TR β τ) (s:σ) (b:β),(∀x∈is,ops[x.1]? = some x.2)->(log.map fun x=>(x.1,Qs x.2))=slog ->
  (Qv eg call (aQ P) q N base ops draw anc is σ d slog F K).run s=some b->pO P iU q N base ops draw (Wx N d s b K) (is.map (·.1)) (d.c s N) log
 | [],σ,d,log,slog,F,K,s,b,_,_,h=>⟨[],d.c s N,rfl,rfl,⟨σ,fun s=>s,s,d,F,rfl,Grow.refl d,rfl,h⟩,fun _ y hy=>(by cases hy),fun _=>List.Pairwise.nil⟩
 | (i,o)::is,σ,d,log,slog,F,K,s,b,hall,hlog,h=>by
   have ho:ops[i]? = some o:=hall (i,o) List.mem_cons_self;have hall':∀x∈is,ops[x.1]? = some x.2:=fun x hx=>hall x (List.mem_cons_of_mem _ hx);rw [List.map_cons];rw [Qv] at h;split at h
   ·rw [TR.run] at h;cases h
   ·rename_i hdst;rw [afK] at hdst;have hd:∀t,o.dst=some t->t<N:=fun t e=>by
     unfold acf at hdst;rw [e] at hdst;simpa using hdst
    have hnc:∀(e:Ef),ncD ops draw anc i o (Qs e) slog=true->draw=true->yM ops (anc.getD i []) o e log=true:=fun e he hdr=>by
     unfold ncD at he;rw [hdr] at he;simp only at he;rw [<-hlog,adb] at he;exact he
    -- the operation left out
    have hskip:∀d:SS σ,tq ops (d.c s N) o=some false->(Wv ops draw anc i o d slog (fun d log=>Qv eg call (aQ P) q N base ops draw anc is σ d log F K)).run s=some b->pO P iU q N base ops draw (Wx N d s b K) (i::is.map (·.1)) (d.c s N) log:=fun d hw ht=>by
     unfold Wv at ht;split at ht
     ·rename_i hn;have ih:=Kq hanc hcall is σ (ac9 d o.dst .undef) ((i,vX)::log) _ F K s b hall' (by rw [List.map_cons,hlog];rfl) ht;rw [ada,show (SV.undef:SV σ).c s = .undef from by rw [SV.c]] at ih;refine rM hanc ho (SL.put_S _ o.dst) ?_ (hnc vX hn) (zN (fun sl => ?_) ih)
      ·unfold nN;rw [ho];exact ⟨hd,.inr ⟨hw,rfl⟩⟩
      ·rintro ⟨τ,g,s',d',F',h1,h2,h3,h4⟩;exact ⟨τ,g,s',d',F',h1,((Grow.refl d).put o.dst .undef).trans h2,h3,h4⟩
     ·rw [TR.run] at ht;cases ht
    -- the operation carried out
    have hgo:∀d:SS σ,tq ops (d.c s N) o=some true->(aj2 eg call (aQ P) q base ops draw anc i o σ d slog F K (fun σ d log F K=>Qv eg call (aQ P) q N base ops draw anc is σ d log F K)).run s=some b->pO P iU q N base ops draw (Wx N d s b K) (i::is.map (·.1)) (d.c s N) log:=fun d hw ht=>by
     have hev:(fun x=>(xq d x).c s)=(d.c s N).ev iU:=by funext x;exact Ua s N d x
     unfold aj2 at ht
     -- the rest,from a state in which more is known
     have rest:∀(τ:Type) (g:τ->σ) (s':τ) (v:SV τ) (us:List (Nat×SO τ)) (rds lvs:List Nat) (F':Nat),g s'=s ->
      EfR P iU q (base+i) o (d.c s N).S ⟨v.c s',cO s' us,rds,lvs,sD (d.c s N).rd (cO s' us)⟩ ->
      ncD ops draw anc i o ⟨bK us,rds,lvs,uQ (kS (d.map g)) us⟩ slog=true ->
      (Qv eg call (aQ P) q N base ops draw anc is τ (IJ (d.map g) o.dst v us) ((i,⟨bK us,rds,lvs,uQ (kS (d.map g)) us⟩)::slog) F' (fun τ' g' d' F''=>K τ' (fun t=>g (g' t)) d' F'')).run s'=some b ->
      pO P iU q N base ops draw (Wx N d s b K) (i::is.map (·.1)) (d.c s N) log:=fun τ g s' v us rds lvs F' hg hef hn hr=>by
      have hen:(⟨bK us,rds,lvs,uQ (kS (d.map g)) us⟩:EN)=Qs ⟨v.c s',cO s' us,rds,lvs,sD (d.c s N).rd (cO s' us)⟩:=by
       unfold Qs wU;rw [Ub,<-hg,<-acH g s' N d,<-mM,Yb]
      rw [hen] at hn hr;have ih:=Kq hanc hcall is τ (IJ (d.map g) o.dst v us) ((i,⟨v.c s',cO s' us,rds,lvs,sD (d.c s N).rd (cO s' us)⟩)::log) _ F' _ s' b hall' (by rw [List.map_cons,hlog]) hr;rw [aj0,acH,hg] at ih;refine rM hanc ho (SL.app_S (d.c s N) o.dst ⟨v.c s',cO s' us,rds,lvs,sD (d.c s N).rd (cO s' us)⟩) ?_ (hnc _ hn) (zN (fun sl => ?_) ih)
      ·unfold nN;rw [ho];exact ⟨hd,.inl ⟨hw,hef⟩⟩
      ·rintro ⟨τ',g',s'',d',F'',h1,h2,h3,h4⟩;refine ⟨τ',fun t=>g (g' t),s'',d',F'',by show g (g' s'')=s;rw [h1,hg],?_,h3,h4⟩;exact ((Grow.map d g).app o.dst v us).trans h2
     have restI:∀(v:SV σ) (us:List (Nat×SO σ)) (rds lvs:List Nat) (F':Nat),
      EfR P iU q (base+i) o (d.c s N).S ⟨v.c s,cO s us,rds,lvs,sD (d.c s N).rd (cO s us)⟩ ->
      ncD ops draw anc i o ⟨bK us,rds,lvs,uQ (kS d) us⟩ slog=true ->
      (Qv eg call (aQ P) q N base ops draw anc is σ (IJ d o.dst v us) ((i,⟨bK us,rds,lvs,uQ (kS d) us⟩)::slog) F' K).run s=some b ->
      pO P iU q N base ops draw (Wx N d s b K) (i::is.map (·.1)) (d.c s N) log:=fun v us rds lvs F' hef hn hr=>by
      have hmap:d.map (fun s:σ=>s)=d:=by unfold SS.map;rw [Eh,Ei]
      refine rest σ (fun s=>s) s v us rds lvs F' rfl hef (by rw [hmap];exact hn) (by rw [hmap];exact hr)
     have heff:∀(v:AV) (us:List (Nat×AO)),BR (aQ P) (restrict ((base+i)::gB o (xq d)) (d.c s N).rd) (base+i) o ((d.c s N).ev iU)=some (v,us)->Yc (aQ P) o=true->eff (aQ P) q (d.c s N).rd (base+i) o ((d.c s N).ev iU)=some ⟨v,us,(base+i)::gB o (xq d),[]⟩:=fun v us he ho'=>by
      have hrs:(o.op.operands.toList.flatMap fun x=>((d.c s N).ev iU x).refs)=gB o (xq d):=by rw [<-Ko s];simp only [Ua s N d]
      unfold eff;simp only [hrs];rw [af7 _ _ _ _ _ ho'];simp only [he]
     split at ht
     ·split at ht
      ·rw [TR.run] at ht;cases ht
      ·rename_i f args hc;obtain ⟨τ,g,s',v,us,rds,F',h1,h2,h3,h4⟩:=hcall _ _ _ _ _ _ _ _ _ ht;split at h4
       ·rename_i hn;refine rest τ g s' v us rds [] F' h1 ?_ hn h4;refine ⟨rfl,?_⟩;rw [SL.ev_S,<-hev,af6 s _ o hc];exact ⟨rfl,.inl ⟨h2,h3⟩⟩
       ·rw [TR.run] at h4;cases h4
     ·rename_i hno;have hca:vJ ((d.c s N).S.ev iU) o=none:=adh _ o hno;split at ht
      ·split at ht
       ·split at ht
        ·rw [TR.run] at ht;cases ht
        ·rename_i cs v hq;split at ht
         ·rename_i hn;obtain ⟨g1,g2⟩:=qY ht;have hrs:(o.op.operands.toList.flatMap fun x=>((d.c s N).ev iU x).refs)=gB o (xq d):=by rw [<-Ko s];simp only [Ua s N d]
          obtain ⟨n1,n2,n3⟩:=apX s (aQ P) q (kinds (restrict (gB o (xq d)) (d.c s N).rd)) (restrict ((base+i)::gB o (xq d)) (d.c s N).rd) (base+i) o (xq d) hq g1;rw [hev] at n1 n2 n3;refine restI v [] ((base+i)::gB o (xq d)) [] F ⟨rfl,?_⟩ hn g2;rw [hca];refine ⟨⟨v.c s,[],(base+i)::gB o (xq d),[]⟩,?_,rfl,rfl,rfl,rfl⟩;rw [SL.ev_S];show eff (aQ P) q (d.c s N).rd (base+i) o ((d.c s N).ev iU)=_;unfold eff;simp only [hrs];rw [n1];simp only [n2,n3]
         ·rw [TR.run] at ht;cases ht
       ·rename_i cs v hq;split at ht
        ·rename_i hn;obtain ⟨g1,g2⟩:=qY ht;have hEf:EfR P iU q (base+i) o (d.c s N).S ⟨v.c s,[],[],gB o (xq d),[]⟩ := ?_
         ·rcases aga g2 with g2 | ⟨τ,g,s',v',h1,h2,h3⟩
          ·exact restI v [] [] (gB o (xq d)) F hEf hn g2
          ·exact rest τ g s' v' [] [] (gB o (xq d)) F h1 (by rw [h2];exact hEf) hn h3
         refine ⟨rfl,?_⟩;rw [hca];refine ⟨⟨v.c s,[],[],gB o (xq d)⟩,?_,rfl,rfl,rfl,rfl⟩;have hQ:=apS s (aQ P) q (Qp (OJ (gB o (xq d)) (kS d))) o (xq d) cs v hq g1;have hrs:(o.op.operands.toList.flatMap fun x=>((d.c s N).ev iU x).refs)=gB o (xq d):=by rw [<-Ko s];simp only [Ua s N d]
         rw [<-um s,Yd,mM s N,hev] at hQ;rw [SL.ev_S];show eff (aQ P) q (d.c s N).rd (base+i) o ((d.c s N).ev iU)=_;unfold eff;simp only [hrs];rw [hQ]
        ·rw [TR.run] at ht;cases ht
      ·rename_i hH;have hO:=apV s eg (aQ P) (OJ ((base+i)::gB o (xq d)) (kS d)) (base+i) o (xq d);rw [Yd,mM s N,hev] at hO
       have mkEf:∀ {τ:Type} (s':τ) (v:SV τ) (us:List (Nat×SO τ)),BR (aQ P) (restrict ((base+i)::gB o (xq d)) (d.c s N).rd) (base+i) o ((d.c s N).ev iU)=some (v.c s',cO s' us) ->
        EfR P iU q (base+i) o (d.c s N).S ⟨v.c s',cO s' us,(base+i)::gB o (xq d),[],sD (d.c s N).rd (cO s' us)⟩:=fun {τ} s' v us he=>by
        refine ⟨rfl,?_⟩;rw [hca];refine ⟨⟨v.c s',cO s' us,(base+i)::gB o (xq d),[]⟩,?_,rfl,rfl,rfl,rfl⟩;rw [SL.ev_S];exact heff _ _ he hH
       rcases HR.thn_c _ ht hO with ⟨v,us,h1,h2⟩ | ⟨τ,g,s',v,us,h1,h2,h3⟩
       ·split at h2
        ·rename_i hn;exact restI v us _ [] F (mkEf s v us h1) hn h2
        ·rw [TR.run] at h2;cases h2
       ·split at h3
        ·rename_i hn;exact rest τ g s' v us _ [] F h1 (mkEf s' v us h2) hn h3
        ·rw [TR.run] at h3;cases h3
    have hW:=af5 s N ops d o;have viaRef:∀(k:Nat) (b':Bool),(d.c s N).get k=dX b'->pO P iU q N base ops draw (Wx N (CG d k b') s b K) (i::is.map (·.1)) ((CG d k b').c s N) log->pO P iU q N base ops draw (Wx N d s b K) (i::is.map (·.1)) (d.c s N) log:=fun k b' hk hr=>by
     refine adl (Qu hk) (zN (fun sl => ?_) hr);rintro ⟨τ,g,s',d',F',h1,h2,h3,h4⟩;refine ⟨τ,g,s',d',F',h1,?_,h3,h4⟩;have h0:Grow d (fun s=>s) (CG d k b'):=⟨⟨[(k,.val (.bool b'))],by rw [Eh];rfl⟩,⟨[],by rw [Ei];rfl⟩⟩
     exact h0.trans h2
    have wantRef:∀(k:Nat) (b':Bool),(d.c s N).get k=dX b'->tq ops ((CG d k b').c s N) o=tq ops (d.c s N) o:=fun k b' hk=>by
     rw [<-Oq,<-Oq,Qu hk]
    unfold brW at h;split at h
    ·rename_i hw;rw [hw] at hW;exact hgo d hW h
    ·rename_i hw;rw [hw] at hW;exact hskip d hW h
    ·rename_i k f hw;rw [hw] at hW;rw [TR.run] at h;obtain ⟨hW,hk⟩:=hW;cases hf:f s with
     | true=>rw [hf] at h hW hk;exact viaRef k true hk (hgo _ (by rw [wantRef k true hk];exact hW) h)
     | false=>rw [hf] at h hW hk;exact viaRef k false hk (hskip _ (by rw [wantRef k false hk];exact hW) h)
    ·rename_i k f hw;rw [hw] at hW;rw [TR.run] at h;obtain ⟨hW,hk⟩:=hW;cases hf:f s with
     | true=>rw [hf] at h hW hk;exact viaRef k true hk (hskip _ (by rw [wantRef k true hk];exact hW) h)
     | false=>rw [hf] at h hW hk;exact viaRef k false hk (hgo _ (by rw [wantRef k false hk];exact hW) h)
    ·rw [TR.run] at h;cases h
end
def pr:U->U->U
 | .unit,b=>b
 | .int k,.unit => .int k
 | .bool,.unit => .bool
 | .str,.unit => .str
 | .list t,.unit => .list t
 | .pair a b,.unit => .pair a b
 | a,b => .pair a b
def wM:(a b:U)->a.T->b.T->(pr a b).T
 | .unit,_,_,y=>y
 | .int _,.unit,x,_=>x
 | .bool,.unit,x,_=>x
 | .str,.unit,x,_=>x
 | .list _,.unit,x,_=>x
 | .pair _ _,.unit,x,_=>x
 | .int _,.int _,x,y=>(x,y)
 | .int _,.bool,x,y=>(x,y)
 | .int _,.str,x,y=>(x,y)
 | .int _,.list _,x,y=>(x,y)
 | .int _,.pair _ _,x,y=>(x,y)
 | .bool,.int _,x,y=>(x,y)
 | .bool,.bool,x,y=>(x,y)
 | .bool,.str,x,y=>(x,y)
 | .bool,.list _,x,y=>(x,y)
 | .bool,.pair _ _,x,y=>(x,y)
 | .str,.int _,x,y=>(x,y)
 | .str,.bool,x,y=>(x,y)
 | .str,.str,x,y=>(x,y)
 | .str,.list _,x,y=>(x,y)
 | .str,.pair _ _,x,y=>(x,y)
 | .list _,.int _,x,y=>(x,y)
 | .list _,.bool,x,y=>(x,y)
 | .list _,.str,x,y=>(x,y)
 | .list _,.list _,x,y=>(x,y)
 | .list _,.pair _ _,x,y=>(x,y)
 | .pair _ _,.int _,x,y=>(x,y)
 | .pair _ _,.bool,x,y=>(x,y)
 | .pair _ _,.str,x,y=>(x,y)
 | .pair _ _,.list _,x,y=>(x,y)
 | .pair _ _,.pair _ _,x,y=>(x,y)
def jD:(a b:U)->(pr a b).T->a.T
 | .unit,_,_=>()
 | .int _,.unit,x=>x
 | .bool,.unit,x=>x
 | .str,.unit,x=>x
 | .list _,.unit,x=>x
 | .pair _ _,.unit,x=>x
 | .int _,.int _,p=>p.1
 | .int _,.bool,p=>p.1
 | .int _,.str,p=>p.1
 | .int _,.list _,p=>p.1
 | .int _,.pair _ _,p=>p.1
 | .bool,.int _,p=>p.1
 | .bool,.bool,p=>p.1
 | .bool,.str,p=>p.1
 | .bool,.list _,p=>p.1
 | .bool,.pair _ _,p=>p.1
 | .str,.int _,p=>p.1
 | .str,.bool,p=>p.1
 | .str,.str,p=>p.1
 | .str,.list _,p=>p.1
 | .str,.pair _ _,p=>p.1
 | .list _,.int _,p=>p.1
 | .list _,.bool,p=>p.1
 | .list _,.str,p=>p.1
 | .list _,.list _,p=>p.1
 | .list _,.pair _ _,p=>p.1
 | .pair _ _,.int _,p=>p.1
 | .pair _ _,.bool,p=>p.1
 | .pair _ _,.str,p=>p.1
 | .pair _ _,.list _,p=>p.1
 | .pair _ _,.pair _ _,p=>p.1
def kM:(a b:U)->(pr a b).T->b.T
 | .unit,_,y=>y
 | .int _,.unit,_=>()
 | .bool,.unit,_=>()
 | .str,.unit,_=>()
 | .list _,.unit,_=>()
 | .pair _ _,.unit,_=>()
 | .int _,.int _,p=>p.2
 | .int _,.bool,p=>p.2
 | .int _,.str,p=>p.2
 | .int _,.list _,p=>p.2
 | .int _,.pair _ _,p=>p.2
 | .bool,.int _,p=>p.2
 | .bool,.bool,p=>p.2
 | .bool,.str,p=>p.2
 | .bool,.list _,p=>p.2
 | .bool,.pair _ _,p=>p.2
 | .str,.int _,p=>p.2
 | .str,.bool,p=>p.2
 | .str,.str,p=>p.2
 | .str,.list _,p=>p.2
 | .str,.pair _ _,p=>p.2
 | .list _,.int _,p=>p.2
 | .list _,.bool,p=>p.2
 | .list _,.str,p=>p.2
 | .list _,.list _,p=>p.2
 | .list _,.pair _ _,p=>p.2
 | .pair _ _,.int _,p=>p.2
 | .pair _ _,.bool,p=>p.2
 | .pair _ _,.str,p=>p.2
 | .pair _ _,.list _,p=>p.2
 | .pair _ _,.pair _ _,p=>p.2
theorem jT (a b:U) (x:a.T) (y:b.T):jD a b (wM a b x y)=x:=by cases a<;>cases b<;>rfl
theorem kT (a b:U) (x:a.T) (y:b.T):kM a b (wM a b x y)=y:=by cases a<;>cases b<;>rfl
inductive CS where
 | dat (u:U) | own (r e:Nat) (u:U) | nil | np | pt (r off:Nat) | cl (f:Nat) (caps:List (Nat×Nat))
inductive IT where
 | tmp (t:Nat) (agg:Bool) (cs:List CS)
 | mix (r:Nat) (cs:List CS)
 | row (r e:Nat) (u:U)
 | arr (r:Nat) (u:U)
 | mp (r:Nat)
 | drop (t:Nat)
 | dead (r:Nat)
def uC:CS->U
 | .dat u=>u
 | .own _ _ u => .list u
 | _ => .unit
def jm:List CS->U
 | [] => .unit
 | c::cs=>pr (uC c) (jm cs)
def uI:IT->U
 | .tmp _ _ cs=>jm cs
 | .mix _ cs=>jm cs
 | .row _ _ u => .list u
 | .arr _ u => .list u
 | .mp _ => .list .str
 | _ => .unit
def cu:List IT->U
 | [] => .unit
 | i::l=>pr (uI i) (cu l)
section
variable {σ:Type}
def CJ (ρ:Nat->Nat):List (Nat×Nat)->List (SV σ)
 | []=>[]
 | (r,off)::l => .ptr (ρ r) off::CJ ρ l
def eqN (a b:Option Nat):Bool:=match a,b with
 | some x,some y=>decide (x=y)
 | none,none=>true
 | _,_=>false
def Kr (θ:Nat->Option Nat):List (Nat×Nat)->List (SV σ)->Bool
 | [],[]=>true
 | (r,off)::l,.ptr r1 off1::vs=>(eqN (θ r) (some r1)&&decide (off=off1))&&Kr θ l vs
 | _,_=>false
def adn:(c:CS)->(σ->(uC c).T)->SV σ
 | .dat (.int k),f => .int k f
 | .dat .bool,f => .bool f
 | .dat .str,f => .str f
 | .dat (.list t),f => .lst t f
 | .dat _,_ => .junk
 | .own r _ u,f => .sl r (fJ u) none (fun s=>(f s).length) .unk
 | .nil,_ => .val (.slice none 0 0)
 | .np,_ => .val (.pointer none)
 | .pt r off,_ => .ptr r off
 | .cl f caps,_ => .clo f (CJ (fun r=>r) caps)
def anr:(c:CS)->(σ->(uC c).T)->List (Nat×SO σ)
 | .own r e u,f=>[(r,.data e u f true)]
 | _,_=>[]
def H8:(cs:List CS)->(σ->(jm cs).T)->List (SV σ)
 | [],_=>[]
 | c::cs,f=>adn c (fun s=>jD (uC c) (jm cs) (f s))::H8 cs (fun s=>kM (uC c) (jm cs) (f s))
def OO:(cs:List CS)->(σ->(jm cs).T)->List (Nat×SO σ)
 | [],_=>[]
 | c::cs,f=>anr c (fun s=>jD (uC c) (jm cs) (f s))++OO cs (fun s=>kM (uC c) (jm cs) (f s))
def one1:List (SV σ)->SV σ
 | [v]=>v
 | _ => .junk
def aiN:(i:IT)->(σ->(uI i).T)->List (Nat×SV σ)
 | .tmp t true cs,f=>[(t,.agg (H8 cs f))]
 | .tmp t false cs,f=>[(t,one1 (H8 cs f))]
 | .drop t,_=>[(t,.junk)]
 | _,_=>[]
def aiO:(i:IT)->(σ->(uI i).T)->List (Nat×SO σ)
 | .tmp _ _ cs,f=>OO cs f
 | .mix r cs,f=>(r,.mix (H8 cs f))::OO cs f
 | .row r e u,f=>[(r,.data e u f true)]
 | .arr r u,f=>[(r,.arr u f)]
 | .mp r,f=>[(r,.mp f)]
 | .dead r,_=>[(r,.dead)]
 | _,_=>[]
def oI:(l:List IT)->(σ->(cu l).T)->List (Nat×SV σ)
 | [],_=>[]
 | i::l,f=>aiN i (fun s=>jD (uI i) (cu l) (f s))++oI l (fun s=>kM (uI i) (cu l) (f s))
def jc:(l:List IT)->(σ->(cu l).T)->List (Nat×SO σ)
 | [],_=>[]
 | i::l,f=>aiO i (fun s=>jD (uI i) (cu l) (f s))++jc l (fun s=>kM (uI i) (cu l) (f s))
def headD (d:SS σ) (its:List IT):SS (σ×(cu its).T):=⟨oI its Prod.snd++nY Prod.fst d.tm,jc its Prod.snd++jP Prod.fst d.hp⟩
def ado:U->Bool
 | .int _=>true
 | .bool=>true
 | .str=>true
 | .list _=>true
 | _=>false
def Qw (rd:Nat->Option (SO σ)):(c:CS)->SV σ->Option (PK σ (uC c).T)
 | .dat u,v=>match ado u with | true=>II rd u [v] | false=>none
 | .own _ e u,v=>match v with
   | .val (.slice none 0 0)=>some ⟨fun _=>[],[],[]⟩
   | .sl r z none n .unk=>match rd r with
     | some (.data e' u' f true)=>match Ve u' u,decide (e'=e/\z=fJ u') with
       | some ⟨h⟩,true=>some ⟨gY h fun s=>(f s).take (n s),[fun s=>decide (n s<=(f s).length)],[]⟩
       | _,_=>none
     | _=>none
   | _=>none
 | .nil,v=>match v with | .val (.slice none 0 0)=>some ⟨fun _=>(),[],[]⟩ | _=>none
 | .np,v=>match v with | .val (.pointer none)=>some ⟨fun _=>(),[],[]⟩ | _=>none
 | .pt r off,v=>match v with | .ptr r' off'=>(match decide (r=r'/\off=off') with | true=>some ⟨fun _=>(),[],[]⟩ | false=>none) | _=>none
 | .cl f caps,v=>match v with | .clo f' vs=>(match decide (f=f')&&Kr some caps vs with | true=>some ⟨fun _=>(),[],[]⟩ | false=>none) | _=>none
def thC:CS->SV σ->List (Nat×Option Nat)
 | .own r _ _,.sl r1 _ _ _ _=>[(r,some r1)]
 | .own r _ _,_=>[(r,none)]
 | _,_=>[]
def IK (rd:Nat->Option (SO σ)):(cs:List CS)->List (SV σ)->Option (PK σ (jm cs).T)
 | [],[]=>some ⟨fun _=>(),[],[]⟩
 | c::cs,v::vs=>match Qw rd c v,IK rd cs vs with
   | some x,some y=>some ⟨fun s=>wM (uC c) (jm cs) (x.f s) (y.f s),x.cs++y.cs,x.fz++y.fz⟩
   | _,_=>none
 | _,_=>none
def Wy:List CS->List (SV σ)->List (Nat×Option Nat)
 | c::cs,v::vs=>thC c v++Wy cs vs
 | _,_=>[]
def pkI (d:SS σ):(i:IT)->Option (PK σ (uI i).T)
 | .tmp t agg cs=>match jF t d.tm with
   | none=>none
   | some v=>match agg with
     | false=>IK (kS d) cs [v]
     | true=>match v with | .agg vs=>IK (kS d) cs vs | _=>none
 | .mix r cs=>match kS d r with | some (.mix vs)=>IK (kS d) cs vs | _=>none
 | .row r e u=>match kS d r with
   | some (.data e' u' f true)=>match Ve u' u,decide (e'=e) with | some ⟨h⟩,true=>some ⟨gY h f,[],[]⟩ | _,_=>none
   | _=>none
 | .arr r u=>match kS d r with
   | some (.arr u' f)=>match Ve u' u with | some ⟨h⟩=>some ⟨gY h f,[],[]⟩ | none=>none
   | _=>none
 | .mp r=>match kS d r with
   | some (.mp f)=>some ⟨f,[],[]⟩
   | _=>none
 | .drop _=>some ⟨fun _=>(),[],[]⟩
 | .dead _=>some ⟨fun _=>(),[],[]⟩
def thI (d:SS σ):IT->List (Nat×Option Nat)
 | .tmp t agg cs=>match jF t d.tm with
   | none=>[]
   | some v=>match agg with
     | false=>Wy cs [v]
     | true=>match v with | .agg vs=>Wy cs vs | _=>[]
 | .mix r cs=>match kS d r with | some (.mix vs)=>Wy cs vs | _=>[]
 | _=>[]
def agb (d:SS σ):(l:List IT)->Option (PK σ (cu l).T)
 | []=>some ⟨fun _=>(),[],[]⟩
 | i::l=>match pkI d i,agb d l with
   | some x,some y=>some ⟨fun s=>wM (uI i) (cu l) (x.f s) (y.f s),x.cs++y.cs,x.fz++y.fz⟩
   | _,_=>none
def wz (d:SS σ):List IT->List (Nat×Option Nat)
 | []=>[]
 | i::l=>thI d i++wz d l
def qm:List IT->List Nat
 | []=>[]
 | .tmp t _ _::l=>t::qm l
 | .drop t::l=>t::qm l
 | _::l=>qm l
def kV:List IT->List Nat
 | []=>[]
 | .mix r _::l=>r::kV l
 | .row r _ _::l=>r::kV l
 | .arr r _::l=>r::kV l
 | .mp r::l=>r::kV l
 | .dead r::l=>r::kV l
 | _::l=>kV l
def jw:List (Nat×Option Nat)->List Nat
 | []=>[]
 | (r,_)::l=>r::jw l
def nodupB:List Nat->Bool
 | []=>true
 | r::l => !kL r l&&nodupB l
def Uc (o:Option (SO σ)):Bool :=
 match o with
 | none=>true
 | some .dead=>true
 | some (.data _ _ _ false)=>true
 | _=>false
def okN {σ':Type} (keys:List Nat) (dh:SS σ') (r:Nat):Bool := !kL r keys && !iJ (kS dh) r
def WA {σ':Type} (keys:List Nat) (dh:SS σ') (l:List Nat):Bool:=l.all (okN keys dh)
def aaG {σ':Type} (keys:List Nat) (dh:SS σ'):List Nat->List (Nat×SV σ)->Bool
 | _,[]=>true
 | skip,(t,v)::l=>match kL t skip with
   | true=>aaG keys dh skip l
   | false=>WA keys dh v.refs&&aaG keys dh (t::skip) l
def Kt:SO σ->List Nat
 | .mix cs=>sV cs
 | _=>[]
def aaH {σ':Type} (keys:List Nat) (dh:SS σ'):List Nat->List (Nat×SO σ)->Bool
 | _,[]=>true
 | skip,(r,o)::l=>match kL r skip with
   | true=>aaH keys dh skip l
   | false=>(!kL r keys&&WA keys dh (Kt o))&&aaH keys dh (r::skip) l
def fM:List CS->List Nat
 | []=>[]
 | .pt r _::l=>r::fM l
 | .cl _ caps::l=>caps.map (·.1)++fM l
 | _::l=>fM l
def dR:List IT->List Nat
 | []=>[]
 | .tmp _ _ cs::l=>fM cs++dR l
 | .mix _ cs::l=>fM cs++dR l
 | _::l=>dR l
def Ku {σ':Type} (keys:List Nat) (dh:SS σ'):List (Nat×Option Nat)->Bool
 | []=>true
 | (_,none)::l=>Ku keys dh l
 | (r,some x)::l=>((kL x keys||Uc (kS dh x))&&l.all fun y=>match y.2 with | some z => !decide (x=z) | none=>true)&&Ku keys dh l
def Qx {σ':Type} (th:List (Nat×Option Nat)) (dh:SS σ') (x:Nat):Bool :=
 (th.all fun y=>match y.2 with | some z => !decide (x=z) | none=>true)&&(kL x (jw th)||Uc (kS dh x))
def aiP {τ:Type} (d:SS σ) (its:List IT) (d':SS τ) (fz:List (Nat×SO τ)):Bool :=
 ((((d'.tm.take (d'.tm.length-d.tm.length)).all fun x=>kL x.1 (qm its)||(match jF x.1 d.tm with | none=>true | some _=>false)) &&
  ((d'.hp.take (d'.hp.length-d.hp.length)).all fun x=>kL x.1 (kV its)||iJ (kS d) x.1)) &&
 ((nodupB (jw (wz d' its))&&(jw (wz d' its)).all fun r=>iJ (kS d) r && !kL r (kV its)) &&
  (Ku (jw (wz d' its)) (headD d its) (wz d' its)&&fz.all fun x=>Qx (wz d' its) (headD d its) x.1))) &&
 ((aaG (jw (wz d' its)) (headD d its) (qm its) d.tm&&aaH (jw (wz d' its)) (headD d its) (kV its) d.hp) &&
  (WA (jw (wz d' its)) (headD d its) (dR its)&&(nodupB (kV its)&&(kV its).all fun r => !iJ (kS d) r)))
end
def FU:List (Nat×Nat)->List AV
 | []=>[]
 | (r,off)::l => .ptr r off::FU l
def aC:(c:CS)->(uC c).T->AV
 | .dat (.int k),n=>dU k n
 | .dat .bool,b=>dX b
 | .dat .str,l => .d (.val (.string ⟨l.toArray⟩))
 | .dat (.list t),l => .d (.dl (aI t l) l.length none)
 | .dat _,_ => .junk
 | .own r _ u,l => .sl r 0 l.length none
 | .nil,_ => .d (.val (.slice none 0 0))
 | .np,_ => .d (.val (.pointer none))
 | .pt r off,_ => .ptr r off
 | .cl f caps,_ => .clo f (FU caps)
def oC:(c:CS)->(uC c).T->List (Nat×AO)
 | .own r e u,l=>[(r,.data e (fJ u) (aI u l) true)]
 | _,_=>[]
def o7:(cs:List CS)->(jm cs).T->List AV
 | [],_=>[]
 | c::cs,x=>aC c (jD (uC c) (jm cs) x)::o7 cs (kM (uC c) (jm cs) x)
def Qy:(cs:List CS)->(jm cs).T->List (Nat×AO)
 | [],_=>[]
 | c::cs,x=>oC c (jD (uC c) (jm cs) x)++Qy cs (kM (uC c) (jm cs) x)
def og:List AV->AV
 | [v]=>v
 | _ => .junk
def aT:(i:IT)->(uI i).T->List (Nat×AV)
 | .tmp t true cs,x=>[(t,.agg (o7 cs x))]
 | .tmp t false cs,x=>[(t,og (o7 cs x))]
 | .drop t,_=>[(t,.junk)]
 | _,_=>[]
def aH:(i:IT)->(uI i).T->List (Nat×AO)
 | .tmp _ _ cs,x=>Qy cs x
 | .mix r cs,x=>(r,.mix (o7 cs x))::Qy cs x
 | .row r e u,l=>[(r,.data e (fJ u) (aI u l) true)]
 | .arr r u,l=>[(r,.mix ((aI u l).map .d))]
 | .mp r,l=>[(r,.mp l)]
 | .dead r,_=>[(r,.dead)]
 | _,_=>[]
def lS:(l:List IT)->(cu l).T->List (Nat×AV)
 | [],_=>[]
 | i::l,x=>aT i (jD (uI i) (cu l) x)++lS l (kM (uI i) (cu l) x)
def oz:(l:List IT)->(cu l).T->List (Nat×AO)
 | [],_=>[]
 | i::l,x=>aH i (jD (uI i) (cu l) x)++oz l (kM (uI i) (cu l) x)
section
variable {σ:Type} (s:σ)
theorem apZ (k:IntKind) (f:σ->Int):(SV.int k f).c s=dU k (f s):=by rw [SV.c]
theorem ant (f:σ->Bool):(SV.bool f).c s=dX (f s):=by rw [SV.c]
theorem cStr (f:σ->List UInt8):(SV.str f).c s = .d (.val (.string ⟨(f s).toArray⟩)):=by rw [SV.c]
theorem ap0 (t:U) (f:σ->List t.T):(SV.lst t f).c s = .d (.dl (aI t (f s)) (f s).length none):=by rw [SV.c]
theorem Ud:(SV.junk:SV σ).c s = .junk:=by rw [SV.c]
theorem agc (r z:Nat) (n:σ->Nat):(SV.sl r z none n .unk).c s = .sl r 0 (n s) none:=by rw [SV.c];simp only [wu,Nat.zero_mul,rU]
theorem cVal (v:Value):(SV.val v:SV σ).c s = .d (.val v):=by rw [SV.c]
theorem anu (r off:Nat):(SV.ptr r off:SV σ).c s = .ptr r off:=by rw [SV.c]
theorem aj6 (caps:List (Nat×Nat)):cL s (CJ (fun r=>r) caps:List (SV σ))=FU caps:=by
 induction caps with
 | nil=>rfl
 | cons x l ih=>obtain ⟨r,off⟩:=x;rw [CJ,cL,ih,SV.c,FU]
theorem ap1 (t:Nat) (l:List (SV σ)):cT s [(t,SV.agg l)]=[(t,.agg (cL s l))]:=by rw [cT,cT,SV.c]
theorem nP:∀(c:CS) (f:σ->(uC c).T),(adn c f).c s=aC c (f s)
 | .dat (.int k),f=>apZ s k f
 | .dat .bool,f=>ant s f
 | .dat .str,f=>cStr s f
 | .dat (.list t),f=>ap0 s t f
 | .dat (.pair a b),f=>Ud s
 | .dat .unit,f=>Ud s
 | .own r e u,f=>agc s r (fJ u) _
 | .nil,f=>cVal s _
 | .np,f=>cVal s _
 | .pt r off,f=>anu s _ _
 | .cl f caps,_=>by show (SV.clo f (CJ (fun r=>r) caps)).c s=_;rw [SV.c,aj6];rfl
theorem aj7:∀(c:CS) (f:σ->(uC c).T),cO s (anr c f)=oC c (f s)
 | .own r e u,f=>rfl
 | .dat _,f=>rfl
 | .nil,f=>rfl
 | .np,f=>rfl
 | .pt _ _,f=>rfl
 | .cl _ _,f=>rfl
theorem I7:∀(cs:List CS) (f:σ->(jm cs).T),cL s (H8 cs f)=o7 cs (f s)
 | [],_=>rfl
 | c::cs,f=>by rw [H8,cL,nP,I7 cs];rfl
theorem Qz:∀(cs:List CS) (f:σ->(jm cs).T),cO s (OO cs f)=Qy cs (f s)
 | [],_=>rfl
 | c::cs,f=>by rw [OO,dL,aj7,Qz cs];rfl
theorem adp (l:List (SV σ)):(one1 l).c s=og (cL s l):=by
 cases l with
 | nil=>exact Ud s
 | cons v l=>cases l with
   | nil=>rfl
   | cons w l=>exact Ud s
theorem agd:∀(i:IT) (f:σ->(uI i).T),cT s (aiN i f)=aT i (f s)
 | .tmp t true cs,f=>(ap1 s t (H8 cs f)).trans (congrArg (fun l=>[(t,AV.agg l)]) (I7 s cs f))
 | .tmp t false cs,f=>(congrArg (fun v=>[(t,v)]) (adp s (H8 cs f))).trans (congrArg (fun l=>[(t,og l)]) (I7 s cs f))
 | .drop t,f=>congrArg (fun v=>[(t,v)]) (Ud s)
 | .mix _ _,f=>rfl
 | .row _ _ _,f=>rfl
 | .arr _ _,f=>rfl
 | .mp _,f=>rfl
 | .dead _,f=>rfl
theorem agf:∀(i:IT) (f:σ->(uI i).T),cO s (aiO i f)=aH i (f s)
 | .tmp t a cs,f=>Qz s cs f
 | .mix r cs,f=>(congrArg (fun l=>(r,AO.mix l)::cO s (OO cs f)) (I7 s cs f)).trans (congrArg (fun l=>(r,AO.mix (o7 cs (f s)))::l) (Qz s cs f))
 | .row _ _ _,f=>rfl
 | .arr _ _,f=>rfl
 | .mp _,f=>rfl
 | .dead _,f=>rfl
 | .drop _,f=>rfl
theorem uS:∀(l:List IT) (f:σ->(cu l).T),cT s (oI l f)=lS l (f s)
 | [],_=>rfl
 | i::l,f=>by rw [oI,xg,agd,uS l];rfl
theorem zO:∀(l:List IT) (f:σ->(cu l).T),cO s (jc l f)=oz l (f s)
 | [],_=>rfl
 | i::l,f=>by rw [jc,dL,agf,zO l];rfl
end
section
variable {θ:Nat->Option Nat} {hp1 hp2:Nat->Option AO}
mutual
theorem CO:∀(x:AV),(∀r∈x.refs,θ r=some r/\(hp2 r).isSome=true)->gy θ hp1 hp2 x x
 | .d x,_=>by rw [gy];exact ⟨x,.inl rfl,.inl rfl⟩
 | .ptr r off,h=>by rw [gy];have:=h r (by simp [AV.refs]);exact ⟨r,this.1,this.2,rfl⟩
 | .sl r off n c,h=>by rw [gy];have:=h r (by simp [AV.refs]);exact ⟨this.2,.inl ⟨r,this.1,rfl⟩⟩
 | .dptr cells off,_=>by rw [gy]
 | .agg cs,h=>by rw [gy];exact ⟨cs,rfl,CP cs fun r hr=>h r (by rw [AV.refs];exact hr)⟩
 | .tup cs,h=>by rw [gy];exact ⟨cs,rfl,CP cs fun r hr=>h r (by rw [AV.refs];exact hr)⟩
 | .clo f cs,h=>by rw [gy];exact ⟨cs,rfl,CP cs fun r hr=>h r (by rw [AV.refs];exact hr)⟩
 | .undef,_=>by rw [gy]
 | .ab,_=>by rw [gy]
 | .junk,_=>by rw [gy];trivial
theorem CP:∀(xs:List AV),(∀r∈AV.refs.refsL xs,θ r=some r/\(hp2 r).isSome=true)->jo θ hp1 hp2 xs xs
 | [],_=>by rw [jo]
 | x::xs,h=>by
   rw [AV.refs.refsL] at h;rw [jo];exact ⟨x,xs,rfl,CO x fun r hr=>h r (List.mem_append_left _ hr),CP xs fun r hr=>h r (List.mem_append_right _ hr)⟩
end
theorem OQ {x:DV} {y:AV} (h:y = .d x):gy θ hp1 hp2 (.d x) y:=by subst h;rw [gy];exact ⟨x,.inl rfl,.inl rfl⟩
theorem zQ {r:Nat} {o:AO} (h1:θ r=some r) (h2:hp1 r=some o) (h:∀r∈DW o,θ r=some r/\(hp2 r).isSome=true):vw θ hp1 hp2 r o:=by
 unfold vw;rw [h1];cases o with
 | data e s cs wr=>exact ⟨wr,cs,h2,.inl rfl,fun h=>h,fun h => .inl h⟩
 | mix cs=>exact ⟨cs,h2,CP cs h⟩
 | mp ks=>exact h2
 | dead=>trivial
theorem xw:∀l:List DV,AV.refs.refsL (l.map .d)=[]
 | []=>rfl
 | x::l=>by rw [List.map_cons,AV.refs.refsL,xw l,FK];rfl
end
section
variable {σ:Type} {s:σ} {θ:Nat->Option Nat} {hp2:Nat->Option AO} {rd:Nat->Option (SO σ)}
theorem aj8 {t:U} {v:SV σ} {p:PK σ (List t.T)} (hp:pkL rd t v=some p) (hc:allT s p.cs) (hfz:∀x∈p.fz,rG θ hp2 x.1):gy θ (iI s rd) hp2 (.d (.dl (aI t (p.f s)) (p.f s).length none)) (v.c s):=by
 unfold pkL at hp;split at hp
 ·split at hp
  ·rename_i hk _;subst hk;cases hp;exact OQ (by rw [SV.c];rfl)
  ·cases hp
 ·cases hp;rw [SV.c,gy];exact ⟨.dl [] 0 none,.inr (.inl ⟨rfl,.inl rfl⟩),.inl rfl⟩
 ·rename_i r z o n cap;split at hp
  ·rename_i e u f wr hr;split at hp
   ·rename_i hk _ hz;subst hk;cases hp;have hz:=of_decide_eq_true hz;have h1:=yw hc.1;rw [SV.c,gy];refine ⟨.dl (aI u (rowP o n f s)) (rowP o n f s).length none,?_,.inl rfl⟩;unfold afF;simp only [iI,hr,Option.map_some,SO.c];refine ⟨hfz _ List.mem_cons_self,none,?_,.inr rfl⟩;rw [vO,hz,jl,gq,List.length_take,List.length_drop,Nat.min_eq_left (by omega)]
   ·cases hp
  ·cases hp
 ·cases hp
theorem zS {a b:Option Nat} (h:eqN a b=true):a=b:=by
 unfold eqN at h;split at h
 ·rw [of_decide_eq_true h]
 ·rfl
 ·cases h
theorem QA:∀(caps:List (Nat×Nat)) (vs:List (SV σ)),Kr θ caps vs=true->(∀r∈caps.map (·.1),(hp2 r).isSome=true)->jo θ (iI s rd) hp2 (FU caps) (cL s vs)
 | [],[],_,_=>by rw [cL,FU,jo]
 | (r,off)::l,.ptr r1 off1::vs,h,hr=>by
   rw [Kr,Bool.and_eq_true,Bool.and_eq_true] at h;obtain ⟨⟨h1,h2⟩,h3⟩:=h;obtain rfl:=of_decide_eq_true h2;rw [cL,FU,jo,SV.c];exact ⟨_,_,rfl,by rw [gy];exact ⟨r1,zS h1,hr r (by simp),rfl⟩,QA l vs h3 fun x hx=>hr x (by simp at hx ⊢;exact .inr hx)⟩
 | [],_::_,h,_=>by cases h
 | (r,off)::l,[],h,_=>by cases h
 | (r,off)::l,.val _::vs,h,_=>by cases h
 | (r,off)::l,.int _ _::vs,h,_=>by cases h
 | (r,off)::l,.bool _::vs,h,_=>by cases h
 | (r,off)::l,.str _::vs,h,_=>by cases h
 | (r,off)::l,.lst _ _::vs,h,_=>by cases h
 | (r,off)::l,.ptx _ _ _ _::vs,h,_=>by cases h
 | (r,off)::l,.sl _ _ _ _ _::vs,h,_=>by cases h
 | (r,off)::l,.dpt _ _ _ _::vs,h,_=>by cases h
 | (r,off)::l,.agg _::vs,h,_=>by cases h
 | (r,off)::l,.tup _::vs,h,_=>by cases h
 | (r,off)::l,.clo _ _::vs,h,_=>by cases h
 | (r,off)::l,.undef::vs,h,_=>by cases h
 | (r,off)::l,.junk::vs,h,_=>by cases h
theorem Yf:∀ {caps:List (Nat×Nat)} {vs:List (SV σ)},Kr some caps vs=true->(∀r∈caps.map (·.1),θ r=some r)->Kr θ caps vs=true
 | [],[],_,_=>rfl
 | (r,off)::l,.ptr r1 off1::vs,h,hr=>by
   rw [Kr,Bool.and_eq_true,Bool.and_eq_true] at h ⊢;obtain ⟨⟨h1,h2⟩,h3⟩:=h;refine ⟨⟨?_,h2⟩,Yf h3 fun x hx=>hr x (by simp at hx ⊢;exact .inr hx)⟩;rw [hr r (by simp)];exact h1
 | [],_::_,h,_=>by cases h
 | (r,off)::l,[],h,_=>by cases h
 | (r,off)::l,.val _::vs,h,_=>by cases h
 | (r,off)::l,.int _ _::vs,h,_=>by cases h
 | (r,off)::l,.bool _::vs,h,_=>by cases h
 | (r,off)::l,.str _::vs,h,_=>by cases h
 | (r,off)::l,.lst _ _::vs,h,_=>by cases h
 | (r,off)::l,.ptx _ _ _ _::vs,h,_=>by cases h
 | (r,off)::l,.sl _ _ _ _ _::vs,h,_=>by cases h
 | (r,off)::l,.dpt _ _ _ _::vs,h,_=>by cases h
 | (r,off)::l,.agg _::vs,h,_=>by cases h
 | (r,off)::l,.tup _::vs,h,_=>by cases h
 | (r,off)::l,.clo _ _::vs,h,_=>by cases h
 | (r,off)::l,.undef::vs,h,_=>by cases h
 | (r,off)::l,.junk::vs,h,_=>by cases h
theorem QB:∀(c:CS) (v:SV σ) (p:PK σ (uC c).T),Qw rd c v=some p->allT s p.cs->(∀x∈p.fz,rG θ hp2 x.1)->(∀x∈thC c v,θ x.1=x.2)->(∀x∈oC c (p.f s),(hp2 x.1).isSome=true)->(∀r∈fM [c],θ r=some r/\(hp2 r).isSome=true) ->
 gy θ (iI s rd) hp2 (aC c (p.f s)) (v.c s)/\∀x∈oC c (p.f s),vw θ (iI s rd) hp2 x.1 x.2
 | .dat u,v,p,hp,hc,hfz,hth,hl,hpt=>by
   refine ⟨?_,fun x hx=>(by simp [oC] at hx)⟩;simp only [Qw] at hp;split at hp
   ·rename_i hs;cases u with
    | int k =>
      simp only [II] at hp;split at hp
      ·rename_i k' f hf;split at hp
       ·rename_i hk _;obtain ⟨hk⟩:=hk;subst hk;cases hp;exact OQ (nZ hf s)
       ·cases hp
      ·cases hp
    | bool =>
      simp only [II] at hp;split at hp
      ·rename_i f hf;cases hp;exact OQ (zK hf s)
      ·cases hp
    | str =>
      simp only [II] at hp;split at hp
      ·rename_i f hf;cases hp;exact OQ (sU hf s)
      ·cases hp
    | list t =>
      simp only [II] at hp;exact aj8 hp hc hfz
    | pair a b=>cases hs
    | unit=>cases hs
   ·cases hp
 | .own r e u,v,p,hp,hc,hfz,hth,hl,hpt=>by
   simp only [Qw] at hp;split at hp
   ·cases hp;have h1:=hth (r,none) (by simp [thC]);have h2:=hl (r,_) (List.mem_singleton.2 rfl);refine ⟨?_,fun x hx => ?_⟩
    ·rw [SV.c];simp only [aC,List.length_nil];rw [gy];exact ⟨h2,.inr (.inl ⟨h1,rfl,rfl,rfl,rfl⟩)⟩
    ·simp only [oC,List.mem_singleton] at hx;subst hx;unfold vw;simp only [h1];rfl
   ·rename_i r1 z n;split at hp
    ·rename_i e' u' f hr;split at hp
     ·rename_i hk _ hd;subst hk;obtain ⟨rfl,hz⟩:=of_decide_eq_true hd;cases hp;have hn:n s<=(f s).length:=of_decide_eq_true hc.1;have hn':((f s).take (n s)).length=n s:=by rw [List.length_take];omega
      have h1:=hth (r,some r1) (by simp [thC]);have h2:=hl (r,_) (List.mem_singleton.2 rfl);refine ⟨?_,fun x hx => ?_⟩
      ·rw [SV.c];simp only [aC,gY,wu,Nat.zero_mul,rU,hn'];rw [gy];exact ⟨h2,.inl ⟨r1,h1,rfl⟩⟩
      ·simp only [oC,List.mem_singleton] at hx;subst hx;unfold vw;simp only [h1];exact ⟨true,_,by simp only [iI,hr,Option.map_some,SO.c],.inr (.inr ⟨n s*fJ u',(gq u' (n s) (f s)).symm⟩),fun _=>rfl,fun h=>(by cases h)⟩
     ·cases hp
    ·cases hp
   ·cases hp
 | .nil,v,p,hp,hc,hfz,hth,hl,hpt=>by
   refine ⟨?_,fun x hx=>(by simp [oC] at hx)⟩;simp only [Qw] at hp;split at hp
   ·cases hp;exact OQ (by rw [SV.c])
   ·cases hp
 | .np,v,p,hp,hc,hfz,hth,hl,hpt=>by
   refine ⟨?_,fun x hx=>(by simp [oC] at hx)⟩;simp only [Qw] at hp;split at hp
   ·cases hp;exact OQ (by rw [SV.c])
   ·cases hp
 | .pt r off,v,p,hp,hc,hfz,hth,hl,hpt=>by
   refine ⟨?_,fun x hx=>(by simp [oC] at hx)⟩;simp only [Qw] at hp;split at hp
   ·split at hp
    ·rename_i hd;obtain ⟨rfl,rfl⟩:=of_decide_eq_true hd;cases hp;have:=hpt r (by simp [fM]);rw [SV.c];exact CO (.ptr r off) fun r' hr'=>by simp [AV.refs] at hr';subst hr';exact this
    ·cases hp
   ·cases hp
 | .cl f caps,v,p,hp,hc,hfz,hth,hl,hpt=>by
   refine ⟨?_,fun x hx=>(by simp [oC] at hx)⟩;simp only [Qw] at hp;split at hp
   ·rename_i f' vs;split at hp
    ·rename_i hd;rw [Bool.and_eq_true] at hd;obtain ⟨hd,hb⟩:=hd;obtain rfl:=of_decide_eq_true hd;cases hp;have hm:∀r∈caps.map (·.1),r∈fM [.cl f caps]:=fun r hr=>by show r∈caps.map (·.1)++[];rw [List.append_nil];exact hr
     have hb':Kr θ caps vs=true:=Yf hb fun r hr=>(hpt r (hm r hr)).1;rw [SV.c];show gy θ _ hp2 (.clo f (FU caps)) _;rw [gy];exact ⟨_,rfl,QA caps vs hb' fun r hr=>(hpt r (hm r hr)).2⟩
    ·cases hp
   ·cases hp
theorem Ej:∀(cs:List CS) (vs:List (SV σ)) (p:PK σ (jm cs).T),IK rd cs vs=some p->allT s p.cs->(∀x∈p.fz,rG θ hp2 x.1)->(∀x∈Wy cs vs,θ x.1=x.2)->(∀x∈Qy cs (p.f s),(hp2 x.1).isSome=true)->(∀r∈fM cs,θ r=some r/\(hp2 r).isSome=true) ->
 jo θ (iI s rd) hp2 (o7 cs (p.f s)) (cL s vs)/\∀x∈Qy cs (p.f s),vw θ (iI s rd) hp2 x.1 x.2
 | [],[],p,hp,hc,hfz,hth,hl,hpt=>by
   refine ⟨?_,fun x hx=>(by cases hx)⟩;rw [cL,show o7 [] (p.f s)=[] from rfl,jo]
 | c::cs,v::vs,p,hp,hc,hfz,hth,hl,hpt=>by
   rw [IK] at hp;split at hp
   ·rename_i x y hx hy;cases hp;rw [bW] at hc;have e1:jD (uC c) (jm cs) (wM (uC c) (jm cs) (x.f s) (y.f s))=x.f s:=jT _ _ _ _;have e2:kM (uC c) (jm cs) (wM (uC c) (jm cs) (x.f s) (y.f s))=y.f s:=kT _ _ _ _;simp only [Qy,e1,e2] at hl;have hpt1:∀r∈fM [c],θ r=some r/\(hp2 r).isSome=true:=fun r hr=>hpt r (by cases c<;>simp [fM] at hr ⊢ <;> simp [hr]);have hpt2:∀r∈fM cs,θ r=some r/\(hp2 r).isSome=true:=fun r hr=>hpt r (by cases c<;>simp [fM,hr]);obtain ⟨a1,a2⟩:=QB c v x hx hc.1 (fun z hz=>hfz z (List.mem_append_left _ hz)) (fun z hz=>hth z (List.mem_append_left _ hz)) (fun z hz=>hl z (List.mem_append_left _ hz)) hpt1;obtain ⟨b1,b2⟩:=Ej cs vs y hy hc.2 (fun z hz=>hfz z (List.mem_append_right _ hz)) (fun z hz=>hth z (List.mem_append_right _ hz)) (fun z hz=>hl z (List.mem_append_right _ hz)) hpt2;refine ⟨?_,fun z hz => ?_⟩
    ·rw [cL];simp only [o7,e1,e2];rw [jo];exact ⟨_,_,rfl,a1,b1⟩
    ·simp only [Qy,e1,e2] at hz;rcases List.mem_append.1 hz with h | h
     ·exact a2 z h
     ·exact b2 z h
   ·cases hp
 | [],_::_,p,hp,_,_,_,_,_=>by cases hp
 | _::_,[],p,hp,_,_,_,_,_=>by cases hp
end
theorem gQ {r:Nat} {l:List Nat}:kL r l=true↔r∈l:=by rw [Ed,List.contains_iff_mem]
theorem mX {r:Nat} {l:List Nat}:kL r l=false↔r∉l:=by rw [<-gQ];cases kL r l<;>simp
section
variable {σ:Type} {s:σ} {θ:Nat->Option Nat} {hp2:Nat->Option AO}
theorem FV {i:IT} {l:List IT}:∀r∈dR [i],r∈dR (i::l):=fun r hr=>by
 cases i<;>simp [dR] at hr ⊢ <;> simp [hr]
theorem FW {i:IT} {l:List IT}:∀r∈dR l,r∈dR (i::l):=fun r hr=>by
 cases i<;>simp [dR]<;>simp [hr]
theorem aj9 {d:SS σ} {N:Nat}:∀(i:IT) (p:PK σ (uI i).T),pkI d i=some p->allT s p.cs->(∀x∈p.fz,rG θ hp2 x.1)->(∀x∈thI d i,θ x.1=x.2)->(∀x∈aH i (p.f s),(hp2 x.1).isSome=true)->(∀r∈dR [i],θ r=some r/\(hp2 r).isSome=true)->(∀r∈kV [i],θ r=some r) ->
 (∀x∈aT i (p.f s),gy θ (d.c s N).rd hp2 x.2 ((d.c s N).get x.1))/\∀x∈aH i (p.f s),vw θ (d.c s N).rd hp2 x.1 x.2
 | .tmp t agg cs,p,hp,hc,hfz,hth,hl,hpt,hcv=>by
   rw [<-mM s N];have hget:∀v,jF t d.tm=some v->(d.c s N).get t=v.c s:=fun v hv=>by
    rw [jO] at hv;unfold SL.get SS.c;simp only [pU,hv,Option.map_some]
   have hpt':∀r∈fM cs,θ r=some r/\(hp2 r).isSome=true:=fun r hr=>hpt r (by simp [dR,hr]);simp only [pkI] at hp;simp only [thI] at hth;cases hv:jF t d.tm with
   | none=>simp only [hv] at hp;cases hp
   | some v =>
     simp only [hv] at hp hth;cases agg with
     | false =>
       simp only at hp hth;obtain ⟨a,b⟩:=Ej cs [v] p hp hc hfz hth hl hpt';refine ⟨fun x hx => ?_,b⟩;have hx:x∈[(t,og (o7 cs (p.f s)))]:=hx;rw [List.mem_singleton] at hx;subst hx;show gy θ _ hp2 (og (o7 cs (p.f s))) ((d.c s N).get t);rw [hget v hv];rw [cL,cL] at a;generalize o7 cs (p.f s)=ys at a ⊢;cases ys with
       | nil=>rw [jo] at a;cases a
       | cons y ys =>
         rw [jo] at a;obtain ⟨x,xs,h1,h2,h3⟩:=a;cases h1;cases ys with
         | nil=>exact h2
         | cons z zs=>rw [jo] at h3;obtain ⟨_,_,h4,_⟩:=h3;cases h4
     | true =>
       simp only at hp hth;cases v with
       | agg vs =>
         simp only at hp hth;obtain ⟨a,b⟩:=Ej cs vs p hp hc hfz hth hl hpt';refine ⟨fun x hx => ?_,b⟩;have hx:x∈[(t,AV.agg (o7 cs (p.f s)))]:=hx;rw [List.mem_singleton] at hx;subst hx;show gy θ _ hp2 (.agg (o7 cs (p.f s))) ((d.c s N).get t);rw [hget _ hv,SV.c,gy];exact ⟨_,rfl,a⟩
       | _=>cases hp
 | .mix r cs,p,hp,hc,hfz,hth,hl,hpt,hcv=>by
   rw [<-mM s N];refine ⟨fun x hx=>(by cases hx),?_⟩;simp only [pkI] at hp;simp only [thI] at hth;cases hvs:kS d r with
   | none=>simp only [hvs] at hp;cases hp
   | some o =>
     cases o with
     | mix vs =>
       simp only [hvs] at hp hth;have hpt':∀r∈fM cs,θ r=some r/\(hp2 r).isSome=true:=fun r hr=>hpt r (by simp [dR,hr]);obtain ⟨a,b⟩:=Ej cs vs p hp hc hfz hth (fun x hx=>hl x (List.mem_cons_of_mem _ hx)) hpt';intro x hx;rcases List.mem_cons.1 hx with rfl | hx
       ·unfold vw;have hr:θ r=some r:=hcv r (by simp [kV]);simp only [hr];exact ⟨_,by simp only [iI,hvs,Option.map_some,SO.c],a⟩
       ·exact b x hx
     | data e u f wr=>simp only [hvs] at hp;cases hp
     | arr u f=>simp only [hvs] at hp;cases hp
     | mp f=>simp only [hvs] at hp;cases hp
     | dead=>simp only [hvs] at hp;cases hp
 | .row r e u,p,hp,hc,hfz,hth,hl,hpt,hcv=>by
   rw [<-mM s N];refine ⟨fun x hx=>(by cases hx),?_⟩;simp only [pkI] at hp;split at hp
   ·rename_i e' u' f hr;split at hp
    ·rename_i hk _ hd;subst hk;have hd:=of_decide_eq_true hd;subst hd;cases hp;intro x hx;have hx:x∈[(r,AO.data e' (fJ u') (aI u' (f s)) true)]:=hx;rw [List.mem_singleton] at hx;subst hx;exact zQ (hcv r (by simp [kV])) (by simp only [iI,hr,Option.map_some,SO.c]) (fun r hr=>(by cases hr))
    ·cases hp
   ·cases hp
 | .arr r u,p,hp,hc,hfz,hth,hl,hpt,hcv=>by
   rw [<-mM s N];refine ⟨fun x hx=>(by cases hx),?_⟩;simp only [pkI] at hp;split at hp
   ·rename_i u' f hr;split at hp
    ·rename_i hk _;subst hk;cases hp;intro x hx;have hx:x∈[(r,AO.mix ((aI u' (f s)).map .d))]:=hx;rw [List.mem_singleton] at hx;subst hx;exact zQ (hcv r (by simp [kV])) (by simp only [iI,hr,Option.map_some,SO.c]) (fun r hr=>(by simp [DW,xw] at hr))
    ·cases hp
   ·cases hp
 | .mp r,p,hp,hc,hfz,hth,hl,hpt,hcv=>by
   rw [<-mM s N];refine ⟨fun x hx=>(by cases hx),?_⟩;simp only [pkI] at hp;split at hp
   ·rename_i f hr;cases hp;intro x hx;have hx:x∈[(r,AO.mp (f s))]:=hx;rw [List.mem_singleton] at hx;subst hx;exact zQ (hcv r (by simp [kV])) (by simp only [iI,hr,Option.map_some,SO.c]) (fun r hr=>(by cases hr))
   ·cases hp
 | .drop t,p,hp,hc,hfz,hth,hl,hpt,hcv=>by
   refine ⟨fun x hx => ?_,fun x hx=>(by cases hx)⟩;have hx:x∈[(t,AV.junk)]:=hx;rw [List.mem_singleton] at hx;subst hx;rw [gy];trivial
 | .dead r,p,hp,hc,hfz,hth,hl,hpt,hcv=>by
   refine ⟨fun x hx=>(by cases hx),fun x hx => ?_⟩;have hx:x∈[(r,AO.dead)]:=hx;rw [List.mem_singleton] at hx;subst hx;unfold vw;simp only [hcv r (by simp [kV])]
theorem agh {i:IT} {l:List IT}:∀r∈kV [i],r∈kV (i::l):=fun r hr=>by
 cases i<;>simp [kV] at hr ⊢ <;> simp [hr]
theorem agi {i:IT} {l:List IT}:∀r∈kV l,r∈kV (i::l):=fun r hr=>by
 cases i<;>simp [kV]<;>simp [hr]
theorem Yg {d:SS σ} {N:Nat}:∀(l:List IT) (p:PK σ (cu l).T),agb d l=some p->allT s p.cs->(∀x∈p.fz,rG θ hp2 x.1)->(∀x∈wz d l,θ x.1=x.2)->(∀x∈oz l (p.f s),(hp2 x.1).isSome=true)->(∀r∈dR l,θ r=some r/\(hp2 r).isSome=true)->(∀r∈kV l,θ r=some r) ->
 (∀x∈lS l (p.f s),gy θ (d.c s N).rd hp2 x.2 ((d.c s N).get x.1))/\∀x∈oz l (p.f s),vw θ (d.c s N).rd hp2 x.1 x.2
 | [],p,hp,hc,hfz,hth,hl,hpt,hcv=>⟨fun x hx=>(by cases hx),fun x hx=>(by cases hx)⟩
 | i::l,p,hp,hc,hfz,hth,hl,hpt,hcv=>by
   rw [agb] at hp;split at hp
   ·rename_i x y hx hy;cases hp;rw [bW] at hc;have e1:jD (uI i) (cu l) (wM (uI i) (cu l) (x.f s) (y.f s))=x.f s:=jT _ _ _ _;have e2:kM (uI i) (cu l) (wM (uI i) (cu l) (x.f s) (y.f s))=y.f s:=kT _ _ _ _;simp only [oz,e1,e2] at hl;obtain ⟨a1,a2⟩:=aj9 (N:=N) i x hx hc.1 (fun z hz=>hfz z (List.mem_append_left _ hz)) (fun z hz=>hth z (List.mem_append_left _ hz)) (fun z hz=>hl z (List.mem_append_left _ hz)) (fun r hr=>hpt r (FV r hr)) (fun r hr=>hcv r (agh r hr));obtain ⟨b1,b2⟩:=Yg (N:=N) l y hy hc.2 (fun z hz=>hfz z (List.mem_append_right _ hz)) (fun z hz=>hth z (List.mem_append_right _ hz)) (fun z hz=>hl z (List.mem_append_right _ hz)) (fun r hr=>hpt r (FW r hr)) (fun r hr=>hcv r (agi r hr));simp only [lS,oz,e1,e2];refine ⟨fun z hz => ?_,fun z hz => ?_⟩
    ·rcases List.mem_append.1 hz with h | h
     ·exact a1 z h
     ·exact b1 z h
    ·rcases List.mem_append.1 hz with h | h
     ·exact a2 z h
     ·exact b2 z h
   ·cases hp
end
def Si (th:List (Nat×Option Nat)) (r:Nat):Option Nat:=match look r th with | some x=>x | none=>some r
theorem Em:∀th:List (Nat×Option Nat),jw th=th.map (·.1)
 | []=>rfl
 | (r,x)::l=>by rw [jw,Em l];rfl
theorem agj {th:List (Nat×Option Nat)} (hn:nodupB (jw th)=true):∀x∈th,Si th x.1=x.2:=by
 induction th with
 | nil=>intro x hx;cases hx
 | cons y l ih =>
   intro x hx;obtain ⟨k,v⟩:=y;rw [jw,nodupB,Bool.and_eq_true] at hn;have hk:k∉jw l:=by have:=hn.1;simp only [Bool.not_eq_true'] at this;exact mX.1 this
   rcases List.mem_cons.1 hx with rfl | hx
   ·unfold Si;rw [look,if_pos rfl]
   ·have hne:k≠x.1:=fun e=>hk (by rw [Em,e];exact List.mem_map.2 ⟨x,hx,rfl⟩);have:=ih hn.2 x hx;unfold Si at this ⊢;rw [look,if_neg hne];exact this
theorem lC {th:List (Nat×Option Nat)} {r:Nat} (h:r∉jw th):Si th r=some r:=by
 unfold Si;cases hl:look r th with
 | none=>rfl
 | some x=>exact (h (by rw [Em];exact List.mem_map.2 ⟨_,bG hl,rfl⟩)).elim
theorem zT {th:List (Nat×Option Nat)} {r:Nat} (h:r∈jw th):∃x,(r,x)∈th/\Si th r=x:=by
 unfold Si;cases hl:look r th with
 | none =>
   exfalso;rw [Em] at h;obtain ⟨y,hy,rfl⟩:=List.mem_map.1 h;have:∀l:List (Nat×Option Nat),y∈l->look y.1 l≠none:=by
    intro l
    induction l with
    | nil=>intro h;cases h
    | cons z l ih =>
      intro h;rw [look];split
      ·simp
      ·rcases List.mem_cons.1 h with rfl | h
       ·rename_i hne;exact (hne rfl).elim
       ·exact ih h
   exact this th hy hl
 | some x=>exact ⟨x,bG hl,rfl⟩
theorem WB {GL:Nat->Option (List DV)} {N:Nat} {hp0:Nat->Option AO} {s s':SL} (θ:Nat->Option Nat) (hk:∀r o,hp0 r=some o->θ r=some r/\(s'.rd r).isSome=true) (hw:NH θ s.rd s'.rd) (ht:∀t v,look t s'.tm=some v->gy θ s.rd s'.rd v (s.get t)):uH GL N hp0 s.S s'.S:=fun E0 w0 E a w he hS hA=>by
 have hp:E.hp=s.rd:=hS.hp;have hw':NH θ E.hp s'.rd:=by rw [hp];exact hw
 refine ⟨kY E θ s'.rd,⟨hS.h,rfl,qB hS.sim hw',hS.n,hS.df,fun t => ?_⟩,⟨wW hA hw' (fun r o ho=>by rw [he] at ho;exact hk r o ho),qC hw' hA.fr⟩⟩;show Rel _ (s'.get t) _;unfold SL.get;cases hl:look t s'.tm with
 | none=>simp only;rw [Rel];trivial
 | some y =>
   have:=ht _ _ hl;rw [<-hp] at this;exact uG hS.sim hw' _ _ _ this (hS.tm t)
section
variable {σ τ σ':Type}
theorem FY {s:σ} {d:SS σ} {N r:Nat} (h:Uc (kS d r)=true) {o:AO} (ho:(d.c s N).rd r=some o):o.mutB=false:=by
 rw [<-mM] at ho;unfold iI at ho;unfold Uc at h;split at h
 ·rename_i e;rw [e] at ho;cases ho
 ·rename_i e;rw [e] at ho;cases ho;rfl
 ·rename_i e;rw [e] at ho;cases ho;rfl
 ·cases h
theorem FZ {s:σ} {d:SS σ} {N r:Nat} (h:iJ (kS d) r=false):((d.c s N).rd r).isSome=true:=by
 rw [<-mM];unfold iJ at h;unfold iI;split at h
 ·cases h
 ·rename_i e;rw [e];rfl
theorem CQ {s:σ} {d:SS σ} {N r:Nat} (h:iJ (kS d) r=true):(d.c s N).rd r=none:=by
 rw [<-mM];unfold iJ at h;unfold iI;split at h
 ·rename_i e;rw [e];rfl
 ·cases h
theorem AL {keys:List Nat} {dh:SS σ'}:∀ {l:List (Nat×SV σ)} {skip:List Nat},aaG keys dh skip l=true->∀t v,t∉skip->look t l=some v->WA keys dh v.refs=true
 | [],skip,_,t,v,_,h=>by cases h
 | (k,x)::l,skip,hok,t,v,ht,h=>by
   rw [aaG] at hok;rw [look] at h;by_cases hk:k=t
   ·subst hk;rw [if_pos rfl] at h;cases h;rw [mX.2 ht] at hok;simp only [Bool.and_eq_true] at hok;exact hok.1
   ·rw [if_neg hk] at h;cases hm:kL k skip with
    | true=>rw [hm] at hok;exact AL hok t v ht h
    | false =>
      rw [hm] at hok;simp only [Bool.and_eq_true] at hok;exact AL hok.2 t v (fun hin=>by rcases List.mem_cons.1 hin with e | e;exact hk e.symm;exact ht e) h
theorem AP {keys:List Nat} {dh:SS σ'}:∀ {l:List (Nat×SO σ)} {skip:List Nat},aaH keys dh skip l=true->∀r o,r∉skip->look r l=some o->r∉keys/\WA keys dh (Kt o)=true
 | [],skip,_,t,v,_,h=>by cases h
 | (k,x)::l,skip,hok,t,v,ht,h=>by
   rw [aaH] at hok;rw [look] at h;by_cases hk:k=t
   ·subst hk;rw [if_pos rfl] at h;cases h;rw [mX.2 ht] at hok;simp only [Bool.and_eq_true,Bool.not_eq_true'] at hok;exact ⟨mX.1 hok.1.1,hok.1.2⟩
   ·rw [if_neg hk] at h;cases hm:kL k skip with
    | true=>rw [hm] at hok;exact AP hok t v ht h
    | false =>
      rw [hm] at hok;simp only [Bool.and_eq_true] at hok;exact AP hok.2 t v (fun hin=>by rcases List.mem_cons.1 hin with e | e;exact hk e.symm;exact ht e) h
theorem QC (s:σ) (o:SO σ):DW (o.c s)=Kt o:=by
 cases o with
 | mix cs=>exact yg s cs
 | arr u f=>show AV.refs.refsL ((aI u (f s)).map .d)=[];rw [xw]
 | data e t f wr=>rfl
 | mp f=>rfl
 | dead=>rfl
theorem QD:∀(its:List IT) (x:(cu its).T) (t:Nat),t∈qm its->∃v,(t,v)∈lS its x
 | [],_,_,h=>by cases h
 | i::l,x,t,h=>by
   have tl:t∈qm l->∃v,(t,v)∈lS (i::l) x:=fun h=>by
    obtain ⟨v,hv⟩:=QD l (kM (uI i) (cu l) x) t h;exact ⟨v,by rw [lS];exact List.mem_append_right _ hv⟩
   cases i with
   | tmp k a cs =>
     rw [qm] at h;rcases List.mem_cons.1 h with rfl | h
     ·cases a with
      | true=>exact ⟨_,by rw [lS];exact List.mem_append_left _ (List.mem_singleton.2 rfl)⟩
      | false=>exact ⟨_,by rw [lS];exact List.mem_append_left _ (List.mem_singleton.2 rfl)⟩
     ·exact tl h
   | drop k =>
     rw [qm] at h;rcases List.mem_cons.1 h with rfl | h
     ·exact ⟨_,by rw [lS];exact List.mem_append_left _ (List.mem_singleton.2 rfl)⟩
     ·exact tl h
   | mix r cs=>exact tl (by simpa [qm] using h)
   | row r e u=>exact tl (by simpa [qm] using h)
   | arr r u=>exact tl (by simpa [qm] using h)
   | mp r=>exact tl (by simpa [qm] using h)
   | dead r=>exact tl (by simpa [qm] using h)
theorem qI {α:Type} {k:Nat}:∀ {l:List (Nat×α)},k∉l.map (·.1)->look k l=none
 | [],_=>rfl
 | (i,x)::l,h=>by
   rw [List.map_cons] at h;rw [look,if_neg (fun e=>h (by rw [e];exact List.mem_cons_self))];exact qI fun hm=>h (List.mem_cons_of_mem _ hm)
theorem QE:∀(its:List IT) (x:(cu its).T) (r:Nat),r∈kV its->∃o,(r,o)∈oz its x
 | [],_,_,h=>by cases h
 | i::l,x,t,h=>by
   have tl:t∈kV l->∃v,(t,v)∈oz (i::l) x:=fun h=>by
    obtain ⟨v,hv⟩:=QE l (kM (uI i) (cu l) x) t h;exact ⟨v,by rw [oz];exact List.mem_append_right _ hv⟩
   cases i with
   | tmp k a cs=>exact tl (by simpa [kV] using h)
   | drop k=>exact tl (by simpa [kV] using h)
   | mix r cs =>
     rw [kV] at h;rcases List.mem_cons.1 h with rfl | h
     ·exact ⟨_,by rw [oz];exact List.mem_append_left _ List.mem_cons_self⟩
     ·exact tl h
   | row r e u =>
     rw [kV] at h;rcases List.mem_cons.1 h with rfl | h
     ·exact ⟨_,by rw [oz];exact List.mem_append_left _ (List.mem_singleton.2 rfl)⟩
     ·exact tl h
   | arr r u =>
     rw [kV] at h;rcases List.mem_cons.1 h with rfl | h
     ·exact ⟨_,by rw [oz];exact List.mem_append_left _ (List.mem_singleton.2 rfl)⟩
     ·exact tl h
   | mp r =>
     rw [kV] at h;rcases List.mem_cons.1 h with rfl | h
     ·exact ⟨_,by rw [oz];exact List.mem_append_left _ (List.mem_singleton.2 rfl)⟩
     ·exact tl h
   | dead r =>
     rw [kV] at h;rcases List.mem_cons.1 h with rfl | h
     ·exact ⟨_,by rw [oz];exact List.mem_append_left _ (List.mem_singleton.2 rfl)⟩
     ·exact tl h
end
section
variable {σ τ:Type}
def adq (d:SS σ) (its:List IT) (d':SS τ):Option (PK τ (cu its).T) :=
 match agb d' its with
 | none=>none
 | some p=>match aiP d its d' p.fz with
   | true=>some p
   | false=>none
theorem uo (d:SS σ) (its:List IT):Grow d Prod.fst (headD d its):=⟨⟨_,rfl⟩,⟨_,rfl⟩⟩
theorem jQ {α:Type} {k:Nat} {l:List (Nat×α)} {v:α} (h:(k,v)∈l):∃w,look k l=some w:=by
 cases hl:look k l with
 | some w=>exact ⟨w,rfl⟩
 | none=>exact (qx hl v h).elim
theorem Kv (g:τ->σ):∀l:List (Nat×SV σ),(nY g l).length=l.length
 | []=>rfl
 | (t,v)::l=>by rw [nY,List.length_cons,List.length_cons,Kv g l]
theorem Eo (g:τ->σ):∀l:List (Nat×SO σ),(jP g l).length=l.length
 | []=>rfl
 | (t,v)::l=>by rw [jP,List.length_cons,List.length_cons,Eo g l]
theorem mY {σ':Type} {keys:List Nat} {dh:SS σ'}:∀ {th:List (Nat×Option Nat)},Ku keys dh th=true->(∀r x,(r,some x)∈th->x∈keys\/Uc (kS dh x)=true)/\∀r r' x,(r,some x)∈th->(r',some x)∈th->r=r'
 | [],_=>⟨fun r x h=>(by cases h),fun r r' x h=>(by cases h)⟩
 | (k,none)::l,h=>by
   rw [Ku] at h;obtain ⟨a,b⟩:=mY h;refine ⟨fun r x hm => ?_,fun r r' x hm hm' => ?_⟩
   ·rcases List.mem_cons.1 hm with e | hm
    ·cases e
    ·exact a r x hm
   ·rcases List.mem_cons.1 hm with e | hm
    ·cases e
    ·rcases List.mem_cons.1 hm' with e | hm'
     ·cases e
     ·exact b r r' x hm hm'
 | (k,some y)::l,h=>by
   rw [Ku,Bool.and_eq_true,Bool.and_eq_true] at h;obtain ⟨⟨h1,h2⟩,h3⟩:=h;obtain ⟨a,b⟩:=mY h3;have hno:∀r x,(r,some x)∈l->y≠x:=fun r x hm=>by
    have:=List.all_eq_true.1 h2 _ hm;simpa using this
   refine ⟨fun r x hm => ?_,fun r r' x hm hm' => ?_⟩
   ·rcases List.mem_cons.1 hm with e | hm
    ·cases e;rcases (Bool.or_eq_true _ _).mp h1 with h | h
     ·exact .inl (gQ.1 h)
     ·exact .inr h
    ·exact a r x hm
   ·rcases List.mem_cons.1 hm with e | hm
    ·cases e;rcases List.mem_cons.1 hm' with e | hm'
     ·cases e;rfl
     ·exact (hno _ _ hm' rfl).elim
    ·rcases List.mem_cons.1 hm' with e | hm'
     ·cases e;exact (hno _ _ hm rfl).elim
     ·exact b r r' x hm hm'
theorem aaI {N:Nat} {d:SS σ} {its:List IT} {g:τ->σ} {d':SS τ} {p:PK τ (cu its).T} {s:τ} (hg:Grow d g d') (h:adq d its d'=some p) (hc:allT s p.cs) :
 ∃ θ:Nat->Option Nat,(∀r,(look r d.hp).isSome=true->θ r=some r/\(((headD d its).c (g s,p.f s) N).rd r).isSome=true)/\NH θ (d'.c s N).rd ((headD d its).c (g s,p.f s) N).rd /\
   ∀t v,look t ((headD d its).c (g s,p.f s) N).tm=some v->gy θ (d'.c s N).rd ((headD d its).c (g s,p.f s) N).rd v ((d'.c s N).get t):=by
 unfold adq at h;split at h
 ·cases h
 rename_i p' hp;split at h
 ·rename_i hB;cases h;unfold aiP at hB;simp only [Bool.and_eq_true] at hB;obtain ⟨⟨⟨b1,b2⟩,⟨b3,b4⟩,b5,b6⟩,⟨b7,b8⟩,b9,b10,b11⟩:=hB
  -- the names
  have hkey:=agj b3;have hkd:∀r∈jw (wz d' its),look r d.hp=none/\r∉kV its:=fun r hr=>by
   have:=List.all_eq_true.1 b4 r hr;rw [Bool.and_eq_true,Bool.not_eq_true'] at this;refine ⟨?_,mX.1 this.2⟩;have h1:=this.1;unfold iJ kS at h1;rw [jO] at h1;split at h1
   ·assumption
   ·cases h1
  have hT:((headD d its).c (g s,p.f s) N).tm=lS its (p.f s)++cT (g s) d.tm:=by
   show cT (g s,p.f s) (oI its Prod.snd++nY Prod.fst d.tm)=_;rw [xg,uS,Qk]
  have hH:((headD d its).c (g s,p.f s) N).hp=oz its (p.f s)++cO (g s) d.hp:=by
   show cO (g s,p.f s) (jc its Prod.snd++jP Prod.fst d.hp)=_;rw [dL,zO,qW]
  have hHs:∀r,(∃o,(r,o)∈oz its (p.f s))->(((headD d its).c (g s,p.f s) N).rd r).isSome=true:=fun r ⟨o,ho⟩=>by
   unfold SL.rd;rw [hH,bU];obtain ⟨w,hw⟩:=jQ ho;rw [hw];rfl
  have hNs:∀l,WA (jw (wz d' its)) (headD d its) l=true->∀r∈l,Si (wz d' its) r=some r/\(((headD d its).c (g s,p.f s) N).rd r).isSome=true:=fun l hl r hr=>by
   have:=List.all_eq_true.1 hl r hr;unfold okN at this;rw [Bool.and_eq_true,Bool.not_eq_true',Bool.not_eq_true'] at this;exact ⟨lC (mX.1 this.1),FZ this.2⟩
  -- the items
  have hcov:∀r∈kV its,Si (wz d' its) r=some r:=fun r hr=>lC fun hk=>(hkd r hk).2 hr;have hfz:∀x∈p.fz,rG (Si (wz d' its)) ((headD d its).c (g s,p.f s) N).rd x.1:=fun x hx r' hr' o ho=>by
   have:=List.all_eq_true.1 b6 x hx;unfold Qx at this;rw [Bool.and_eq_true] at this;obtain ⟨f1,f2⟩:=this;by_cases hk:r'∈jw (wz d' its)
   ·obtain ⟨y,hy1,hy2⟩:=zT hk;rw [hy2] at hr';subst hr';have:=List.all_eq_true.1 f1 _ hy1;simp at this
   ·rw [lC hk] at hr';cases hr';rcases (Bool.or_eq_true _ _).mp f2 with h | h
    ·exact (hk (gQ.1 h)).elim
    ·exact FY h ho
  obtain ⟨w1,w2⟩:=Yg (s:=s) (N:=N) (θ:=Si (wz d' its)) (hp2:=((headD d its).c (g s,p.f s) N).rd) its p hp hc hfz hkey (fun x hx=>hHs x.1 ⟨x.2,hx⟩) (hNs _ b9) hcov
  -- what is kept
  obtain ⟨⟨l1,g1⟩,⟨l2,g2⟩⟩:=hg;have hl1:d'.tm.take (d'.tm.length-d.tm.length)=l1:=by rw [g1,List.length_append,Kv,Nat.add_sub_cancel,List.take_left]
  have hl2:d'.hp.take (d'.hp.length-d.hp.length)=l2:=by rw [g2,List.length_append,Eo,Nat.add_sub_cancel,List.take_left]
  rw [hl1] at b1;rw [hl2] at b2;have keptT:∀t w,t∉qm its->look t d.tm=some w->(d'.c s N).get t=w.c (g s):=fun t w ht hw=>by
   unfold SL.get SS.c;simp only [pU,g1,bU];rw [qI (l:=l1) (fun hm => ?_)]
   ·have:look t (nY g d.tm)=some (w.map g):=by
     have:∀l:List (Nat×SV σ),look t (nY g l)=(look t l).map (SV.map g):=by
      intro l
      induction l with
      | nil=>rfl
      | cons x l ih =>
        obtain ⟨k,v⟩:=x;rw [nY,look,look];split
        ·rfl
        ·exact ih
     rw [this,hw];rfl
    simp only [this,Option.map_some,XY]
   ·obtain ⟨x,hx,rfl⟩:=List.mem_map.1 hm;have:=List.all_eq_true.1 b1 x hx;rcases (Bool.or_eq_true _ _).mp this with h | h
    ·exact ht (gQ.1 h)
    ·rw [jO,hw] at h;cases h
  have keptH:∀r w,r∉kV its->look r d.hp=some w->(d'.c s N).rd r=some (w.c (g s)):=fun r w ht hw=>by
   unfold SL.rd SS.c;simp only [lu,g2,bU];rw [qI (l:=l2) (fun hm => ?_)]
   ·have:look r (jP g d.hp)=some (w.map g):=by
     have:∀l:List (Nat×SO σ),look r (jP g l)=(look r l).map (SO.map g):=by
      intro l
      induction l with
      | nil=>rfl
      | cons x l ih =>
        obtain ⟨k,v⟩:=x;rw [jP,look,look];split
        ·rfl
        ·exact ih
     rw [this,hw];rfl
    simp only [this,Option.map_some,Qj]
   ·obtain ⟨x,hx,rfl⟩:=List.mem_map.1 hm;have:=List.all_eq_true.1 b2 x hx;rcases (Bool.or_eq_true _ _).mp this with h | h
    ·exact ht (gQ.1 h)
    ·unfold iJ kS at h;rw [jO,hw] at h;cases h
  have notH:∀r,look r (oz its (p.f s))=none->r∉kV its:=fun r hn hr=>by
   obtain ⟨o,ho⟩:=QE its (p.f s) r hr;exact qx hn o ho
  refine ⟨Si (wz d' its),fun r hs => ?_,⟨fun r o ho => ?_,fun r' r'' o' o'' r ho' ho'' hm' hm'' ht' ht'' => ?_⟩,fun t v hv => ?_⟩
  ·refine ⟨lC fun hk => ?_,?_⟩
   ·rw [(hkd r hk).1] at hs;cases hs
   ·unfold SL.rd;rw [hH,bU];cases look r (oz its (p.f s)) with
    | some x=>rfl
    | none =>
      simp only [lu];cases hl:look r d.hp with
      | none=>rw [hl] at hs;cases hs
      | some w=>rfl
  ·unfold SL.rd at ho;rw [hH,bU] at ho;cases hl:look r (oz its (p.f s)) with
   | some x =>
     rw [hl] at ho;cases ho;exact w2 _ (bG hl)
   | none =>
     rw [hl] at ho;simp only [lu] at ho;cases hw:look r d.hp with
     | none=>rw [hw] at ho;cases ho
     | some w =>
       rw [hw] at ho;cases ho;have hnc:=notH r hl;obtain ⟨k1,k2⟩:=AP b8 r w hnc hw;exact zQ (lC k1) (keptH r w hnc hw) (fun q hq=>hNs _ k2 q (by rw [QC] at hq;exact hq))
  ·by_cases k1:r'∈jw (wz d' its)
   ·obtain ⟨x,x1,x2⟩:=zT k1;rw [x2] at ht';subst ht';by_cases k2:r''∈jw (wz d' its)
    ·obtain ⟨y,y1,y2⟩:=zT k2;rw [y2] at ht'';subst ht'';exact (mY b5).2 _ _ _ x1 y1
    ·rw [lC k2] at ht'';cases ht'';rcases (mY b5).1 _ _ x1 with h | h
     ·exact (k2 h).elim
     ·rw [FY h ho''] at hm'';cases hm''
   ·rw [lC k1] at ht';cases ht';by_cases k2:r''∈jw (wz d' its)
    ·obtain ⟨y,y1,y2⟩:=zT k2;rw [y2] at ht'';subst ht'';rcases (mY b5).1 _ _ y1 with h | h
     ·exact (k1 h).elim
     ·rw [FY h ho'] at hm';cases hm'
    ·rw [lC k2] at ht'';cases ht'';rfl
  ·rw [hT,bU] at hv;cases hl:look t (lS its (p.f s)) with
   | some x =>
     rw [hl] at hv;cases hv;exact w1 _ (bG hl)
   | none =>
     rw [hl] at hv;simp only [pU] at hv;cases hw:look t d.tm with
     | none=>rw [hw] at hv;cases hv
     | some w =>
       rw [hw] at hv;cases hv;have hnc:t∉qm its:=fun hc=>by
        obtain ⟨v,hv⟩:=QD its (p.f s) t hc;exact qx hl v hv
       rw [keptT t w hnc hw];exact CO _ fun r hr=>hNs _ (AL b7 t w hnc hw) r (by rw [JU] at hr;exact hr)
 ·cases h
end
theorem H9 {a b c:AO} (h:a.like b) (k:b.like c) (hb:b ≠ .dead):a.like c:=by
 cases a<;>cases b<;>cases c<;>simp_all [AO.like]
theorem vw.same {θ:Nat->Option Nat} {hp1 hp2:Nat->Option AO} {r':Nat} {o:AO} (h:vw θ hp1 hp2 r' o) (hd:o ≠ .dead) {r:Nat} (ht:θ r'=some r):∃o1,hp1 r=some o1/\o1 ≠ .dead/\o1.like o:=by
 unfold vw at h;rw [ht] at h;cases o with
 | dead=>exact (hd rfl).elim
 | data e s cs wr=>obtain ⟨wr1,cs1,h1,_⟩:=h;exact ⟨_,h1,by simp,⟨rfl,rfl⟩⟩
 | mix cs=>obtain ⟨cs1,h1,_⟩:=h;exact ⟨_,h1,by simp,trivial⟩
 | mp ks=>exact ⟨_,h,by simp,trivial⟩
theorem anv {P:Program} {GL:Nat->Option (List DV)} {f:FuncId} {argsC args:List AV} {osC os usC us:List (Nat×AO)} {vC v:AV} {θ θ':Nat->Option Nat} (h:eY P GL f argsC osC vC usC)
 (hw:NH θ (aJ os) (aJ osC)) (ha:jo θ (aJ os) (aJ osC) argsC args) (hw':NH θ' (aJ usC) (aJ us)) (hv:gy θ' (aJ usC) (aJ us) v vC)
 (hk:∀r o,look r os=some o->∃o',look r us=some o'/\∃c oc,θ' r=some c/\θ c=some r/\look c osC=some oc/\oc ≠ .dead):eY P GL f args os v us:=fun E w vs hE hwh hs hrel=>by
 have hw0:NH θ E.hp (aJ osC):=by rw [hE];exact hw
 have ha0:jo θ E.hp (aJ osC) argsC args:=by rw [hE];exact ha
 refine (h (kY E θ (aJ osC)) w vs rfl hwh (qB hs hw0) (tZ hs hw0 argsC args vs.toList ha0 hrel)).mono ?_;rintro e w' ⟨u,E2,rfl,h1,h2,h3,h4,h5,h6⟩;have hw2:NH θ' E2.hp (aJ us):=by rw [h2];exact hw'
 have hv2:gy θ' E2.hp (aJ us) v vC:=by rw [h2];exact hv
 refine ⟨u,kY E2 θ' (aJ us),rfl,h1,rfl,qB h3 hw2,⟨rH.trans (h4.sub.trans rH),fun r o ho => ?_⟩,qC hw2 ((qC hw0 (oM.refl E w)).trans h5),uG h3 hw2 v vC u hv2 h6⟩;rw [hE] at ho;obtain ⟨o',k1,c,oc,k2,k3,k4,k5⟩:=hk r o ho;have k1':(kY E2 θ' (aJ us)).hp r=some o':=k1;have hc:=hw0.ob c oc k4;obtain ⟨o1,q1,q2,q3⟩:=hc.same k5 k3;rw [hE] at q1;have:o1=o:=by have e:aJ os r=some o:=ho;rw [q1] at e;cases e;rfl
 subst this;refine ⟨o',k1',?_⟩;by_cases hd:o' = .dead
 ·subst hd;exact ⟨by cases o1<;>simp_all [AO.like],.inl rfl⟩
 ·obtain ⟨o2,p1,p2,p3⟩:=(hw2.ob r o' k1').same hd k2;obtain ⟨oc',p4,p5,p6⟩:=h4.ob c oc k4;rw [p1] at p4;cases p4;refine ⟨H9 q3 (H9 p5 p3 p2) k5,.inr ?_⟩;rcases p6 with p6 | p6
  ·exact (p2 p6).elim
  ·rw [qA k2,p6,qA k3]
def nO:List (Nat×Option Nat)->Nat->Option Nat
 | [],_=>none
 | (r,x)::l,k=>match decide (r=k) with | true=>x | false=>nO l k
def BF:List CS->List Nat
 | []=>[]
 | .own r _ _::l=>r::BF l
 | _::l=>BF l
def aS:List IT->List Nat
 | []=>[]
 | .tmp _ _ cs::l=>BF cs++aS l
 | .mix r cs::l=>r::(BF cs++aS l)
 | .row r _ _::l=>r::aS l
 | .arr r _::l=>r::aS l
 | .mp r::l=>r::aS l
 | .dead r::l=>r::aS l
 | .drop _::l=>aS l
def Yh:List IT->Bool
 | []=>true
 | .dead _::_=>false
 | .drop _::_=>false
 | _::l=>Yh l
section
variable {σ:Type}
def anw:List (Nat×Nat)->List (SV σ)->List (Nat×Option Nat)
 | (r,_)::l,.ptr r1 _::vs=>(r,some r1)::anw l vs
 | _,_=>[]
def cellT:CS->SV σ->List (Nat×Option Nat)
 | .own r _ _,.sl r1 _ _ _ _=>[(r,some r1)]
 | .own r _ _,_=>[(r,none)]
 | .pt r _,.ptr r1 _=>[(r,some r1)]
 | .cl _ caps,.clo _ vs=>anw caps vs
 | _,_=>[]
def QF:List CS->List (SV σ)->List (Nat×Option Nat)
 | c::cs,v::vs=>cellT c v++QF cs vs
 | _,_=>[]
def namesT (d:SS σ):List IT->List (Nat×Option Nat)->List (Nat×Option Nat)
 | [],acc=>acc
 | .tmp t false cs::l,acc=>match jF t d.tm with
   | some v=>namesT d l (acc++QF cs [v])
   | none=>acc
 | .tmp t true cs::l,acc=>match jF t d.tm with
   | some (.agg vs)=>namesT d l (acc++QF cs vs)
   | _=>acc
 | .mix r cs::l,acc=>match nO acc r with
   | some r1=>match kS d r1 with
     | some (.mix vs)=>namesT d l (acc++QF cs vs)
     | _=>acc
   | none=>acc
 | _::l,acc=>namesT d l acc
def zU (r:Nat):Bool:=decide (41000000<=r)
def BH (θ:Nat->Option Nat) (rd:Nat->Option (SO σ)):(c:CS)->SV σ->Option (PK σ (uC c).T)
 | .pt r off,v=>match v with
   | .ptr r1 off1=>match eqN (θ r) (some r1)&&decide (off=off1) with | true=>some ⟨fun _=>(),[],[]⟩ | false=>none
   | _=>none
 | .cl f caps,v=>match v with
   | .clo f1 vs=>match decide (f=f1)&&Kr θ caps vs with | true=>some ⟨fun _=>(),[],[]⟩ | false=>none
   | _=>none
 | .dat u,v=>Qw rd (.dat u) v
 | .own r e u,v=>match v with
   | .val (.slice none 0 0)=>match θ r with | none=>some ⟨fun _=>[],[],[]⟩ | some _=>none
   | .sl r1 z none n .unk=>match eqN (θ r) (some r1) with
     | true=>match rd r1 with
       | some (.data e' u' f true)=>match Ve u' u,decide (e'=e/\z=fJ u') with
         | some ⟨h⟩,true=>match zU r with
           | true=>some ⟨gY h fun s=>(f s).take (n s),[fun s=>decide (n s<=(f s).length)],[]⟩
           | false=>some ⟨gY h f,[fun s=>decide (n s=(f s).length)],[]⟩
         | _,_=>none
       | _=>none
     | false=>none
   | _=>none
 | .nil,v=>Qw rd .nil v
 | .np,v=>Qw rd .np v
def Ia (θ:Nat->Option Nat) (rd:Nat->Option (SO σ)):(cs:List CS)->List (SV σ)->Option (PK σ (jm cs).T)
 | [],[]=>some ⟨fun _=>(),[],[]⟩
 | c::cs,v::vs=>match BH θ rd c v,Ia θ rd cs vs with
   | some x,some y=>some ⟨fun s=>wM (uC c) (jm cs) (x.f s) (y.f s),x.cs++y.cs,x.fz++y.fz⟩
   | _,_=>none
 | _,_=>none
def Ep (θ:Nat->Option Nat) (d:SS σ):(i:IT)->Option (PK σ (uI i).T)
 | .tmp t agg cs=>match jF t d.tm with
   | none=>none
   | some v=>match agg with
     | false=>Ia θ (kS d) cs [v]
     | true=>match v with | .agg vs=>Ia θ (kS d) cs vs | _=>none
 | .mix r cs=>match θ r with
   | some r1=>match kS d r1 with | some (.mix vs)=>Ia θ (kS d) cs vs | _=>none
   | none=>none
 | .row r e u=>match θ r with
   | some r1=>match kS d r1 with
     | some (.data e' u' f true)=>match Ve u' u,decide (e'=e) with | some ⟨h⟩,true=>some ⟨gY h f,[],[]⟩ | _,_=>none
     | _=>none
   | none=>none
 | .arr r u=>match θ r with
   | some r1=>match kS d r1 with
     | some (.arr u' f)=>match Ve u' u with | some ⟨h⟩=>some ⟨gY h f,[],[]⟩ | none=>none
     | _=>none
   | none=>none
 | .mp r=>match θ r with
   | some r1=>match kS d r1 with
     | some (.mp f)=>some ⟨f,[],[]⟩
     | _=>none
   | none=>none
 | .drop _=>none
 | .dead _=>none
def OT (θ:Nat->Option Nat) (d:SS σ):(l:List IT)->Option (PK σ (cu l).T)
 | []=>some ⟨fun _=>(),[],[]⟩
 | i::l=>match Ep θ d i,OT θ d l with
   | some x,some y=>some ⟨fun s=>wM (uI i) (cu l) (x.f s) (y.f s),x.cs++y.cs,x.fz++y.fz⟩
   | _,_=>none
end
section
variable {σ:Type} {s:σ} {θ:Nat->Option Nat} {hp2:Nat->Option AO} {rd:Nat->Option (SO σ)}
theorem agk:∀(c:CS) (v:SV σ) (p:PK σ (uC c).T),BH θ rd c v=some p->allT s p.cs->(∀x∈p.fz,rG θ hp2 x.1)->(∀x∈oC c (p.f s),(hp2 x.1).isSome=true)->(∀r∈fM [c],(hp2 r).isSome=true) ->
 gy θ (iI s rd) hp2 (aC c (p.f s)) (v.c s)/\∀x∈oC c (p.f s),vw θ (iI s rd) hp2 x.1 x.2
 | .dat u,v,p,hp,hc,hfz,hl,hpt=>QB (.dat u) v p hp hc hfz (fun x hx=>by cases v<;>cases hx) hl (fun r hr=>by cases hr)
 | .nil,v,p,hp,hc,hfz,hl,hpt=>QB .nil v p hp hc hfz (fun x hx=>by cases v<;>cases hx) hl (fun r hr=>by cases hr)
 | .np,v,p,hp,hc,hfz,hl,hpt=>QB .np v p hp hc hfz (fun x hx=>by cases v<;>cases hx) hl (fun r hr=>by cases hr)
 | .own r e u,v,p,hp,hc,hfz,hl,hpt=>by
   have h2:=hl (r,_) (List.mem_singleton.2 rfl);simp only [BH] at hp;split at hp
   ·split at hp
    ·rename_i h1;cases hp;refine ⟨?_,fun x hx => ?_⟩
     ·rw [SV.c];show gy θ _ hp2 (.sl r 0 ([]:List u.T).length none) _;rw [gy];exact ⟨h2,.inr (.inl ⟨h1,rfl,rfl,rfl,rfl⟩)⟩
     ·have hx:x∈[(r,AO.data e (fJ u) (aI u []) true)]:=hx;rw [List.mem_singleton] at hx;subst hx;unfold vw;simp only [h1];rfl
    ·cases hp
   ·rename_i r1 z n;split at hp
    ·rename_i h1;have h1:=zS h1;split at hp
     ·rename_i e' u' f hr;split at hp
      ·rename_i hk _ hd;subst hk;obtain ⟨rfl,hz⟩:=of_decide_eq_true hd;split at hp
       ·cases hp;have hn:n s<=(f s).length:=of_decide_eq_true hc.1;have hn':((f s).take (n s)).length=n s:=by rw [List.length_take];omega
        refine ⟨?_,fun x hx => ?_⟩
        ·rw [SV.c];show gy θ _ hp2 (.sl r 0 ((f s).take (n s)).length none) _;simp only [wu,Nat.zero_mul,rU,hn'];rw [gy];exact ⟨h2,.inl ⟨r1,h1,rfl⟩⟩
        ·have hx:x∈[(r,AO.data e' (fJ u') (aI u' ((f s).take (n s))) true)]:=hx;rw [List.mem_singleton] at hx;subst hx;unfold vw;simp only [h1];exact ⟨true,aI u' (f s),by simp only [iI,hr,Option.map_some,SO.c],.inr (.inr ⟨n s*fJ u',(gq u' (n s) (f s)).symm⟩),fun _=>rfl,fun h=>by cases h⟩
       ·cases hp;have hn:n s=(f s).length:=of_decide_eq_true hc.1;refine ⟨?_,fun x hx => ?_⟩
        ·rw [SV.c];show gy θ _ hp2 (.sl r 0 (f s).length none) _;simp only [wu,Nat.zero_mul,rU,hn];rw [gy];exact ⟨h2,.inl ⟨r1,h1,rfl⟩⟩
        ·have hx:x∈[(r,AO.data e' (fJ u') (aI u' (f s)) true)]:=hx;rw [List.mem_singleton] at hx;subst hx;unfold vw;simp only [h1];exact ⟨true,aI u' (f s),by simp only [iI,hr,Option.map_some,SO.c],.inl rfl,fun _=>rfl,fun h=>by cases h⟩
      ·cases hp
     ·cases hp
    ·cases hp
   ·cases hp
 | .pt r off,v,p,hp,hc,hfz,hl,hpt=>by
   refine ⟨?_,fun x hx=>(by simp [oC] at hx)⟩;simp only [BH] at hp;split at hp
   ·rename_i r1 off1;split at hp
    ·rename_i hd;rw [Bool.and_eq_true] at hd;obtain rfl:=of_decide_eq_true hd.2;cases hp;rw [SV.c];show gy θ _ hp2 (.ptr r off) _;rw [gy];exact ⟨r1,zS hd.1,hpt r (by simp [fM]),rfl⟩
    ·cases hp
   ·cases hp
 | .cl f caps,v,p,hp,hc,hfz,hl,hpt=>by
   refine ⟨?_,fun x hx=>(by simp [oC] at hx)⟩;simp only [BH] at hp;split at hp
   ·rename_i f' vs;split at hp
    ·rename_i hd;rw [Bool.and_eq_true] at hd;obtain ⟨hd,hb⟩:=hd;obtain rfl:=of_decide_eq_true hd;cases hp;rw [SV.c];show gy θ _ hp2 (.clo f (FU caps)) _;rw [gy];exact ⟨_,rfl,QA caps vs hb fun r hr=>hpt r (by show r∈caps.map (·.1)++[];rw [List.append_nil];exact hr)⟩
    ·cases hp
   ·cases hp
theorem Es:∀(cs:List CS) (vs:List (SV σ)) (p:PK σ (jm cs).T),Ia θ rd cs vs=some p->allT s p.cs->(∀x∈p.fz,rG θ hp2 x.1)->(∀x∈Qy cs (p.f s),(hp2 x.1).isSome=true)->(∀r∈fM cs,(hp2 r).isSome=true) ->
 jo θ (iI s rd) hp2 (o7 cs (p.f s)) (cL s vs)/\∀x∈Qy cs (p.f s),vw θ (iI s rd) hp2 x.1 x.2
 | [],[],p,hp,hc,hfz,hl,hpt=>by
   refine ⟨?_,fun x hx=>(by cases hx)⟩;rw [cL,show o7 [] (p.f s)=[] from rfl,jo]
 | c::cs,v::vs,p,hp,hc,hfz,hl,hpt=>by
   rw [Ia] at hp;split at hp
   ·rename_i x y hx hy;cases hp;rw [bW] at hc;have e1:jD (uC c) (jm cs) (wM (uC c) (jm cs) (x.f s) (y.f s))=x.f s:=jT _ _ _ _;have e2:kM (uC c) (jm cs) (wM (uC c) (jm cs) (x.f s) (y.f s))=y.f s:=kT _ _ _ _;simp only [Qy,e1,e2] at hl;have hpt1:∀r∈fM [c],(hp2 r).isSome=true:=fun r hr=>hpt r (by cases c<;>simp [fM] at hr ⊢ <;> first | exact .inl hr | simp [hr]);have hpt2:∀r∈fM cs,(hp2 r).isSome=true:=fun r hr=>hpt r (by cases c<;>simp [fM,hr]);obtain ⟨a1,a2⟩:=agk c v x hx hc.1 (fun z hz=>hfz z (List.mem_append_left _ hz)) (fun z hz=>hl z (List.mem_append_left _ hz)) hpt1;obtain ⟨b1,b2⟩:=Es cs vs y hy hc.2 (fun z hz=>hfz z (List.mem_append_right _ hz)) (fun z hz=>hl z (List.mem_append_right _ hz)) hpt2;refine ⟨?_,fun z hz => ?_⟩
    ·rw [cL];simp only [o7,e1,e2];rw [jo];exact ⟨_,_,rfl,a1,b1⟩
    ·simp only [Qy,e1,e2] at hz;rcases List.mem_append.1 hz with h | h
     ·exact a2 z h
     ·exact b2 z h
   ·cases hp
 | [],_::_,p,hp,_,_,_,_=>by cases hp
 | _::_,[],p,hp,_,_,_,_=>by cases hp
theorem AQ {d:SS σ} {N:Nat}:∀(i:IT) (p:PK σ (uI i).T),Ep θ d i=some p->allT s p.cs->(∀x∈p.fz,rG θ hp2 x.1)->(∀x∈aH i (p.f s),(hp2 x.1).isSome=true)->(∀r∈dR [i],(hp2 r).isSome=true) ->
 (∀x∈aT i (p.f s),gy θ (d.c s N).rd hp2 x.2 ((d.c s N).get x.1))/\∀x∈aH i (p.f s),vw θ (d.c s N).rd hp2 x.1 x.2
 | .tmp t agg cs,p,hp,hc,hfz,hl,hpt=>by
   rw [<-mM s N];have hget:∀v,jF t d.tm=some v->(d.c s N).get t=v.c s:=fun v hv=>by
    rw [jO] at hv;unfold SL.get SS.c;simp only [pU,hv,Option.map_some]
   have hpt':∀r∈fM cs,(hp2 r).isSome=true:=fun r hr=>hpt r (by simp [dR,hr]);simp only [Ep] at hp;cases hv:jF t d.tm with
   | none=>simp only [hv] at hp;cases hp
   | some v =>
     simp only [hv] at hp;cases agg with
     | false =>
       simp only at hp;obtain ⟨a,b⟩:=Es cs [v] p hp hc hfz hl hpt';refine ⟨fun x hx => ?_,b⟩;have hx:x∈[(t,og (o7 cs (p.f s)))]:=hx;rw [List.mem_singleton] at hx;subst hx;show gy θ _ hp2 (og (o7 cs (p.f s))) ((d.c s N).get t);rw [hget v hv];rw [cL,cL] at a;generalize o7 cs (p.f s)=ys at a ⊢;cases ys with
       | nil=>rw [jo] at a;cases a
       | cons y ys =>
         rw [jo] at a;obtain ⟨x,xs,h1,h2,h3⟩:=a;cases h1;cases ys with
         | nil=>exact h2
         | cons z zs=>rw [jo] at h3;obtain ⟨_,_,h4,_⟩:=h3;cases h4
     | true =>
       simp only at hp;cases v with
       | agg vs =>
         simp only at hp;obtain ⟨a,b⟩:=Es cs vs p hp hc hfz hl hpt';refine ⟨fun x hx => ?_,b⟩;have hx:x∈[(t,AV.agg (o7 cs (p.f s)))]:=hx;rw [List.mem_singleton] at hx;subst hx;show gy θ _ hp2 (.agg (o7 cs (p.f s))) ((d.c s N).get t);rw [hget _ hv,SV.c,gy];exact ⟨_,rfl,a⟩
       | _=>cases hp
 | .mix r cs,p,hp,hc,hfz,hl,hpt=>by
   rw [<-mM s N];refine ⟨fun x hx=>(by cases hx),?_⟩;simp only [Ep] at hp;cases hr:θ r with
   | none=>simp only [hr] at hp;cases hp
   | some r1 =>
     simp only [hr] at hp;cases hvs:kS d r1 with
     | none=>simp only [hvs] at hp;cases hp
     | some o =>
       cases o with
       | mix vs =>
         simp only [hvs] at hp;have hpt':∀r∈fM cs,(hp2 r).isSome=true:=fun r hr=>hpt r (by simp [dR,hr]);obtain ⟨a,b⟩:=Es cs vs p hp hc hfz (fun x hx=>hl x (List.mem_cons_of_mem _ hx)) hpt';intro x hx;rcases List.mem_cons.1 hx with rfl | hx
         ·unfold vw;simp only [hr];exact ⟨_,by simp only [iI,hvs,Option.map_some,SO.c],a⟩
         ·exact b x hx
       | data e u f wr=>simp only [hvs] at hp;cases hp
       | arr u f=>simp only [hvs] at hp;cases hp
       | mp f=>simp only [hvs] at hp;cases hp
       | dead=>simp only [hvs] at hp;cases hp
 | .row r e u,p,hp,hc,hfz,hl,hpt=>by
   rw [<-mM s N];refine ⟨fun x hx=>(by cases hx),?_⟩;simp only [Ep] at hp;split at hp
   ·rename_i r1 hr1;split at hp
    ·rename_i e' u' f hr;split at hp
     ·rename_i hk _ hd;subst hk;have hd:=of_decide_eq_true hd;subst hd;cases hp;intro x hx;have hx:x∈[(r,AO.data e' (fJ u') (aI u' (f s)) true)]:=hx;rw [List.mem_singleton] at hx;subst hx;unfold vw;simp only [hr1];exact ⟨true,aI u' (f s),by simp only [iI,hr,Option.map_some,SO.c],.inl rfl,fun _=>rfl,fun h=>by cases h⟩
     ·cases hp
    ·cases hp
   ·cases hp
 | .arr r u,p,hp,hc,hfz,hl,hpt=>by
   rw [<-mM s N];refine ⟨fun x hx=>(by cases hx),?_⟩;simp only [Ep] at hp;split at hp
   ·rename_i r1 hr1;split at hp
    ·rename_i u' f hr;split at hp
     ·rename_i hk _;subst hk;cases hp;intro x hx;have hx:x∈[(r,AO.mix ((aI u' (f s)).map .d))]:=hx;rw [List.mem_singleton] at hx;subst hx;unfold vw;simp only [hr1];exact ⟨_,by simp only [iI,hr,Option.map_some,SO.c],CP _ fun r hr=>(by rw [xw] at hr;cases hr)⟩
     ·cases hp
    ·cases hp
   ·cases hp
 | .mp r,p,hp,hc,hfz,hl,hpt=>by
   rw [<-mM s N];refine ⟨fun x hx=>(by cases hx),?_⟩;simp only [Ep] at hp;split at hp
   ·rename_i r1 hr1;split at hp
    ·rename_i f hr;cases hp;intro x hx;have hx:x∈[(r,AO.mp (f s))]:=hx;rw [List.mem_singleton] at hx;subst hx;unfold vw;simp only [hr1];simp only [iI,hr,Option.map_some,SO.c]
    ·cases hp
   ·cases hp
 | .drop t,p,hp,hc,hfz,hl,hpt=>by cases hp
 | .dead r,p,hp,hc,hfz,hl,hpt=>by cases hp
theorem Ue {d:SS σ} {N:Nat}:∀(l:List IT) (p:PK σ (cu l).T),OT θ d l=some p->allT s p.cs->(∀x∈p.fz,rG θ hp2 x.1)->(∀x∈oz l (p.f s),(hp2 x.1).isSome=true)->(∀r∈dR l,(hp2 r).isSome=true) ->
 (∀x∈lS l (p.f s),gy θ (d.c s N).rd hp2 x.2 ((d.c s N).get x.1))/\∀x∈oz l (p.f s),vw θ (d.c s N).rd hp2 x.1 x.2
 | [],p,hp,hc,hfz,hl,hpt=>⟨fun x hx=>(by cases hx),fun x hx=>(by cases hx)⟩
 | i::l,p,hp,hc,hfz,hl,hpt=>by
   rw [OT] at hp;split at hp
   ·rename_i x y hx hy;cases hp;rw [bW] at hc;have e1:jD (uI i) (cu l) (wM (uI i) (cu l) (x.f s) (y.f s))=x.f s:=jT _ _ _ _;have e2:kM (uI i) (cu l) (wM (uI i) (cu l) (x.f s) (y.f s))=y.f s:=kT _ _ _ _;simp only [oz,e1,e2] at hl;obtain ⟨a1,a2⟩:=AQ (N:=N) i x hx hc.1 (fun z hz=>hfz z (List.mem_append_left _ hz)) (fun z hz=>hl z (List.mem_append_left _ hz)) (fun r hr=>hpt r (FV r hr));obtain ⟨b1,b2⟩:=Ue (N:=N) l y hy hc.2 (fun z hz=>hfz z (List.mem_append_right _ hz)) (fun z hz=>hl z (List.mem_append_right _ hz)) (fun r hr=>hpt r (FW r hr));simp only [lS,oz,e1,e2];refine ⟨fun z hz => ?_,fun z hz => ?_⟩
    ·rcases List.mem_append.1 hz with h | h
     ·exact a1 z h
     ·exact b1 z h
    ·rcases List.mem_append.1 hz with h | h
     ·exact a2 z h
     ·exact b2 z h
   ·cases hp
end
section
variable {σ τ σ':Type}
def anx:CS->SV σ->List (Nat×Option Nat)
 | .own r _ _,.sl r1 _ _ _ _=>[(r,some r1)]
 | .own r _ _,_=>[(r,none)]
 | .pt r _,.ptr r1 _=>match decide (r=r1) with | true=>[] | false=>[(r,some r1)]
 | _,_=>[]
def adr:List (Nat×Option Nat)->List (Nat×Option Nat)->List (Nat×Option Nat)
 | acc,[]=>acc
 | acc,(r,x)::l=>match kL r (jw acc) with | true=>adr acc l | false=>adr (acc++[(r,x)]) l
def QG:List CS->List (SV σ)->List (Nat×Option Nat)
 | c::cs,v::vs=>anx c v++QG cs vs
 | _,_=>[]
def yx (d:SS σ):List IT->List (Nat×Option Nat)->List (Nat×Option Nat)
 | [],acc=>acc
 | .tmp t false cs::l,acc=>match jF t d.tm with
   | some v=>yx d l (adr acc (QG cs [v]))
   | none=>yx d l acc
 | .tmp t true cs::l,acc=>match jF t d.tm with
   | some (.agg vs)=>yx d l (adr acc (QG cs vs))
   | _=>yx d l acc
 | .mix r cs::l,acc=>match Si acc r with
   | some r1=>match kS d r1 with
     | some (.mix vs)=>yx d l (adr acc (QG cs vs))
     | _=>yx d l acc
   | none=>yx d l acc
 | _::l,acc=>yx d l acc
def anz (θ:Nat->Option Nat) (d:SS σ):(i:IT)->Option (PK σ (uI i).T)
 | .drop _=>some ⟨fun _=>(),[],[]⟩
 | .dead _=>some ⟨fun _=>(),[],[]⟩
 | i=>Ep θ d i
def Yi (θ:Nat->Option Nat) (d:SS σ):(l:List IT)->Option (PK σ (cu l).T)
 | []=>some ⟨fun _=>(),[],[]⟩
 | i::l=>match anz θ d i,Yi θ d l with
   | some x,some y=>some ⟨fun s=>wM (uI i) (cu l) (x.f s) (y.f s),x.cs++y.cs,x.fz++y.fz⟩
   | _,_=>none
theorem agl {s:σ} {θ:Nat->Option Nat} {hp2:Nat->Option AO} {d:SS σ} {N:Nat} (i:IT) (p:PK σ (uI i).T) (hp:anz θ d i=some p) (hc:allT s p.cs) (hfz:∀x∈p.fz,rG θ hp2 x.1) (hl:∀x∈aH i (p.f s),(hp2 x.1).isSome=true) (hpt:∀r∈dR [i],(hp2 r).isSome=true) :
 (∀x∈aT i (p.f s),gy θ (d.c s N).rd hp2 x.2 ((d.c s N).get x.1))/\∀x∈aH i (p.f s),vw θ (d.c s N).rd hp2 x.1 x.2:=by
 cases i with
 | drop t =>
   refine ⟨fun x hx => ?_,fun x hx=>(by cases hx)⟩;have hx:x∈[(t,AV.junk)]:=hx;rw [List.mem_singleton] at hx;subst hx;rw [gy];trivial
 | dead r =>
   refine ⟨fun x hx=>(by cases hx),fun x hx => ?_⟩;have hx:x∈[(r,AO.dead)]:=hx;rw [List.mem_singleton] at hx;subst hx;unfold vw;simp only;split<;>trivial
 | tmp t a cs=>exact AQ _ p hp hc hfz hl hpt
 | mix r cs=>exact AQ _ p hp hc hfz hl hpt
 | row r e u=>exact AQ _ p hp hc hfz hl hpt
 | arr r u=>exact AQ _ p hp hc hfz hl hpt
 | mp r=>exact AQ _ p hp hc hfz hl hpt
theorem Uf {s:σ} {θ:Nat->Option Nat} {hp2:Nat->Option AO} {d:SS σ} {N:Nat}:∀(l:List IT) (p:PK σ (cu l).T),Yi θ d l=some p->allT s p.cs->(∀x∈p.fz,rG θ hp2 x.1)->(∀x∈oz l (p.f s),(hp2 x.1).isSome=true)->(∀r∈dR l,(hp2 r).isSome=true) ->
 (∀x∈lS l (p.f s),gy θ (d.c s N).rd hp2 x.2 ((d.c s N).get x.1))/\∀x∈oz l (p.f s),vw θ (d.c s N).rd hp2 x.1 x.2
 | [],p,hp,hc,hfz,hl,hpt=>⟨fun x hx=>(by cases hx),fun x hx=>(by cases hx)⟩
 | i::l,p,hp,hc,hfz,hl,hpt=>by
   rw [Yi] at hp;split at hp
   ·rename_i x y hx hy;cases hp;rw [bW] at hc;have e1:jD (uI i) (cu l) (wM (uI i) (cu l) (x.f s) (y.f s))=x.f s:=jT _ _ _ _;have e2:kM (uI i) (cu l) (wM (uI i) (cu l) (x.f s) (y.f s))=y.f s:=kT _ _ _ _;simp only [oz,e1,e2] at hl;obtain ⟨a1,a2⟩:=agl (N:=N) i x hx hc.1 (fun z hz=>hfz z (List.mem_append_left _ hz)) (fun z hz=>hl z (List.mem_append_left _ hz)) (fun r hr=>hpt r (FV r hr));obtain ⟨b1,b2⟩:=Uf (N:=N) l y hy hc.2 (fun z hz=>hfz z (List.mem_append_right _ hz)) (fun z hz=>hl z (List.mem_append_right _ hz)) (fun r hr=>hpt r (FW r hr));simp only [lS,oz,e1,e2];refine ⟨fun z hz => ?_,fun z hz => ?_⟩
    ·rcases List.mem_append.1 hz with h | h
     ·exact a1 z h
     ·exact b1 z h
    ·rcases List.mem_append.1 hz with h | h
     ·exact a2 z h
     ·exact b2 z h
   ·cases hp
def ads (d:SS σ) (its:List IT) (d':SS τ) (fz:List (Nat×SO τ)) (th:List (Nat×Option Nat)):Bool :=
 ((((d'.tm.take (d'.tm.length-d.tm.length)).all fun x=>kL x.1 (qm its)||(match jF x.1 d.tm with | none=>true | some _=>false)) &&
  ((d'.hp.take (d'.hp.length-d.hp.length)).all fun x=>kL x.1 (kV its)||iJ (kS d) x.1)) &&
 ((nodupB (jw th)&&(jw th).all fun r=>iJ (kS d) r) &&
  (Ku (jw th) (headD d its) th&&fz.all fun x=>Qx th (headD d its) x.1))) &&
 ((aaG (jw th) (headD d its) (qm its) d.tm&&aaH (jw th) (headD d its) (kV its) d.hp) &&
  ((dR its).all fun r => !iJ (kS (headD d its)) r))
def WC (d:SS σ) (its:List IT) (d':SS τ) (th:List (Nat×Option Nat)):Option (PK τ (cu its).T) :=
 match Yi (Si th) d' its with
 | none=>none
 | some p=>match ads d its d' p.fz th with
   | true=>some p
   | false=>none
def aiQ (d:SS σ) (its:List IT) (d':SS τ):Option (PK τ (cu its).T) :=
 match yx d' its [] with
 | th=>WC d its d' th
def Kw (d:SS σ) (its:List IT) (d':SS τ):Option (PK τ (cu its).T) :=
 match adq d its d' with
 | some p=>some p
 | none=>aiQ d its d'
theorem Ug {N:Nat} {d:SS σ} {its:List IT} {g:τ->σ} {d':SS τ} {p:PK τ (cu its).T} {s:τ} {th:List (Nat×Option Nat)} (hg:Grow d g d') (h:WC d its d' th=some p) (hc:allT s p.cs) :
 ∃ θ:Nat->Option Nat,(∀r,(look r d.hp).isSome=true->θ r=some r/\(((headD d its).c (g s,p.f s) N).rd r).isSome=true)/\NH θ (d'.c s N).rd ((headD d its).c (g s,p.f s) N).rd /\
   ∀t v,look t ((headD d its).c (g s,p.f s) N).tm=some v->gy θ (d'.c s N).rd ((headD d its).c (g s,p.f s) N).rd v ((d'.c s N).get t):=by
 unfold WC at h;split at h
 ·cases h
 rename_i p' hp;split at h
 ·rename_i hB;cases h;unfold ads at hB;simp only [Bool.and_eq_true] at hB;obtain ⟨⟨⟨b1,b2⟩,⟨b3,b4⟩,b5,b6⟩,⟨b7,b8⟩,b9⟩:=hB;have hkd:∀r∈jw th,look r d.hp=none:=fun r hr=>by
   have h1:=List.all_eq_true.1 b4 r hr;unfold iJ kS at h1;rw [jO] at h1;split at h1
   ·assumption
   ·cases h1
  have hT:((headD d its).c (g s,p.f s) N).tm=lS its (p.f s)++cT (g s) d.tm:=by
   show cT (g s,p.f s) (oI its Prod.snd++nY Prod.fst d.tm)=_;rw [xg,uS,Qk]
  have hH:((headD d its).c (g s,p.f s) N).hp=oz its (p.f s)++cO (g s) d.hp:=by
   show cO (g s,p.f s) (jc its Prod.snd++jP Prod.fst d.hp)=_;rw [dL,zO,qW]
  have hHs:∀r,(∃o,(r,o)∈oz its (p.f s))->(((headD d its).c (g s,p.f s) N).rd r).isSome=true:=fun r ⟨o,ho⟩=>by
   unfold SL.rd;rw [hH,bU];obtain ⟨w,hw⟩:=jQ ho;rw [hw];rfl
  have hNs:∀l,WA (jw th) (headD d its) l=true->∀r∈l,Si th r=some r/\(((headD d its).c (g s,p.f s) N).rd r).isSome=true:=fun l hl r hr=>by
   have:=List.all_eq_true.1 hl r hr;unfold okN at this;rw [Bool.and_eq_true,Bool.not_eq_true',Bool.not_eq_true'] at this;exact ⟨lC (mX.1 this.1),FZ this.2⟩
  have hpt:∀r∈dR its,(((headD d its).c (g s,p.f s) N).rd r).isSome=true:=fun r hr=>by
   have:=List.all_eq_true.1 b9 r hr;rw [Bool.not_eq_true'] at this;exact FZ this
  have hfz:∀x∈p.fz,rG (Si th) ((headD d its).c (g s,p.f s) N).rd x.1:=fun x hx r' hr' o ho=>by
   have:=List.all_eq_true.1 b6 x hx;unfold Qx at this;rw [Bool.and_eq_true] at this;obtain ⟨f1,f2⟩:=this;by_cases hk:r'∈jw th
   ·obtain ⟨y,hy1,hy2⟩:=zT hk;rw [hy2] at hr';subst hr';have:=List.all_eq_true.1 f1 _ hy1;simp at this
   ·rw [lC hk] at hr';cases hr';rcases (Bool.or_eq_true _ _).mp f2 with h | h
    ·exact (hk (gQ.1 h)).elim
    ·exact FY h ho
  obtain ⟨w1,w2⟩:=Uf (s:=s) (N:=N) (θ:=Si th) (hp2:=((headD d its).c (g s,p.f s) N).rd) its p hp hc hfz (fun x hx=>hHs x.1 ⟨x.2,hx⟩) hpt;obtain ⟨⟨l1,g1⟩,⟨l2,g2⟩⟩:=hg;have hl1:d'.tm.take (d'.tm.length-d.tm.length)=l1:=by rw [g1,List.length_append,Kv,Nat.add_sub_cancel,List.take_left]
  have hl2:d'.hp.take (d'.hp.length-d.hp.length)=l2:=by rw [g2,List.length_append,Eo,Nat.add_sub_cancel,List.take_left]
  rw [hl1] at b1;rw [hl2] at b2;have keptT:∀t w,t∉qm its->look t d.tm=some w->(d'.c s N).get t=w.c (g s):=fun t w ht hw=>by
   unfold SL.get SS.c;simp only [pU,g1,bU];rw [qI (l:=l1) (fun hm => ?_)]
   ·have:look t (nY g d.tm)=some (w.map g):=by
     have:∀l:List (Nat×SV σ),look t (nY g l)=(look t l).map (SV.map g):=by
      intro l
      induction l with
      | nil=>rfl
      | cons x l ih =>
        obtain ⟨k,v⟩:=x;rw [nY,look,look];split
        ·rfl
        ·exact ih
     rw [this,hw];rfl
    simp only [this,Option.map_some,XY]
   ·obtain ⟨x,hx,rfl⟩:=List.mem_map.1 hm;have:=List.all_eq_true.1 b1 x hx;rcases (Bool.or_eq_true _ _).mp this with h | h
    ·exact ht (gQ.1 h)
    ·rw [jO,hw] at h;cases h
  have keptH:∀r w,r∉kV its->look r d.hp=some w->(d'.c s N).rd r=some (w.c (g s)):=fun r w ht hw=>by
   unfold SL.rd SS.c;simp only [lu,g2,bU];rw [qI (l:=l2) (fun hm => ?_)]
   ·have:look r (jP g d.hp)=some (w.map g):=by
     have:∀l:List (Nat×SO σ),look r (jP g l)=(look r l).map (SO.map g):=by
      intro l
      induction l with
      | nil=>rfl
      | cons x l ih =>
        obtain ⟨k,v⟩:=x;rw [jP,look,look];split
        ·rfl
        ·exact ih
     rw [this,hw];rfl
    simp only [this,Option.map_some,Qj]
   ·obtain ⟨x,hx,rfl⟩:=List.mem_map.1 hm;have:=List.all_eq_true.1 b2 x hx;rcases (Bool.or_eq_true _ _).mp this with h | h
    ·exact ht (gQ.1 h)
    ·unfold iJ kS at h;rw [jO,hw] at h;cases h
  have notH:∀r,look r (oz its (p.f s))=none->r∉kV its:=fun r hn hr=>by
   obtain ⟨o,ho⟩:=QE its (p.f s) r hr;exact qx hn o ho
  refine ⟨Si th,fun r hs => ?_,⟨fun r o ho => ?_,fun r' r'' o' o'' r ho' ho'' hm' hm'' ht' ht'' => ?_⟩,fun t v hv => ?_⟩
  ·refine ⟨lC fun hk => ?_,?_⟩
   ·rw [hkd r hk] at hs;cases hs
   ·unfold SL.rd;rw [hH,bU];cases look r (oz its (p.f s)) with
    | some x=>rfl
    | none =>
      simp only [lu];cases hl:look r d.hp with
      | none=>rw [hl] at hs;cases hs
      | some w=>rfl
  ·unfold SL.rd at ho;rw [hH,bU] at ho;cases hl:look r (oz its (p.f s)) with
   | some x =>
     rw [hl] at ho;cases ho;exact w2 _ (bG hl)
   | none =>
     rw [hl] at ho;simp only [lu] at ho;cases hw:look r d.hp with
     | none=>rw [hw] at ho;cases ho
     | some w =>
       rw [hw] at ho;cases ho;have hnc:=notH r hl;obtain ⟨k1,k2⟩:=AP b8 r w hnc hw;exact zQ (lC k1) (keptH r w hnc hw) (fun q hq=>hNs _ k2 q (by rw [QC] at hq;exact hq))
  ·by_cases k1:r'∈jw th
   ·obtain ⟨x,x1,x2⟩:=zT k1;rw [x2] at ht';subst ht';by_cases k2:r''∈jw th
    ·obtain ⟨y,y1,y2⟩:=zT k2;rw [y2] at ht'';subst ht'';exact (mY b5).2 _ _ _ x1 y1
    ·rw [lC k2] at ht'';cases ht'';rcases (mY b5).1 _ _ x1 with h | h
     ·exact (k2 h).elim
     ·rw [FY h ho''] at hm'';cases hm''
   ·rw [lC k1] at ht';cases ht';by_cases k2:r''∈jw th
    ·obtain ⟨y,y1,y2⟩:=zT k2;rw [y2] at ht'';subst ht'';rcases (mY b5).1 _ _ y1 with h | h
     ·exact (k1 h).elim
     ·rw [FY h ho'] at hm';cases hm'
    ·rw [lC k2] at ht'';cases ht'';rfl
  ·rw [hT,bU] at hv;cases hl:look t (lS its (p.f s)) with
   | some x =>
     rw [hl] at hv;cases hv;exact w1 _ (bG hl)
   | none =>
     rw [hl] at hv;simp only [pU] at hv;cases hw:look t d.tm with
     | none=>rw [hw] at hv;cases hv
     | some w =>
       rw [hw] at hv;cases hv;have hnc:t∉qm its:=fun hc=>by
        obtain ⟨v,hv⟩:=QD its (p.f s) t hc;exact qx hl v hv
       rw [keptT t w hnc hw];exact CO _ fun r hr=>hNs _ (AL b7 t w hnc hw) r (by rw [JU] at hr;exact hr)
 ·cases h
theorem CW {N:Nat} {d:SS σ} {its:List IT} {g:τ->σ} {d':SS τ} {p:PK τ (cu its).T} {s:τ} (hg:Grow d g d') (h:Kw d its d'=some p) (hc:allT s p.cs) :
 ∃ θ:Nat->Option Nat,(∀r,(look r d.hp).isSome=true->θ r=some r/\(((headD d its).c (g s,p.f s) N).rd r).isSome=true)/\NH θ (d'.c s N).rd ((headD d its).c (g s,p.f s) N).rd /\
   ∀t v,look t ((headD d its).c (g s,p.f s) N).tm=some v->gy θ (d'.c s N).rd ((headD d its).c (g s,p.f s) N).rd v ((d'.c s N).get t):=by
 unfold Kw at h;split at h
 ·rename_i p' hp;cases h;exact aaI hg hp hc
 ·unfold aiQ at h;exact Ug hg h hc
theorem zV {N:Nat} {hp0:Nat->Option AO} {d:SS σ} {its:List IT} {g:τ->σ} {d':SS τ} {p:PK τ (cu its).T} {s:τ} (hg:Grow d g d') (h:Kw d its d'=some p) (hc:allT s p.cs) (hks:∀r,(hp0 r).isSome=true->(look r d.hp).isSome=true) :
 uH iU N hp0 (d'.c s N).S ((headD d its).c (g s,p.f s) N).S:=by
 obtain ⟨θ,h1,h2,h3⟩:=CW (N:=N) hg h hc;exact WB θ (fun r o ho=>h1 r (hks r (by rw [ho];rfl))) h2 h3
end
section
variable {σ:Type} (ρ:Nat->Nat)
def jH:(c:CS)->(σ->(uC c).T)->SV σ
 | .own r _ u,f => .sl (ρ r) (fJ u) none (fun s=>(f s).length) .unk
 | .pt r off,_ => .ptr (ρ r) off
 | .cl f caps,_ => .clo f (CJ ρ caps)
 | .dat u,f=>adn (.dat u) f
 | .nil,f=>adn .nil f
 | .np,f=>adn .np f
def anA:(c:CS)->(σ->(uC c).T)->List (Nat×SO σ)
 | .own r e u,f=>[(ρ r,.data e u f true)]
 | _,_=>[]
def lD:(cs:List CS)->(σ->(jm cs).T)->List (SV σ)
 | [],_=>[]
 | c::cs,f=>jH ρ c (fun s=>jD (uC c) (jm cs) (f s))::lD cs (fun s=>kM (uC c) (jm cs) (f s))
def mZ:(cs:List CS)->(σ->(jm cs).T)->List (Nat×SO σ)
 | [],_=>[]
 | c::cs,f=>anA ρ c (fun s=>jD (uC c) (jm cs) (f s))++mZ cs (fun s=>kM (uC c) (jm cs) (f s))
def akb:(i:IT)->(σ->(uI i).T)->List (Nat×SV σ)
 | .tmp t true cs,f=>[(t,.agg (lD ρ cs f))]
 | .tmp t false cs,f=>[(t,one1 (lD ρ cs f))]
 | .drop t,_=>[(t,.junk)]
 | _,_=>[]
def F5:(i:IT)->(σ->(uI i).T)->List (Nat×SO σ)
 | .tmp _ _ cs,f=>mZ ρ cs f
 | .mix r cs,f=>(ρ r,.mix (lD ρ cs f))::mZ ρ cs f
 | .row r e u,f=>[(ρ r,.data e u f true)]
 | .arr r u,f=>[(ρ r,.arr u f)]
 | .mp r,f=>[(ρ r,.mp f)]
 | .dead r,_=>[(ρ r,.dead)]
 | _,_=>[]
def Et:(l:List IT)->(σ->(cu l).T)->List (Nat×SV σ)
 | [],_=>[]
 | i::l,f=>akb ρ i (fun s=>jD (uI i) (cu l) (f s))++Et l (fun s=>kM (uI i) (cu l) (f s))
def dA:(l:List IT)->(σ->(cu l).T)->List (Nat×SO σ)
 | [],_=>[]
 | i::l,f=>F5 ρ i (fun s=>jD (uI i) (cu l) (f s))++dA l (fun s=>kM (uI i) (cu l) (f s))
end
section
variable {σ:Type} {s:σ} {ρ:Nat->Nat} {θ':Nat->Option Nat} {hp1 hp2:Nat->Option AO}
theorem Yj:∀(caps:List (Nat×Nat)),(∀r∈caps.map (·.1),θ' (ρ r)=some r/\(hp2 (ρ r)).isSome=true)->jo θ' hp1 hp2 (cL s (CJ ρ caps)) (FU caps)
 | [],_=>by rw [CJ,cL,FU,jo]
 | (r,off)::l,h=>by
   rw [CJ,cL,SV.c,FU,jo];have:=h r (by simp);exact ⟨_,_,rfl,by rw [gy];exact ⟨r,this.1,this.2,rfl⟩,Yj l fun x hx=>h x (by simp at hx ⊢;exact .inr hx)⟩
theorem agm (u:U) (x:(uC (.dat u)).T):gy θ' hp1 hp2 (aC (.dat u) x) (aC (.dat u) x):=CO _ fun r hr=>by cases u<;>simp [aC,dU,dX,AV.refs] at hr
theorem adt:∀(c:CS) (f:σ->(uC c).T),(∀r∈BF [c]++fM [c],θ' (ρ r)=some r/\(hp2 (ρ r)).isSome=true)->gy θ' hp1 hp2 ((jH ρ c f).c s) (aC c (f s))
 | .dat u,f,h=>by rw [jH,nP];exact agm u _
 | .nil,f,h=>by rw [jH,nP];exact CO _ fun r hr=>by simp [aC,AV.refs] at hr
 | .np,f,h=>by rw [jH,nP];exact CO _ fun r hr=>by simp [aC,AV.refs] at hr
 | .own r e u,f,h=>by
   have:=h r (by simp [BF]);rw [jH,agc];show gy θ' hp1 hp2 _ (.sl r 0 (f s).length none);rw [gy];exact ⟨this.2,.inl ⟨r,this.1,rfl⟩⟩
 | .pt r off,f,h=>by
   have:=h r (by simp [BF,fM]);rw [jH,anu];show gy θ' hp1 hp2 _ (.ptr r off);rw [gy];exact ⟨r,this.1,this.2,rfl⟩
 | .cl f caps,_,h=>by
   rw [jH,SV.c];show gy θ' hp1 hp2 _ (.clo f (FU caps));rw [gy];exact ⟨_,rfl,Yj caps fun r hr=>h r (by show r∈[]++(caps.map (·.1)++[]);rw [List.nil_append,List.append_nil];exact hr)⟩
theorem AU (c:CS) (cs:List CS):BF (c::cs)=BF [c]++BF cs:=by cases c<;>rfl
theorem Ib (c:CS) (cs:List CS):fM (c::cs)=fM [c]++fM cs:=by cases c<;>simp [fM]
theorem AX:∀(cs:List CS) (f:σ->(jm cs).T),(∀r∈BF cs++fM cs,θ' (ρ r)=some r/\(hp2 (ρ r)).isSome=true)->jo θ' hp1 hp2 (cL s (lD ρ cs f)) (o7 cs (f s))
 | [],f,h=>by rw [lD,cL,show o7 [] (f s)=[] from rfl,jo]
 | c::cs,f,h=>by
   rw [lD,cL,jo];refine ⟨_,_,rfl,adt c _ fun r hr=>h r ?_,AX cs _ fun r hr=>h r ?_⟩
   ·rw [AU,Ib];rcases List.mem_append.1 hr with g | g
    ·exact List.mem_append_left _ (List.mem_append_left _ g)
    ·exact List.mem_append_right _ (List.mem_append_left _ g)
   ·rw [AU,Ib];rcases List.mem_append.1 hr with g | g
    ·exact List.mem_append_left _ (List.mem_append_right _ g)
    ·exact List.mem_append_right _ (List.mem_append_right _ g)
def ObP (θ':Nat->Option Nat) (hp1 hp2:Nat->Option AO) (ρ:Nat->Nat) (l:List (Nat×AO)) (x:Nat×AO):Prop:=∃r o1,x.1=ρ r/\(r,o1)∈l/\(hp1 r=some o1->θ' (ρ r)=some r->vw θ' hp1 hp2 x.1 x.2)
theorem ObP.mono {l l':List (Nat×AO)} {x:Nat×AO} (h:ObP θ' hp1 hp2 ρ l x) (k:∀y∈l,y∈l'):ObP θ' hp1 hp2 ρ l' x:=by
 obtain ⟨r,o1,h1,h2,h3⟩:=h;exact ⟨r,o1,h1,k _ h2,h3⟩
theorem Uh {r e z:Nat} {cs:List DV}:ObP θ' hp1 hp2 ρ [(r,.data e z cs true)] (ρ r,.data e z cs true) :=
 ⟨r,_,rfl,List.mem_singleton.2 rfl,fun h1 h2=>by unfold vw;simp only [h2];exact ⟨true,cs,h1,.inl rfl,fun _=>rfl,fun h=>by cases h⟩⟩
theorem F6:∀(cs:List CS) (f:σ->(jm cs).T),∀x∈cO s (mZ ρ cs f),ObP θ' hp1 hp2 ρ (Qy cs (f s)) x
 | [],f,x,hx=>by cases hx
 | c::cs,f,x,hx=>by
   rw [mZ,dL] at hx;rcases List.mem_append.1 hx with hx | hx
   ·cases c with
    | own r e u =>
      have hx:x∈[(ρ r,AO.data e (fJ u) (aI u (jD (.list u) (jm cs) (f s))) true)]:=hx;rw [List.mem_singleton] at hx;subst hx;exact (Uh (r:=r)).mono fun y hy=>List.mem_append_left _ hy
    | _=>cases hx
   ·exact (F6 cs _ x hx).mono fun y hy=>List.mem_append_right _ hy
theorem aaJ:∀(i:IT) (f:σ->(uI i).T),(∀r∈aS [i]++dR [i],θ' (ρ r)=some r/\(hp2 (ρ r)).isSome=true)->∀x∈cO s (F5 ρ i f),ObP θ' hp1 hp2 ρ (aH i (f s)) x
 | .tmp t a cs,f,h,x,hx=>F6 cs f x hx
 | .mix r cs,f,h,x,hx=>by
   have hx:x∈(ρ r,AO.mix (cL s (lD ρ cs f)))::cO s (mZ ρ cs f):=hx;rcases List.mem_cons.1 hx with rfl | hx
   ·refine ⟨r,.mix (o7 cs (f s)),rfl,List.mem_cons_self,fun h1 h2 => ?_⟩;unfold vw;simp only [h2];refine ⟨_,h1,AX cs f fun q hq=>h q ?_⟩;rcases List.mem_append.1 hq with g | g
    ·exact List.mem_append_left _ (by show q∈r::(BF cs++[]);simp [g])
    ·exact List.mem_append_right _ (by show q∈fM cs++[];simp [g])
   ·exact (F6 cs f x hx).mono fun y hy=>List.mem_cons_of_mem _ hy
 | .row r e u,f,h,x,hx=>by
   have hx:x∈[(ρ r,AO.data e (fJ u) (aI u (f s)) true)]:=hx;rw [List.mem_singleton] at hx;subst hx;exact Uh
 | .arr r u,f,h,x,hx=>by
   have hx:x∈[(ρ r,AO.mix ((aI u (f s)).map .d))]:=hx;rw [List.mem_singleton] at hx;subst hx;refine ⟨r,_,rfl,List.mem_singleton.2 rfl,fun h1 h2 => ?_⟩;unfold vw;simp only [h2];exact ⟨_,h1,CP _ fun q hq=>(by rw [xw] at hq;cases hq)⟩
 | .mp r,f,h,x,hx=>by
   have hx:x∈[(ρ r,AO.mp (f s))]:=hx;rw [List.mem_singleton] at hx;subst hx;refine ⟨r,_,rfl,List.mem_singleton.2 rfl,fun h1 h2 => ?_⟩;unfold vw;simp only [h2];exact h1
 | .dead r,f,h,x,hx=>by
   have hx:x∈[(ρ r,AO.dead)]:=hx;rw [List.mem_singleton] at hx;subst hx;refine ⟨r,_,rfl,List.mem_singleton.2 rfl,fun h1 h2 => ?_⟩;unfold vw;simp only [h2]
 | .drop t,f,h,x,hx=>by cases hx
theorem vP (i:IT) (l:List IT):aS (i::l)=aS [i]++aS l:=by cases i<;>simp [aS]
theorem Ic (i:IT) (l:List IT):dR (i::l)=dR [i]++dR l:=by cases i<;>simp [dR]
theorem CX:∀(l:List IT) (f:σ->(cu l).T),(∀r∈aS l++dR l,θ' (ρ r)=some r/\(hp2 (ρ r)).isSome=true)->∀x∈cO s (dA ρ l f),ObP θ' hp1 hp2 ρ (oz l (f s)) x
 | [],f,h,x,hx=>by cases hx
 | i::l,f,h,x,hx=>by
   rw [dA,dL] at hx;rw [vP,Ic] at h;have h1:∀r∈aS [i]++dR [i],θ' (ρ r)=some r/\(hp2 (ρ r)).isSome=true:=fun r hr=>h r (by
    rcases List.mem_append.1 hr with g | g
    ·exact List.mem_append_left _ (List.mem_append_left _ g)
    ·exact List.mem_append_right _ (List.mem_append_left _ g))
   have h2:∀r∈aS l++dR l,θ' (ρ r)=some r/\(hp2 (ρ r)).isSome=true:=fun r hr=>h r (by
    rcases List.mem_append.1 hr with g | g
    ·exact List.mem_append_left _ (List.mem_append_right _ g)
    ·exact List.mem_append_right _ (List.mem_append_right _ g))
   rcases List.mem_append.1 hx with hx | hx
   ·exact (aaJ i _ h1 x hx).mono fun y hy=>List.mem_append_left _ hy
   ·exact (CX l _ h2 x hx).mono fun y hy=>List.mem_append_right _ hy
theorem agn {ys xs:List AV} (h:jo θ' hp1 hp2 ys xs):gy θ' hp1 hp2 (og ys) (og xs):=by
 cases ys with
 | nil=>rw [jo] at h;subst h;show gy θ' hp1 hp2 .junk .junk;rw [gy];trivial
 | cons y ys =>
   rw [jo] at h;obtain ⟨x,xs',rfl,h1,h2⟩:=h;cases ys with
   | nil=>rw [jo] at h2;subst h2;exact h1
   | cons z zs=>show gy θ' hp1 hp2 .junk _;rw [gy];trivial
theorem agp {a b a' b':List AV} (h:jo θ' hp1 hp2 a a') (k:jo θ' hp1 hp2 b b'):jo θ' hp1 hp2 (a++b) (a'++b'):=by
 induction a generalizing a' with
 | nil=>rw [jo] at h;subst h;exact k
 | cons y ys ih =>
   rw [jo] at h;obtain ⟨x,xs',rfl,h1,h2⟩:=h;rw [List.cons_append,jo];exact ⟨x,xs'++b',rfl,h1,ih h2⟩
theorem QH {y x:AV} (h:gy θ' hp1 hp2 y x):jo θ' hp1 hp2 [y] [x]:=by rw [jo];exact ⟨x,[],rfl,h,by rw [jo]⟩
theorem agq (l:List (Nat×SV σ)):cL s (l.map (·.2))=(cT s l).map (·.2):=by
 induction l with
 | nil=>rfl
 | cons x l ih=>obtain ⟨t,v⟩:=x;rw [List.map_cons,cL,ih,cT,List.map_cons]
theorem Ky:∀(l:List IT) (f:σ->(cu l).T),(∀r∈aS l++dR l,θ' (ρ r)=some r/\(hp2 (ρ r)).isSome=true)->jo θ' hp1 hp2 ((cT s (Et ρ l f)).map (·.2)) ((lS l (f s)).map (·.2))
 | [],f,h=>by show jo θ' hp1 hp2 [] [];rw [jo]
 | i::l,f,h=>by
   rw [Et,xg,List.map_append];rw [vP,Ic] at h;have h2:∀r∈aS l++dR l,θ' (ρ r)=some r/\(hp2 (ρ r)).isSome=true:=fun r hr=>h r (by
    rcases List.mem_append.1 hr with g | g
    ·exact List.mem_append_left _ (List.mem_append_right _ g)
    ·exact List.mem_append_right _ (List.mem_append_right _ g))
   rw [show lS (i::l) (f s)=aT i (jD (uI i) (cu l) (f s))++lS l (kM (uI i) (cu l) (f s)) from rfl,List.map_append];refine agp ?_ (Ky l _ h2);cases i with
   | tmp t a cs =>
     have hc:∀r∈BF cs++fM cs,θ' (ρ r)=some r/\(hp2 (ρ r)).isSome=true:=fun q hq=>h q (by
      rcases List.mem_append.1 hq with g | g
      ·exact List.mem_append_left _ (List.mem_append_left _ (by show q∈BF cs++[];simp [g]))
      ·exact List.mem_append_right _ (List.mem_append_left _ (by show q∈fM cs++[];simp [g])))
     cases a with
     | true =>
       show jo θ' hp1 hp2 [(SV.agg (lD ρ cs _)).c s] [.agg (o7 cs _)];refine QH ?_;rw [SV.c,gy];exact ⟨_,rfl,AX cs _ hc⟩
     | false =>
       show jo θ' hp1 hp2 [(one1 (lD ρ cs _)).c s] [og (o7 cs _)];refine QH ?_;rw [adp];exact agn (AX cs _ hc)
   | drop t =>
     show jo θ' hp1 hp2 [(SV.junk:SV σ).c s] [.junk];refine QH ?_;rw [SV.c,gy];trivial
   | _=>show jo θ' hp1 hp2 [] [];rw [jo]
end
theorem F7:∀(cs:List CS) (x:(jm cs).T),(Qy cs x).map (·.1)=BF cs
 | [],_=>rfl
 | c::cs,x=>by
   rw [Qy,List.map_append,F7 cs,AU];cases c<;>rfl
theorem adu:∀(i:IT) (x:(uI i).T),(aH i x).map (·.1)=aS [i]
 | .tmp t a cs,x=>(F7 cs x).trans (List.append_nil _).symm
 | .mix r cs,x=>congrArg (fun l=>r::l) ((F7 cs x).trans (List.append_nil _).symm)
 | .row r e u,x=>rfl
 | .arr r u,x=>rfl
 | .mp r,x=>rfl
 | .dead r,x=>rfl
 | .drop t,x=>rfl
theorem lZ:∀(l:List IT) (x:(cu l).T),(oz l x).map (·.1)=aS l
 | [],_=>rfl
 | i::l,x=>by rw [oz,List.map_append,adu,lZ l,<-vP]
theorem yA {σ:Type} (s:σ) (ρ:Nat->Nat):∀(cs:List CS) (f:σ->(jm cs).T),(cO s (mZ ρ cs f)).map (·.1)=(BF cs).map ρ
 | [],_=>rfl
 | c::cs,f=>by
   rw [mZ,dL,List.map_append,yA s ρ cs,AU,List.map_append];cases c<;>rfl
theorem QI {σ:Type} (s:σ) (ρ:Nat->Nat):∀(i:IT) (f:σ->(uI i).T),(cO s (F5 ρ i f)).map (·.1)=(aS [i]).map ρ
 | .tmp t a cs,f=>(yA s ρ cs f).trans (congrArg (List.map ρ) (List.append_nil _).symm)
 | .mix r cs,f=>congrArg (fun l=>ρ r::l) ((yA s ρ cs f).trans (congrArg (List.map ρ) (List.append_nil _).symm))
 | .row r e u,f=>rfl
 | .arr r u,f=>rfl
 | .mp r,f=>rfl
 | .dead r,f=>rfl
 | .drop t,f=>rfl
theorem kN {σ:Type} (s:σ) (ρ:Nat->Nat):∀(l:List IT) (f:σ->(cu l).T),(cO s (dA ρ l f)).map (·.1)=(aS l).map ρ
 | [],_=>rfl
 | i::l,f=>by rw [dA,dL,List.map_append,QI,kN s ρ l,vP i l,List.map_append]
theorem F8:∀ {l:List Nat},nodupB l=true->l.Nodup
 | [],_=>List.nodup_nil
 | r::l,h=>by
   rw [nodupB,Bool.and_eq_true,Bool.not_eq_true'] at h;exact List.nodup_cons.2 ⟨mX.1 h.1,F8 h.2⟩
theorem I8 {α:Type} {k:Nat} {v:α}:∀ {l:List (Nat×α)},(l.map (·.1)).Nodup->(k,v)∈l->look k l=some v
 | (j,w)::l,hn,hm=>by
   rw [List.map_cons,List.nodup_cons] at hn;rw [look];rcases List.mem_cons.1 hm with e | hm
   ·cases e;rw [if_pos rfl]
   ·rw [if_neg (fun e=>hn.1 (by subst e;exact List.mem_map.2 ⟨_,hm,rfl⟩)),I8 hn.2 hm]
theorem qZ {α:Type} {k:Nat} {l:List (Nat×α)} (h:k∈l.map (·.1)):∃v,look k l=some v:=by
 obtain ⟨⟨j,v⟩,h1,rfl⟩:=List.mem_map.1 h;exact jQ h1
theorem Ui:∀ {l:List IT} {x:(cu l).T},Yh l=true->∀y∈oz l x,y.2 ≠ .dead
 | [],_,_,y,hy=>by cases hy
 | i::l,x,h,y,hy=>by
   have hl:Yh l=true:=by cases i<;>first | exact h | cases h
   rw [oz] at hy;rcases List.mem_append.1 hy with hy | hy
   ·have hcs:∀(cs:List CS) (z:(jm cs).T),∀y∈Qy cs z,y.2 ≠ .dead:=fun cs=>by
     induction cs with
     | nil=>intro z y hy;cases hy
     | cons c cs ih =>
       intro z y hy;rw [Qy] at hy;rcases List.mem_append.1 hy with hy | hy
       ·cases c with
        | own r e u =>
          have hy:y∈[(r,AO.data e (fJ u) (aI u (jD (.list u) (jm cs) z)) true)]:=hy;rw [List.mem_singleton] at hy;subst hy;simp
        | _=>cases hy
       ·exact ih _ y hy
    cases i with
    | tmp t a cs=>exact hcs cs _ y hy
    | mix r cs =>
      rcases List.mem_cons.1 hy with rfl | hy
      ·simp
      ·exact hcs cs _ y hy
    | row r e u =>
      have hy:y∈[(r,AO.data e (fJ u) (aI u (jD (uI (.row r e u)) (cu l) x)) true)]:=hy;rw [List.mem_singleton] at hy;subst hy;simp
    | arr r u =>
      have hy:y∈[(r,AO.mix ((aI u (jD (uI (.arr r u)) (cu l) x)).map .d))]:=hy;rw [List.mem_singleton] at hy;subst hy;simp
    | mp r =>
      have hy:y∈[(r,AO.mp (jD (uI (.mp r)) (cu l) x))]:=hy;rw [List.mem_singleton] at hy;subst hy;simp
    | drop t=>cases h
    | dead r=>cases h
   ·exact Ui hl y hy
theorem OU {k r:Nat}:∀ {l:List (Nat×Option Nat)},nO l k=some r->(k,some r)∈l
 | (j,x)::l,h=>by
   rw [nO] at h;split at h
   ·rename_i hd;have:=of_decide_eq_true hd;subst this;subst h;exact List.mem_cons_self
   ·exact List.mem_cons_of_mem _ (OU h)
theorem agr {σ:Type} {s:σ} {ρ:Nat->Nat} {ri ai:List IT} {f1:σ->(cu ri).T} {f2:σ->(cu ai).T} {tbl:List (Nat×Option Nat)} (htb:tbl=(aS ri++aS ai).map fun r=>(ρ r,some r))
 (n1:nodupB (aS ri)=true) (n2:nodupB (aS ai)=true) (hin:∀r∈aS ri++aS ai,nO tbl (ρ r)=some r) (hrf:∀r∈dR ri++dR ai,r∈aS ri++aS ai) :
 (∀r∈aS ri++aS ai,nO tbl (ρ r)=some r/\(aJ (cO s (dA ρ ri f1++dA ρ ai f2)) (ρ r)).isSome=true) /\
 NH (nO tbl) (aJ (oz ri (f1 s)++oz ai (f2 s))) (aJ (cO s (dA ρ ri f1++dA ρ ai f2))):=by
 have hnm:(cO s (dA ρ ri f1++dA ρ ai f2)).map (·.1)=(aS ri++aS ai).map ρ:=by rw [dL,List.map_append,kN,kN,List.map_append]
 have hall:∀r∈aS ri++aS ai,nO tbl (ρ r)=some r/\(aJ (cO s (dA ρ ri f1++dA ρ ai f2)) (ρ r)).isSome=true:=fun r hr=>by
  refine ⟨hin r hr,?_⟩;obtain ⟨v,hv⟩:=qZ (k:=ρ r) (l:=cO s (dA ρ ri f1++dA ρ ai f2)) (by rw [hnm];exact List.mem_map.2 ⟨r,hr,rfl⟩);unfold aJ;rw [hv];rfl
 refine ⟨hall,fun r' o ho => ?_,fun r' r'' o' o'' r h1 h2 h3 h4 h5 h6 => ?_⟩
 ·have hsub:∀(l:List IT),(∀r∈aS l,r∈aS ri++aS ai)->(∀r∈dR l,r∈dR ri++dR ai)->∀r∈aS l++dR l,nO tbl (ρ r)=some r/\(aJ (cO s (dA ρ ri f1++dA ρ ai f2)) (ρ r)).isSome=true:=fun l a b r hr=>by
   rcases List.mem_append.1 hr with g | g
   ·exact hall r (a r g)
   ·exact hall r (hrf r (b r g))
  have ho':=ho;unfold aJ at ho;rw [dL,bU] at ho;cases hl:look r' (cO s (dA ρ ri f1)) with
  | some o1 =>
    rw [hl] at ho;cases ho;obtain ⟨r,o2,e1,e2,e3⟩:=CX (hp1:=aJ (oz ri (f1 s)++oz ai (f2 s))) ri f1 (hsub ri (fun r hr=>List.mem_append_left _ hr) (fun r hr=>List.mem_append_left _ hr)) _ (bG hl);have hr:r∈aS ri:=by rw [<-lZ ri (f1 s)];exact List.mem_map.2 ⟨_,e2,rfl⟩
    refine e3 ?_ (hin r (List.mem_append_left _ hr));unfold aJ;rw [bU,I8 (by rw [lZ];exact F8 n1) e2]
  | none =>
    rw [hl] at ho;obtain ⟨r,o2,e1,e2,e3⟩:=CX (hp1:=aJ (oz ri (f1 s)++oz ai (f2 s))) ai f2 (hsub ai (fun r hr=>List.mem_append_right _ hr) (fun r hr=>List.mem_append_right _ hr)) _ (bG ho);have hr:r∈aS ai:=by rw [<-lZ ai (f2 s)];exact List.mem_map.2 ⟨_,e2,rfl⟩
    refine e3 ?_ (hin r (List.mem_append_right _ hr));unfold aJ;rw [bU];have hno:look r (oz ri (f1 s))=none:=by
     cases hq:look r (oz ri (f1 s)) with
     | none=>rfl
     | some w =>
       exfalso;have hr2:r∈aS ri:=by rw [<-lZ ri (f1 s)];exact List.mem_map.2 ⟨_,bG hq,rfl⟩
       obtain ⟨v,hv⟩:=qZ (k:=r') (l:=cO s (dA ρ ri f1)) (by rw [kN];exact List.mem_map.2 ⟨r,hr2,e1.symm⟩);rw [hl] at hv;cases hv
    rw [hno];exact I8 (by rw [lZ];exact F8 n2) e2
 ·have key:∀q,nO tbl q=some r->q=ρ r:=fun q hq=>by
   have:=OU hq;rw [htb] at this;obtain ⟨z,_,e⟩:=List.mem_map.1 this;simp only [Prod.mk.injEq,Option.some.injEq] at e;rw [<-e.1,e.2]
  rw [key r' h5,key r'' h6]
section
variable {σ:Type}
def aiR:CS->SV σ->Bool
 | .dat (.int _),.int _ _=>true
 | .dat (.int _),.val _=>true
 | .dat .bool,.bool _=>true
 | .dat .bool,.val _=>true
 | .dat .str,.str _=>true
 | .dat .str,.val _=>true
 | .dat (.list _),.lst _ _=>true
 | .own r _ _,.sl _ _ _ _ _ => !zU r
 | .nil,_=>true
 | .np,_=>true
 | .pt _ _,_=>true
 | .cl _ _,_=>true
 | _,_=>false
def F9:List CS->List (SV σ)->Bool
 | [],_=>true
 | c::cs,v::vs=>aiR c v&&F9 cs vs
 | _,_=>false
def zW:List CS->List (SV σ)->List Nat
 | .own r _ _::cs,v::vs=>match v with
   | .sl _ _ _ _ _=>match zU r with
     | true=>r::zW cs vs
     | false=>zW cs vs
   | _=>r::zW cs vs
 | _::cs,_::vs=>zW cs vs
 | _,_=>[]
def Yk (θ:Nat->Option Nat) (d:SS σ):IT->List Nat
 | .tmp t agg cs=>match jF t d.tm with
   | none=>[]
   | some v=>match agg with
     | false=>zW cs [v]
     | true=>match v with | .agg vs=>zW cs vs | _=>[]
 | .mix r cs=>match θ r with
   | some r1=>match kS d r1 with
     | some (.mix vs)=>match F9 cs vs with
       | true=>zW cs vs
       | false=>r::zW cs vs
     | _=>[]
   | none=>[]
 | _=>[]
def OV (θ:Nat->Option Nat) (d:SS σ):List IT->List Nat
 | []=>[]
 | i::l=>Yk θ d i++OV θ d l
end
section
variable {σ:Type} {s:σ} {θ:Nat->Option Nat} {rd:Nat->Option (SO σ)} {ρ:Nat->Nat}
theorem OW (hρ:∀r x,θ r=some x->ρ r=x):∀(caps:List (Nat×Nat)) (vs:List (SV σ)),Kr θ caps vs=true->cL s (CJ ρ caps)=cL s vs
 | [],[],_=>rfl
 | (r,off)::l,.ptr r1 off1::vs,h=>by
   rw [Kr,Bool.and_eq_true,Bool.and_eq_true] at h;obtain ⟨⟨h1,h2⟩,h3⟩:=h;obtain rfl:=of_decide_eq_true h2;rw [CJ,cL,cL,OW hρ l vs h3,SV.c,SV.c,hρ r r1 (zS h1)]
 | [],_::_,h=>by cases h
 | (r,off)::l,[],h=>by cases h
 | (r,off)::l,.val _::vs,h=>by cases h
 | (r,off)::l,.int _ _::vs,h=>by cases h
 | (r,off)::l,.bool _::vs,h=>by cases h
 | (r,off)::l,.str _::vs,h=>by cases h
 | (r,off)::l,.lst _ _::vs,h=>by cases h
 | (r,off)::l,.ptx _ _ _ _::vs,h=>by cases h
 | (r,off)::l,.sl _ _ _ _ _::vs,h=>by cases h
 | (r,off)::l,.dpt _ _ _ _::vs,h=>by cases h
 | (r,off)::l,.agg _::vs,h=>by cases h
 | (r,off)::l,.tup _::vs,h=>by cases h
 | (r,off)::l,.clo _ _::vs,h=>by cases h
 | (r,off)::l,.undef::vs,h=>by cases h
 | (r,off)::l,.junk::vs,h=>by cases h
theorem aaK (hρ:∀r x,θ r=some x->ρ r=x):∀(c:CS) (v:SV σ) (p:PK σ (uC c).T),BH θ rd c v=some p->allT s p.cs->aiR c v=true->(jH ρ c p.f).c s=v.c s
 | .dat (.int k),v,p,hp,hc,hv=>by
   rw [jH,nP];simp only [BH,Qw,ado,II] at hp;split at hp
   ·rename_i k' f hf;split at hp
    ·rename_i hk _;obtain ⟨hk⟩:=hk;subst hk;cases hp;exact (nZ hf s).symm
    ·cases hp
   ·cases hp
 | .dat .bool,v,p,hp,hc,hv=>by
   rw [jH,nP];simp only [BH,Qw,ado,II] at hp;split at hp
   ·rename_i f hf;cases hp;exact (zK hf s).symm
   ·cases hp
 | .dat .str,v,p,hp,hc,hv=>by
   rw [jH,nP];simp only [BH,Qw,ado,II] at hp;split at hp
   ·rename_i f hf;cases hp;exact (sU hf s).symm
   ·cases hp
 | .dat (.list t),v,p,hp,hc,hv=>by
   rw [jH,nP];cases v with
   | lst u f =>
     simp only [BH,Qw,ado,II,pkL] at hp;split at hp
     ·rename_i hk _;subst hk;cases hp;rw [SV.c];rfl
     ·cases hp
   | _=>cases hv
 | .dat (.pair a b),v,p,hp,hc,hv=>by cases v<;>cases hv
 | .dat .unit,v,p,hp,hc,hv=>by cases v<;>cases hv
 | .own r e u,v,p,hp,hc,hv=>by
   simp only [BH] at hp;split at hp
   ·cases hv
   ·rename_i r1 z n;split at hp
    ·rename_i h1;have h1:=zS h1;split at hp
     ·rename_i e' u' f hr;split at hp
      ·rename_i hk _ hd;subst hk;obtain ⟨rfl,hz⟩:=of_decide_eq_true hd;have hv:(!zU r)=true:=hv;split at hp
       ·rename_i hsh;rw [hsh] at hv;cases hv
       cases hp;have hn:n s=(f s).length:=of_decide_eq_true hc.1;rw [jH,SV.c,SV.c,hρ r r1 h1,hz];show AV.sl r1 (wu s none*fJ u') (f s).length (rU s (f s).length Cp.unk)=_;rw [hn]
      ·cases hp
     ·cases hp
    ·cases hp
   ·cases hp
 | .nil,v,p,hp,hc,hv=>by
   rw [jH,nP];simp only [BH,Qw] at hp;split at hp
   ·rw [SV.c];rfl
   ·cases hp
 | .np,v,p,hp,hc,hv=>by
   rw [jH,nP];simp only [BH,Qw] at hp;split at hp
   ·rw [SV.c];rfl
   ·cases hp
 | .pt r off,v,p,hp,hc,hv=>by
   simp only [BH] at hp;split at hp
   ·rename_i r1 off1;split at hp
    ·rename_i hd;rw [Bool.and_eq_true] at hd;obtain rfl:=of_decide_eq_true hd.2;rw [jH,SV.c,SV.c,hρ r r1 (zS hd.1)]
    ·cases hp
   ·cases hp
 | .cl f caps,v,p,hp,hc,hv=>by
   simp only [BH] at hp;split at hp
   ·rename_i f' vs;split at hp
    ·rename_i hd;rw [Bool.and_eq_true] at hd;obtain rfl:=of_decide_eq_true hd.1;rw [jH,SV.c,SV.c,OW hρ caps vs hd.2]
    ·cases hp
   ·cases hp
theorem yB (hρ:∀r x,θ r=some x->ρ r=x):∀(cs:List CS) (vs:List (SV σ)) (p:PK σ (jm cs).T),Ia θ rd cs vs=some p->allT s p.cs ->
 (F9 cs vs=true->cL s (lD ρ cs p.f)=cL s vs)/\∀x∈cO s (mZ ρ cs p.f),x.1∈(zW cs vs).map ρ\/iI s rd x.1=some x.2
 | [],[],p,hp,hc=>⟨fun _=>rfl,fun x hx=>by cases hx⟩
 | c::cs,v::vs,p,hp,hc=>by
   rw [Ia] at hp;split at hp
   ·rename_i x y hx hy;cases hp;rw [bW] at hc;obtain ⟨b1,b2⟩:=yB hρ cs vs y hy hc.2;have e1:(fun s=>jD (uC c) (jm cs) (wM (uC c) (jm cs) (x.f s) (y.f s)))=x.f:=by funext s;exact jT _ _ _ _
    have e2:(fun s=>kM (uC c) (jm cs) (wM (uC c) (jm cs) (x.f s) (y.f s)))=y.f:=by funext s;exact kT _ _ _ _
    refine ⟨fun hs => ?_,fun z hz => ?_⟩
    ·rw [F9,Bool.and_eq_true] at hs;rw [lD,cL,cL];simp only [e1,e2];rw [aaK hρ c v x hx hc.1 hs.1,b1 hs.2]
    ·rw [mZ,dL] at hz;simp only [e1,e2] at hz;rcases List.mem_append.1 hz with hz | hz
     ·cases c with
      | own r e u =>
        have hz:z∈[(ρ r,AO.data e (fJ u) (aI u (x.f s)) true)]:=hz;rw [List.mem_singleton] at hz;subst hz;simp only [BH] at hx;split at hx
        ·left;show ρ r∈(r::zW cs vs).map ρ;exact List.mem_map.2 ⟨r,List.mem_cons_self,rfl⟩
        ·rename_i r1 z n;split at hx
         ·rename_i h1;have h1:=zS h1;split at hx
          ·rename_i e' u' f hr;split at hx
           ·rename_i hk _ hd;subst hk;obtain ⟨rfl,hz⟩:=of_decide_eq_true hd;split at hx
            ·rename_i hsh;left;show ρ r∈(match zU r with | true=>r::zW cs vs | false=>zW cs vs).map ρ;rw [hsh];exact List.mem_map.2 ⟨r,List.mem_cons_self,rfl⟩
            cases hx;right;rw [hρ r r1 h1];simp only [iI,hr,Option.map_some,SO.c];rfl
           ·cases hx
          ·cases hx
         ·cases hx
        ·cases hx
      | _=>cases hz
     ·rcases b2 z hz with h | h
      ·left;obtain ⟨q,q1,q2⟩:=List.mem_map.1 h;refine List.mem_map.2 ⟨q,?_,q2⟩;cases c with
       | own r e u =>
         show q∈(match v with | .sl _ _ _ _ _=>(match zU r with | true=>r::zW cs vs | false=>zW cs vs) | _=>r::zW cs vs);cases v with
         | sl _ _ _ _ _ =>
           show q∈(match zU r with | true=>r::zW cs vs | false=>zW cs vs);cases zU r with
           | true=>exact List.mem_cons_of_mem _ q1
           | false=>exact q1
         | _=>exact List.mem_cons_of_mem _ q1
       | _=>exact q1
      ·exact .inr h
   ·cases hp
 | [],_::_,p,hp,_=>by cases hp
 | _::_,[],p,hp,_=>by cases hp
theorem aaL {d:SS σ} (hρ:∀r x,θ r=some x->ρ r=x):∀(i:IT) (p:PK σ (uI i).T),Ep θ d i=some p->allT s p.cs ->
 ∀x∈cO s (F5 ρ i p.f),x.1∈(Yk θ d i).map ρ\/iI s (kS d) x.1=some x.2
 | .tmp t agg cs,p,hp,hc,x,hx=>by
   simp only [Ep] at hp;simp only [Yk];cases hv:jF t d.tm with
   | none=>simp only [hv] at hp;cases hp
   | some v =>
     simp only [hv] at hp;cases agg with
     | false=>exact (yB hρ cs [v] p hp hc).2 x hx
     | true =>
       simp only at hp;cases v with
       | agg vs=>exact (yB hρ cs vs p hp hc).2 x hx
       | _=>cases hp
 | .mix r cs,p,hp,hc,x,hx=>by
   simp only [Ep] at hp;simp only [Yk];cases hr:θ r with
   | none=>simp only [hr] at hp;cases hp
   | some r1 =>
     simp only [hr] at hp;cases hvs:kS d r1 with
     | none=>simp only [hvs] at hp;cases hp
     | some o =>
       cases o with
       | mix vs =>
         simp only [hvs] at hp;simp only [hvs];obtain ⟨a,b⟩:=yB hρ cs vs p hp hc;have hx:x∈(ρ r,AO.mix (cL s (lD ρ cs p.f)))::cO s (mZ ρ cs p.f):=hx;rcases List.mem_cons.1 hx with rfl | hx
         ·cases hs:F9 cs vs with
          | true =>
            right;show iI s (kS d) (ρ r)=_;rw [hρ r r1 hr,a hs];simp only [iI,hvs,Option.map_some,SO.c]
          | false=>left;exact List.mem_map.2 ⟨r,List.mem_cons_self,rfl⟩
         ·rcases b x hx with h | h
          ·left;obtain ⟨q,q1,q2⟩:=List.mem_map.1 h;refine List.mem_map.2 ⟨q,?_,q2⟩;cases F9 cs vs with
           | true=>exact q1
           | false=>exact List.mem_cons_of_mem _ q1
          ·exact .inr h
       | data e u f wr=>simp only [hvs] at hp;cases hp
       | arr u f=>simp only [hvs] at hp;cases hp
       | mp f=>simp only [hvs] at hp;cases hp
       | dead=>simp only [hvs] at hp;cases hp
 | .row r e u,p,hp,hc,x,hx=>by
   simp only [Ep] at hp;cases hr1:θ r with
   | none=>simp only [hr1] at hp;cases hp
   | some r1 =>
     simp only [hr1] at hp;split at hp
     ·rename_i e' u' f hr;split at hp
      ·rename_i hk _ hd;subst hk;have hd:=of_decide_eq_true hd;subst hd;cases hp;have hx:x∈[(ρ r,AO.data e' (fJ u') (aI u' (f s)) true)]:=hx;rw [List.mem_singleton] at hx;subst hx;right;rw [hρ r r1 hr1];simp only [iI,hr,Option.map_some,SO.c]
      ·cases hp
     ·cases hp
 | .arr r u,p,hp,hc,x,hx=>by
   simp only [Ep] at hp;cases hr1:θ r with
   | none=>simp only [hr1] at hp;cases hp
   | some r1 =>
     simp only [hr1] at hp;split at hp
     ·rename_i u' f hr;split at hp
      ·rename_i hk _;subst hk;cases hp;have hx:x∈[(ρ r,AO.mix ((aI u' (f s)).map .d))]:=hx;rw [List.mem_singleton] at hx;subst hx;right;rw [hρ r r1 hr1];simp only [iI,hr,Option.map_some,SO.c]
      ·cases hp
     ·cases hp
 | .mp r,p,hp,hc,x,hx=>by
   simp only [Ep] at hp;cases hr1:θ r with
   | none=>simp only [hr1] at hp;cases hp
   | some r1 =>
     simp only [hr1] at hp;split at hp
     ·rename_i f hr;cases hp;have hx:x∈[(ρ r,AO.mp (f s))]:=hx;rw [List.mem_singleton] at hx;subst hx;right;rw [hρ r r1 hr1];simp only [iI,hr,Option.map_some,SO.c]
     ·cases hp
 | .drop t,p,hp,hc,x,hx=>by cases hp
 | .dead r,p,hp,hc,x,hx=>by cases hp
theorem Kz {d:SS σ} (hρ:∀r x,θ r=some x->ρ r=x):∀(l:List IT) (p:PK σ (cu l).T),OT θ d l=some p->allT s p.cs ->
 ∀x∈cO s (dA ρ l p.f),x.1∈(OV θ d l).map ρ\/iI s (kS d) x.1=some x.2
 | [],p,hp,hc,x,hx=>by cases hx
 | i::l,p,hp,hc,x,hx=>by
   rw [OT] at hp;split at hp
   ·rename_i x' y hx' hy;cases hp;rw [bW] at hc;have e1:(fun s=>jD (uI i) (cu l) (wM (uI i) (cu l) (x'.f s) (y.f s)))=x'.f:=by funext s;exact jT _ _ _ _
    have e2:(fun s=>kM (uI i) (cu l) (wM (uI i) (cu l) (x'.f s) (y.f s)))=y.f:=by funext s;exact kT _ _ _ _
    rw [dA,dL] at hx;simp only [e1,e2] at hx;rw [OV,List.map_append];rcases List.mem_append.1 hx with hx | hx
    ·rcases aaL hρ i x' hx' hc.1 x hx with h | h
     ·exact .inl (List.mem_append_left _ h)
     ·exact .inr h
    ·rcases Kz hρ l y hy hc.2 x hx with h | h
     ·exact .inl (List.mem_append_right _ h)
     ·exact .inr h
   ·cases hp
end
section
variable {σ τ:Type} {s1:σ} {s2:τ} {ρ:Nat->Nat}
theorem adv:∀(c:CS) (f:σ->(uC c).T) (g:τ->(uC c).T),f s1=g s2->(jH ρ c f).c s1=(jH ρ c g).c s2
 | .own r e u,f,g,h=>by rw [jH,jH,agc,agc,h]
 | .pt r off,f,g,h=>by rw [jH,jH,SV.c,SV.c]
 | .cl f caps,_,_,h=>by
   have e:∀l:List (Nat×Nat),cL s1 (CJ ρ l)=cL s2 (CJ ρ l):=fun l=>by
    induction l with
    | nil=>rfl
    | cons x l ih=>obtain ⟨r,off⟩:=x;rw [CJ,CJ,cL,cL,SV.c,SV.c,ih]
   rw [jH,jH,SV.c,SV.c,e]
 | .dat u,f,g,h=>by rw [jH,jH,nP,nP,h]
 | .nil,f,g,h=>by rw [jH,jH,nP,nP,h]
 | .np,f,g,h=>by rw [jH,jH,nP,nP,h]
theorem OX:∀(cs:List CS) (f:σ->(jm cs).T) (g:τ->(jm cs).T),f s1=g s2->cL s1 (lD ρ cs f)=cL s2 (lD ρ cs g)
 | [],f,g,h=>rfl
 | c::cs,f,g,h=>by
   rw [lD,lD,cL,cL];rw [adv c (fun s=>jD (uC c) (jm cs) (f s)) (fun s=>jD (uC c) (jm cs) (g s)) (congrArg (jD (uC c) (jm cs)) h),OX cs (fun s=>kM (uC c) (jm cs) (f s)) (fun s=>kM (uC c) (jm cs) (g s)) (congrArg (kM (uC c) (jm cs)) h)]
theorem Gf:∀(cs:List CS) (f:σ->(jm cs).T) (g:τ->(jm cs).T),f s1=g s2->cO s1 (mZ ρ cs f)=cO s2 (mZ ρ cs g)
 | [],f,g,h=>rfl
 | c::cs,f,g,h=>by
   rw [mZ,mZ,dL,dL,Gf cs (fun s=>kM (uC c) (jm cs) (f s)) (fun s=>kM (uC c) (jm cs) (g s)) (congrArg (kM (uC c) (jm cs)) h)];congr 1;cases c with
   | own r e u =>
     show [(ρ r,AO.data e (fJ u) (aI u (jD (.list u) (jm cs) (f s1))) true)]=[(ρ r,AO.data e (fJ u) (aI u (jD (.list u) (jm cs) (g s2))) true)]
     rw [h]
   | _=>rfl
theorem aaM:∀(i:IT) (f:σ->(uI i).T) (g:τ->(uI i).T),f s1=g s2->cO s1 (F5 ρ i f)=cO s2 (F5 ρ i g)
 | .tmp t a cs,f,g,h=>Gf cs f g h
 | .mix r cs,f,g,h=>by
   show (ρ r,AO.mix (cL s1 (lD ρ cs f)))::cO s1 (mZ ρ cs f)=(ρ r,AO.mix (cL s2 (lD ρ cs g)))::cO s2 (mZ ρ cs g);rw [OX cs f g h,Gf cs f g h]
 | .row r e u,f,g,h=>by
   show [(ρ r,AO.data e (fJ u) (aI u (f s1)) true)]=[(ρ r,AO.data e (fJ u) (aI u (g s2)) true)]
   rw [h]
 | .arr r u,f,g,h=>by
   show [(ρ r,AO.mix ((aI u (f s1)).map .d))]=[(ρ r,AO.mix ((aI u (g s2)).map .d))]
   rw [h]
 | .mp r,f,g,h=>by
   show [(ρ r,AO.mp (f s1))]=[(ρ r,AO.mp (g s2))]
   rw [h]
 | .drop t,f,g,h=>rfl
 | .dead r,f,g,h=>rfl
theorem KA:∀(l:List IT) (f:σ->(cu l).T) (g:τ->(cu l).T),f s1=g s2->cO s1 (dA ρ l f)=cO s2 (dA ρ l g)
 | [],f,g,h=>rfl
 | i::l,f,g,h=>by
   rw [dA,dA,dL,dL,aaM i (fun s=>jD (uI i) (cu l) (f s)) (fun s=>jD (uI i) (cu l) (g s)) (congrArg (jD (uI i) (cu l)) h),KA l (fun s=>kM (uI i) (cu l) (f s)) (fun s=>kM (uI i) (cu l) (g s)) (congrArg (kM (uI i) (cu l)) h)]
end
section
variable {σ τ:Type}
def aiS:List (SV σ)->Option (List (Nat×Nat))
 | []=>some []
 | .ptr r off::l=>match aiS l with | some c=>some ((r,off)::c) | none=>none
 | _=>none
mutual
def viV (rd:Nat->Option (SO σ)):SV σ->VI
 | .val (.int k _) => .u (.int k)
 | .val (.bool _) => .u .bool
 | .val (.string _) => .u .str
 | .val (.slice none 0 0) => .nil
 | .val (.pointer none) => .np
 | .int k _ => .u (.int k)
 | .bool _ => .u .bool
 | .str _ => .u .str
 | .lst t _ => .u (.list t)
 | .ptr r off => .pt r off
 | .clo f cs=>match aiS cs with | some caps => .cl f caps | none => .junk
 | .sl r z none n .unk=>match rd r with
   | some (.data e u _ true) => .own r e u
   | some (.data _ u _ _) => .u (.list u)
   | _ => .junk
 | .sl r _ _ _ _=>match rd r with
   | some (.data _ u _ _) => .u (.list u)
   | _ => .junk
 | .agg cs => .agg (viL rd cs)
 | _ => .junk
def viL (rd:Nat->Option (SO σ)):List (SV σ)->List VI
 | []=>[]
 | x::l=>viV rd x::viL rd l
end
def oiO (rd:Nat->Option (SO σ)):SO σ->OI
 | .data e u _ wr => .row e u wr
 | .arr u _ => .arr u
 | .mp _ => .mp
 | .mix cs => .mix (viL rd cs)
 | .dead => .dead
def viT (rd:Nat->Option (SO σ)) (l:List (Nat×SV σ)):List (Nat×VI):=l.map fun x=>(x.1,viV rd x.2)
def viO (rd:Nat->Option (SO σ)) (l:List (Nat×SO σ)):List (Nat×OI):=l.map fun x=>(x.1,oiO rd x.2)
def yR {β:Type} (p kind:Nat) (d:SS σ) (d':SS τ):TR β τ :=
 .note ⟨p,kind,viT (kS d') (d'.tm.take (d'.tm.length-d.tm.length)),viO (kS d') (d'.hp.take (d'.hp.length-d.hp.length)),viT (kS d) d.tm,viO (kS d) d.hp⟩
def akd:List IT->Bool
 | []=>false
 | .drop t::l=>decide (t=88888888)||akd l
 | _::l=>akd l
def ags (d:SS τ):List IT->Bool
 | []=>false
 | .tmp t _ _::l=>(match jF t d.tm with | some (.val (.pointer none))=>true | _=>false)||ags d l
 | _::l=>ags d l
def Gg {β:Type} (p kind:Nat) (d:SS σ) (its:List IT) (d':SS τ):TR ((cu its).T ⊕ β) τ :=
 match Kw d its d' with
 | some x=>Ec x.cs (.ret fun s => .inl (x.f s))
 | none=>match akd its&&ags d' its with
   | true => .fail "cut"
   | false=>yR p kind d d'
def CY (rd:Nat->Option (SO σ)):Nat->List Nat->List Nat->List Nat
 | 0,_,seen=>seen
 | _+1,[],seen=>seen
 | n+1,r::work,seen=>match kL r seen with
   | true=>CY rd n work seen
   | false=>match rd r with
     | some o=>CY rd n (Kt o++work) (r::seen)
     | none=>CY rd n work seen
def wE (rd:Nat->Option (SO σ)):List Nat->List (Nat×SO σ)
 | []=>[]
 | r::l=>match rd r with
   | some o=>(r,o)::wE rd l
   | none=>wE rd l
def AY (os:List (Nat×SO σ)) (rs:List Nat):Bool:=rs.all fun r=>kL r (bK os)
def Eu (os:List (Nat×SO σ)):Bool:=os.all fun x=>AY os (Kt x.2)
def Yl (T:Ty) (d:SS σ):ResultVar->Option (SV σ)
 | .tmp t=>some (match jF t d.tm with | some x=>x | none => .junk)
 | .cell a t=>match T t,jF a d.tm with
   | some i,some (.ptr r off)=>match kS d r with
     | some (.mix cs)=>D8 i cs off
     | _=>none
   | _,_=>none
def Ie (T:Ty) (d:SS σ):List ResultVar->Option (List (SV σ))
 | []=>some []
 | r::l=>match Yl T d r,Ie T d l with
   | some x,some xs=>some (x::xs)
   | _,_=>none
def pV (xs:List (SV σ)):SV σ:=match xs with | [x]=>x | xs => .tup xs
def rV:Nat->List (SV σ)->List (Nat×SV σ)
 | _,[]=>[]
 | i,x::xs=>(i,x)::rV (i+1) xs
end
inductive PL where
 | carry (its:List IT) | unroll | once | stop
structure CE where
 ai:List IT
 ri:List IT
 F:(cu ai).T->Option (cu ri).T
def IL:List CS->Bool
 | []=>true
 | .dat _::l=>IL l
 | _=>false
def jq:List IT->Bool
 | []=>true
 | .tmp _ _ cs::l=>IL cs&&jq l
 | _=>false
def OY:List CS->Bool
 | []=>true
 | .dat (.int _)::l=>OY l
 | .dat .bool::l=>OY l
 | .dat .str::l=>OY l
 | _=>false
def OZ:List IT->Bool
 | []=>true
 | .tmp _ true cs::l=>OY cs&&OZ l
 | .tmp _ false cs::l=>(OY cs&&decide (cs.length=1))&&OZ l
 | _=>false
section
variable {σ:Type}
def pW (rd:Nat->Option (SO σ)):(ai:List IT)->List (SV σ)->Option (PK σ (cu ai).T)
 | [],[]=>some ⟨fun _=>(),[],[]⟩
 | .tmp _ false cs::l,v::vs=>match IK rd cs [v],pW rd l vs with
   | some x,some y=>some ⟨fun s=>wM (jm cs) (cu l) (x.f s) (y.f s),x.cs++y.cs,x.fz++y.fz⟩
   | _,_=>none
 | .tmp _ true cs::l,v::vs=>match v with
   | .agg ws=>match IK rd cs ws,pW rd l vs with
     | some x,some y=>some ⟨fun s=>wM (jm cs) (cu l) (x.f s) (y.f s),x.cs++y.cs,x.fz++y.fz⟩
     | _,_=>none
   | _=>none
 | _,_=>none
def Ym (its:List IT) (f:σ->(cu its).T):SV σ:=pV ((oI its f).map (·.2))
def Yn (n:Nat) (d:SS σ):SV σ:=pV ((List.range n).map fun j=>match jF j d.tm with | some v=>v | none => .junk)
def ake {β:Type} (E:CE) (args:List (SV σ)) (d:SS σ) (F:Nat) (K:(τ:Type)->(τ->σ)->SV τ->List (Nat×SO τ)->List Nat->Nat->TR β τ):TR β σ :=
 match E with
 | ⟨ai,[.tmp _ false [.own _ e u]],G⟩=>match pW (kS d) ai args with
   | none => .fail "contract: arguments"
   | some pa=>match jq ai&&iJ (kS d) F with
     | false => .fail "contract: shape"
     | true=>Ec pa.cs (.bnd (α:=List u.T) (fun s=>G (pa.f s)) (K (σ×List u.T) Prod.fst (.sl F (fJ u) none (fun t=>t.2.length) .unk) ((F,.data e u (fun t=>t.2) true)::jP Prod.fst pa.fz) (F::bK pa.fz) (F+1)))
 | E=>match pW (kS d) E.ai args with
 | none => .fail "contract: arguments"
 | some pa=>match jq E.ai&&jq E.ri with
   | false => .fail "contract: shape"
   | true=>match OZ E.ri with
     | true=>Ec pa.cs (.bnd (fun s=>E.F (pa.f s)) (K (σ×(cu E.ri).T) Prod.fst (Ym E.ri Prod.snd) [] (bK pa.fz) F))
     | false=>Ec pa.cs (.bnd (fun s=>E.F (pa.f s)) (K (σ×(cu E.ri).T) Prod.fst (Ym E.ri Prod.snd) (jP Prod.fst pa.fz) (bK pa.fz) F))
def ap4:List IT->Bool
 | [.tmp _ false [.own _ _ _]]=>true
 | _=>false
def WE (E:CE):Bool:=jq E.ai&&(jq E.ri||ap4 E.ri)
def anB (r:Nat):List Nat->Nat
 | []=>0
 | k::l=>match decide (k=r) with | true=>0 | false=>anB r l+1
def KC (θ:Nat->Option Nat):List Nat->List Nat
 | []=>[]
 | r::l=>match θ r with | some x=>x::KC θ l | none=>KC θ l
def O1 (θ:Nat->Option Nat):List Nat->List Nat
 | []=>[]
 | r::l=>match θ r with | some _=>O1 θ l | none=>match kL r (O1 θ l) with | true=>O1 θ l | false=>r::O1 θ l
def Uj (ρ:Nat->Nat):List Nat->List (Nat×Option Nat)
 | []=>[]
 | r::l=>(ρ r,some r)::Uj ρ l
def isNat:Nat->List Nat->Bool
 | _,[]=>true
 | i,k::l=>decide (k=i)&&isNat (i+1) l
def akf (θ:Nat->Option Nat) (F:Nat) (fr:List Nat) (r:Nat):Nat:=match θ r with | some x=>x | none=>F+anB r fr
def anC (E:CE) (args:List (SV σ)) (d:SS σ) (os:List (Nat×SO σ)) (ρ:Nat->Nat) (θ':Nat->Option Nat) (θ:Nat->Option Nat):Bool :=
 ((Yh E.ai&&(isNat 0 (qm E.ai)&&decide ((qm E.ai).length=args.length)))&&(nodupB (aS E.ri)&&nodupB (aS E.ai))) &&
 (((aS E.ri++aS E.ai).all (fun r=>eqN (θ' (ρ r)) (some r))&&((dR E.ri).all (fun r=>kL r (aS E.ri++aS E.ai))&&(dR E.ai).all (fun r=>kL r (aS E.ai)))) &&
  (((aS E.ri++aS E.ai).all (fun r=>iJ (kS d) (ρ r)||kL (ρ r) (bK os))&&(bK os).all (fun x=>kL x (KC θ (aS E.ai)))) &&
   (Eu os&&AY os (sV args))))
def adw {β:Type} (E:CE) (args:List (SV σ)) (d:SS σ) (F:Nat) (K:(τ:Type)->(τ->σ)->SV τ->List (Nat×SO τ)->List Nat->Nat->TR β τ) (θ:Nat->Option Nat) (fr:List Nat) (ρ:Nat->Nat) (os:List (Nat×SO σ)):TR β σ :=
 match OT θ (⟨rV 0 args,os⟩:SS σ) E.ai with
 | none => .fail "contract: state"
 | some pa=>match pa.fz with
   | _::_ => .fail "contract: freezes"
   | []=>match anC E args d os ρ (nO (Uj ρ (aS E.ri++aS E.ai))) θ with
     | false => .fail "contract: names"
     | true=>Ec pa.cs (.bnd (fun s=>E.F (pa.f s)) (K (σ×(cu E.ri).T) Prod.fst (pV ((Et ρ E.ri Prod.snd).map (·.2))) (dA ρ E.ri Prod.snd++(dA ρ E.ai (fun t=>pa.f t.1)).filter fun y=>kL y.1 ((OV θ (⟨rV 0 args,os⟩:SS σ) E.ai).map ρ))
        ((aS E.ri++aS E.ai).map ρ) (F+fr.length)))
def adx {β:Type} (E:CE) (args:List (SV σ)) (d:SS σ) (F:Nat) (K:(τ:Type)->(τ->σ)->SV τ->List (Nat×SO τ)->List Nat->Nat->TR β τ) (th:List (Nat×Option Nat)) (fr:List Nat):TR β σ :=
 adw E args d F K (nO th) fr (akf (nO th) F fr) (wE (kS d) (KC (nO th) (aS E.ai)))
def ady {β:Type} (E:CE) (args:List (SV σ)) (d:SS σ) (F:Nat) (K:(τ:Type)->(τ->σ)->SV τ->List (Nat×SO τ)->List Nat->Nat->TR β τ) (th:List (Nat×Option Nat)):TR β σ :=
 match O1 (nO th) (aS E.ri++aS E.ai) with
 | fr=>adx E args d F K th fr
def adz {β:Type} (E:CE) (args:List (SV σ)) (d:SS σ) (F:Nat) (K:(τ:Type)->(τ->σ)->SV τ->List (Nat×SO τ)->List Nat->Nat->TR β τ):TR β σ :=
 match namesT (⟨rV 0 args,d.hp⟩:SS σ) E.ai [] with
 | th=>ady E args d F K th
def trimS (os us:List (Nat×SO σ)) (n:List Nat):List (Nat×SO σ):=us.filter fun y => !kL y.1 (bK os)||kL y.1 n
end
def agt (l:List Oper):Nat:=match (l.filterMap fun o=>o.guard).eraseDups with
 | []=>0
 | [_]=>1
 | _=>2
def Ew:Code->Nat
 | .region _ ops _=>match agt ops.toList with | 2=>2 | _=>1
 | .seq a b=>match Ew a with
   | 0=>0
   | 1=>Ew b
   | _=>match Ew b with | 0=>0 | _=>2
 | .cond _ a b=>match Ew a,Ew b with
   | 0,n=>n
   | n,0=>n
   | _,_=>2
 | .exit _=>0
 | .ret=>0
 | .block id a=>match Ew a,exitsN id a with
   | 0,n=>n
   | n,0=>n
   | _,_=>2
 | .loop _=>0
 | .scope a=>Ew a
 | _=>1
where exitsN (id:Nat):Code->Nat
 | .seq a b=>match exitsN id a,exitsN id b with
   | 0,n=>n
   | n,0=>n
   | _,_=>2
 | .cond _ a b=>match exitsN id a,exitsN id b with
   | 0,n=>n
   | n,0=>n
   | _,_=>2
 | .exit i=>match decide (i=id) with | true=>1 | false=>0
 | .block _ a=>exitsN id a
 | .loop a=>exitsN id a
 | .scope a=>exitsN id a
 | _=>0
def vS:Code->Bool
 | .seq a b=>vS a||vS b
 | .cond _ a b=>vS a||vS b
 | .block _ a=>vS a
 | .loop _=>true
 | .scope a=>vS a
 | _=>false
def agu (o:Oper):Bool:=match o.op with
 | .call c=>(match c.callee with
   | .value _=>true
   | _=>false)
 | _=>false
def Ey:Code->Nat
 | .seq a b=>Ey a+Ey b
 | .cond _ a b=>Ey a+Ey b+1
 | .block _ a=>Ey a
 | .loop a=>Ey a+10
 | .scope a=>Ey a
 | .region _ ops _=>ops.size+12*(ops.toList.filter agu).length
 | _=>0
def adA (a b:Code):Bool:=(vS a&&decide (0<Ey b))||(decide (2<=Ew a)&&decide (12<=Ey b))
def Ig:Code->Nat
 | .seq a b=>Ig a+Ig b
 | .cond _ a b=>Ig a+Ig b
 | .block _ a=>Ig a
 | .loop a=>Ig a
 | .scope a=>Ig a
 | .ret=>1
 | _=>0
def akg (c:Code):Bool:=decide (2<=Ig c+Ew c)||vS c
inductive WD where
 | ask | go | join (its:List IT)
def aiT (x:Option PL) (want:Bool):WD :=
 match x with
 | some (.carry its) => .join its
 | some .unroll => .go
 | some .once => .go
 | some .stop => .go
 | none=>match want with | true => .ask | false => .go
abbrev anD:Type 1:=(β:Type)->Nat->Nat->Nat->Code->(σ:Type)->SS σ->Nat->((τ:Type)->(τ->σ)->Exit->SS τ->Nat->TR β τ)->TR β σ
section
variable (T:Ty) (q:Nat->Bool) (tab:Nat->Option Func) (con:Nat->Option CE) (plan:Nat->Option PL)
def akh {σ:Type} (rd:Nat->Option (SO σ)):List (SV σ)->Bool
 | []=>false
 | .sl r _ _ _ _::l=>match rd r with
   | some (.data _ _ _ true)=>true
   | _=>akh rd l
 | _::l=>akh rd l
def aki (con:Nat->Option CE) (f:Nat) (b:Bool):Option CE:=match decide (f<1000000000) with
 | false=>none
 | true=>match b with
   | true=>match con (1000000000+f) with
     | some E=>some E
     | none=>con f
   | false=>con f
def adB (rec:anD) (p:Nat) (β:Type):Ye β:=fun i σ f args d F K =>
 match aki con f (akh (kS d) args) with
 | some E=>match WE E with
   | true=>ake E args d F K
   | false=>adz E args d F K
 | none=>match tab f with
   | none => .bad [f] "call of an unknown function"
   | some fn=>match fn.body with
     | none => .bad [f] "call without a body"
     | some c=>match wE (kS d) (CY (kS d) 1000 (sV args) []) with
       | os=>match decide (args.length<=fn.ntmps)&&(Eu os&&AY os (sV args)) with
         | false => .bad [f] "call: arguments"
         | true=>match aiT (plan (p*512+16+i)) (akg c) with
           | .ask=>yR (p*512+16+i) (2+8*f) (⟨[],os⟩:SS σ) (⟨[],os⟩:SS σ)
           | .join its=>match Eu (headD (⟨[],os⟩:SS σ) its).hp&&((headD (⟨[],os⟩:SS σ) its).hp.all fun y=>iJ (kS d) y.1||kL y.1 (bK os)) with
             | false=>yR (p*512+16+i) (4+8*f) (⟨[],os⟩:SS σ) (⟨[],os⟩:SS σ)
             | true => .join (rec ((cu its).T ⊕ β) f fn.ntmps (p*512+16+i) c σ ⟨rV 0 args,os⟩ F (fun τ g e d' F'=>match aav e with
                | false => .fail "call: exit"
                | true=>match Ie T d' fn.results.toList with
                  | none => .bad [f] "call: results"
                  | some xs=>Gg (p*512+16+i) (2+8*f) (⟨[],os⟩:SS σ) its (⟨rV 0 xs,d'.hp⟩:SS τ)))
               (K (σ×(cu its).T) Prod.fst (Yn fn.results.size (headD (⟨[],os⟩:SS σ) its)) (jc its Prod.snd) (bK (headD (⟨[],os⟩:SS σ) its).hp) F)
           | .go=>rec β f fn.ntmps (p*512+16+i) c σ ⟨rV 0 args,os⟩ F (fun τ g e d' F'=>match aav e with
             | false => .fail "call: exit"
             | true=>match Ie T d' fn.results.toList with
               | none => .bad [f] "call: results"
               | some xs=>match wE (kS d') (CY (kS d') 1000 (sV xs++bK os) []) with
                 | us=>match (Eu us&&AY us (sV xs))&&(AY us (bK os)&&us.all fun y=>iJ (kS d) y.1||kL y.1 (bK os)) with
                   | false => .bad [f] "call: back"
                   | true=>K τ g (pV xs) (trimS (jP g os) us (bK (d'.hp.take (d'.hp.length-os.length)))) (bK us) F')
variable (eg:Nat->Bool)
def sx:Nat->anD
 | 0,_,_,_,_,_,_,_,_,_ => .fail "fuel"
 | n+1,β,f,N,p,c,σ,d,F,K=>match c with
   | .skip=>K σ (fun s=>s) .normal d F
   | .label _=>K σ (fun s=>s) .normal d F
   | .exit id=>K σ (fun s=>s) (.exit id) d F
   | .ret=>K σ (fun s=>s) .ret d F
   | .region _ ops draw=>match !draw||Hw ops with
     | true=>Qv eg (adB T tab con plan (fun β f N p c σ d F K=>sx n β f N p c σ d F K) p β) T q N F ops draw (if draw then uD ops ops.size else []) (acD 0 ops.toList) σ d [] (F+ops.size) (fun τ g d' F'=>K τ g .normal d' F')
     | false => .fail "region"
   | .seq a b=>match aiT (plan (p*512+1)) (adA a b) with
     | .ask=>yR (p*512+1) (1+8*f) d d
     | .join its => .join (sx n ((cu its).T ⊕ β) f N (p*512) a σ d F (fun τ g e d' F'=>match e with
        | .normal=>Gg (p*512+1) (1+8*f) d its d'
        | e => .out (K τ g e d' F')))
       (sx n β f N (p*512+1) b (σ×(cu its).T) (headD d its) F (fun τ g e d' F'=>K τ (fun t=>(g t).1) e d' F'))
     | .go=>sx n β f N (p*512) a σ d F (fun τ g e d' F'=>match e with
        | .normal=>sx n β f N (p*512+1) b τ d' F' (fun τ' g' e d'' F''=>K τ' (fun t=>g (g' t)) e d'' F'')
        | e=>K τ g e d' F')
   | .cond x a b=>match xq d x with
     | .val (.bool t)=>match t with
       | true=>sx n β f N (p*512+2) a σ d F K
       | false=>sx n β f N (p*512+3) b σ d F K
     | .bool c=>match x with
       | .tmp t => .iff c (sx n β f N (p*512+2) a σ (CG d t true) F K) (sx n β f N (p*512+3) b σ (CG d t false) F K)
       | _ => .iff c (sx n β f N (p*512+2) a σ d F K) (sx n β f N (p*512+3) b σ d F K)
     | _ => .bad [p] "cond"
   | .block id a=>sx n β f N (p*512+4) a σ d F (fun τ g e d' F'=>match e with
     | .exit i=>match decide (i=id) with
       | true=>K τ g .normal d' F'
       | false=>K τ g (.exit i) d' F'
     | e=>K τ g e d' F')
   | .scope a=>sx n β f N (p*512+5) a σ d F (fun τ g e d' F'=>match e with
     | .goto _ => .fail "goto"
     | e=>K τ g e d' F')
   | .loop a=>match plan (p*512+6) with
     | some (.carry its)=>match Kw d its d with
       | none=>yR (p*512+6) (8*f) d d
       | some x=>Ec x.cs (.loop x.f (sx n ((cu its).T ⊕ β) f N (p*512+6) a (σ×(cu its).T) (headD d its) F (fun τ g e d' F'=>match e with
         | .normal=>Gg (p*512+6) (8*f) d its d'
         | e => .out (K τ (fun t=>(g t).1) e d' F'))))
     | some .unroll=>sx n β f N (p*512+6) a σ d F (fun τ g e d' F'=>match e with
        | .normal=>sx n β f N p (.loop a) τ d' F' (fun τ' g' e d'' F''=>K τ' (fun t=>g (g' t)) e d'' F'')
        | e=>K τ g e d' F')
     | some .once=>sx n β f N (p*512+6) a σ d F (fun τ g e d' F'=>match e with
        | .normal=>match plan ((p*512+7)*512+6) with
          | some (.carry _) => .fail "rounds"
          | _=>sx n β f N (p*512+7) (.loop a) τ d' F' (fun τ' g' e d'' F''=>K τ' (fun t=>g (g' t)) e d'' F'')
        | e=>K τ g e d' F')
     | some .stop => .fail "rounds"
     | none=>yR (p*512+6) (8*f) d d
   | _ => .bad [p] "code"
def anE (fn:Func) (ri:List IT):(τ:Type)->Exit->SS τ->TR (cu ri).T τ:=fun τ e d'=>match aav e with
 | false => .fail "exit"
 | true=>match Ie T d' fn.results.toList with
   | none => .fail "results"
   | some xs=>match pW (kS d') ri xs with
     | some p=>Ec p.cs (.ret p.f)
     | none => .note ⟨0,3,viT (kS d') (rV 0 xs),[],[],[]⟩
def adC (n f:Nat) (fn:Func) (ai ri:List IT):TR (cu ri).T (cu ai).T:=match fn.body with
 | some c=>sx T q tab con plan eg n (cu ri).T f fn.ntmps 1 c (cu ai).T ⟨oI ai (fun s=>s),[]⟩ 0 (fun τ _ e d' _=>anE T fn ri τ e d')
 | none => .fail "no body"
def anF (fn:Func) (ai ri:List IT):(τ:Type)->Exit->SS τ->TR (cu ri).T τ:=fun τ e d'=>match aav e with
 | false => .fail "exit"
 | true=>match Ie T d' fn.results.toList with
   | none => .fail "results"
   | some xs=>match Kw (⟨[],jc ai (fun s=>s)⟩:SS (cu ai).T) ri (⟨rV 0 xs,d'.hp⟩:SS τ) with
     | some p=>Ec p.cs (.ret p.f)
     | none=>match ags (⟨rV 0 xs,d'.hp⟩:SS τ) ri with
       | true => .fail "cut"
       | false=>yR 0 2 (⟨[],jc ai (fun s=>s)⟩:SS (cu ai).T) (⟨rV 0 xs,d'.hp⟩:SS τ)
def aiU (n f:Nat) (fn:Func) (ai ri:List IT):TR (cu ri).T (cu ai).T:=match fn.body with
 | some c=>sx T q tab con plan eg n (cu ri).T f fn.ntmps 1 c (cu ai).T ⟨oI ai (fun s=>s),jc ai (fun s=>s)⟩ 0 (fun τ _ e d' _=>anF T fn ai ri τ e d')
 | none => .fail "no body"
end
theorem agv {hp:Nat->Option AO} {us us':List (Nat×AO)} (h:∀r,look r us'=look r us\/(look r us'=none/\∀o,look r us=some o->hp r=some o)):dP hp us=dP hp us':=by
 funext r;unfold dP;rcases h r with e | ⟨e1,e2⟩
 ·rw [e]
 ·rw [e1];cases hl:look r us with
  | none=>rfl
  | some o=>exact (e2 o hl).symm
theorem Gh {P:Program} {GL:Nat->Option (List DV)} {f:FuncId} {args:List AV} {rds:List Nat} {v:AV} {us us':List (Nat×AO)} {hp:Nat->Option AO} (h:Does P GL f args rds v us hp)
 (hu:∀r,look r us'=look r us\/(look r us'=none/\∀o,look r us=some o->r∈rds/\hp r=some o)):Does P GL f args rds v us' hp:=fun E w vs hrd hw hs hrel=>by
 refine (h E w vs hrd hw hs hrel).mono ?_;rintro e w' ⟨u,E',h1,h2,h3⟩;refine ⟨u,E',h1,⟨h2.h,?_,h2.ext,h2.sim,h2.fr⟩,h3⟩;rw [h2.hp];refine agv fun r => ?_;rcases hu r with e | ⟨e1,e2⟩
 ·exact .inl e
 ·exact .inr ⟨e1,fun o ho=>by rw [hrd r (e2 o ho).1];exact (e2 o ho).2⟩
def jX (xs:List AV):AV:=match xs with | [x]=>x | xs => .tup xs
theorem oJ {σ:Type} (s:σ) (xs:List (SV σ)):(pV xs).c s=jX (cL s xs):=by
 cases xs with
 | nil=>show (SV.tup []).c s=_;rw [SV.c];rfl
 | cons x xs=>cases xs with
   | nil=>rfl
   | cons y ys=>show (SV.tup (x::y::ys)).c s=_;rw [SV.c];rfl
def adD (P:Program) (f:Nat) (E:CE):Prop :=
 xY P f=true/\match E with
 | ⟨ai,[.tmp _ false [.own _ e u]],G⟩=>∀a (x:List u.T),G a=some x->eY P iU f ((lS ai a).map (·.2)) [] (.sl 1 0 x.length none) [(1,.data e (fJ u) (aI u x) true)]
 | E=>∀a r,E.F a=some r->eY P iU f ((lS E.ai a).map (·.2)) [] (jX ((lS E.ri r).map (·.2))) []
def agw (P:Program) (f:Nat) (E:CE):Prop:=xY P f=true/\∀a r,E.F a=some r->eY P iU f ((lS E.ai a).map (·.2)) (oz E.ai a) (jX ((lS E.ri r).map (·.2))) (oz E.ri r++oz E.ai a)
def aW (P:Program) (f:Nat) (E:CE):Prop:=match WE E with
 | true=>adD P f E
 | false=>agw P f E
theorem adD.mk {P:Program} {f:Nat} {ai ri:List IT} {G:(cu ai).T->Option (cu ri).T} (h1:xY P f=true) (hd:jq ri=true) (h:∀a r,G a=some r->eY P iU f ((lS ai a).map (·.2)) [] (jX ((lS ri r).map (·.2))) []):adD P f ⟨ai,ri,G⟩:=by
 refine ⟨h1,?_⟩;split
 ·rename_i heq;cases heq;simp [jq,IL] at hd
 ·exact h
theorem aW.mk {P:Program} {f:Nat} {ai ri:List IT} {G:(cu ai).T->Option (cu ri).T} (h1:xY P f=true) (ha:jq ai=true) (hd:jq ri=true) (h:∀a r,G a=some r->eY P iU f ((lS ai a).map (·.2)) [] (jX ((lS ri r).map (·.2))) []):aW P f ⟨ai,ri,G⟩:=by
 have e:WE ⟨ai,ri,G⟩=true:=by unfold WE;simp only [ha,hd,Bool.true_or,Bool.and_self]
 unfold aW;rw [e];exact adD.mk h1 hd h
theorem IE.mono {hp:Nat->Option AO} {rds rds':List Nat} (hs:∀r∈rds,r∈rds'):∀ {F:List (Nat×AO)},IE rds hp F->IE rds' hp F
 | [],_=>trivial
 | (r,o)::l,h=>⟨hs r h.1,h.2.1,IE.mono hs h.2.2⟩
section
variable {σ:Type} {s:σ} {rd:Nat->Option (SO σ)}
theorem akj (l:List (Nat×SV σ)):cL s (l.map (·.2))=(cT s l).map (·.2):=by
 induction l with
 | nil=>rfl
 | cons x l ih=>obtain ⟨t,v⟩:=x;rw [List.map_cons,cL,ih,cT,List.map_cons]
theorem Yo (its:List IT) (f:σ->(cu its).T):(Ym its f).c s=jX ((lS its (f s)).map (·.2)):=by
 unfold Ym;rw [oJ,akj,uS]
def yC (rd:Nat->Option (SO σ)) (fz:List (Nat×SO σ)):Prop:=∀x∈fz,∃e u f wr,rd x.1=some (.data e u f wr)/\x.2 = .data e u f false
theorem yC.nil:yC rd []:=fun x hx=>by cases hx
theorem yC.append {a b:List (Nat×SO σ)} (h:yC rd a) (k:yC rd b):yC rd (a++b):=fun x hx=>by
 rcases List.mem_append.1 hx with e | e
 ·exact h x e
 ·exact k x e
theorem akk {t:U} {v:SV σ} {p:PK σ (List t.T)} (hp:pkL rd t v=some p):yC rd p.fz:=by
 unfold pkL at hp;split at hp
 ·split at hp
  ·cases hp;exact yC.nil
  ·cases hp
 ·cases hp;exact yC.nil
 ·rename_i r z o n cap;split at hp
  ·rename_i e u f wr hr;split at hp
   ·cases hp;intro x hx;rw [List.mem_singleton] at hx;subst hx;exact ⟨e,u,f,wr,hr,rfl⟩
   ·cases hp
  ·cases hp
 ·cases hp
theorem akl {t:U} {v:SV σ} {p:PK σ (List t.T)} (hp:pkL rd t v=some p) (hc:allT s p.cs) {F:Nat->Option AO} (hF:∀r e u f wr,rd r=some (.data e u f wr)->r∈p.fz.map (·.1)->F r=some (.data e (fJ u) (aI u (f s)) false)) :
 P8 F (.d (.dl (aI t (p.f s)) (p.f s).length none)) (v.c s):=by
 unfold pkL at hp;split at hp
 ·split at hp
  ·rename_i hk _;subst hk;cases hp;rw [SV.c,P8];exact .inl rfl
  ·cases hp
 ·cases hp;rw [SV.c,P8];exact .inr rfl
 ·rename_i r z o n cap;split at hp
  ·rename_i e u f wr hr;split at hp
   ·rename_i hk _ hz;subst hk;cases hp;have hz:=of_decide_eq_true hz;have h1:=yw hc.1;rw [SV.c,P8];unfold TdD;simp only [hF r e u f wr hr (by simp)];refine .inl ?_;show DV.dl (aI u (rowP o n f s)) (rowP o n f s).length none=_;rw [vO,hz,jl,gq,List.length_take,List.length_drop,Nat.min_eq_left (by omega)]
   ·cases hp
  ·cases hp
 ·cases hp
theorem adE {F:Nat->Option AO} {x:DV} {y:AV} (h:y = .d x):P8 F (.d x) y:=by subst h;rw [P8];exact .inl rfl
theorem akm:∀(c:CS) (v:SV σ) (p:PK σ (uC c).T),IL [c]=true->Qw rd c v=some p->allT s p.cs ->
 yC rd p.fz/\∀F:Nat->Option AO,(∀r e u f wr,rd r=some (.data e u f wr)->r∈p.fz.map (·.1)->F r=some (.data e (fJ u) (aI u (f s)) false))->P8 F (aC c (p.f s)) (v.c s)
 | .dat u,v,p,hd,hp,hc=>by
   simp only [Qw] at hp;split at hp
   ·rename_i hs;cases u with
    | int k =>
      simp only [II] at hp;split at hp
      ·rename_i k' f hf;split at hp
       ·rename_i hk _;obtain ⟨hk⟩:=hk;subst hk;cases hp;exact ⟨yC.nil,fun F _=>adE (nZ hf s)⟩
       ·cases hp
      ·cases hp
    | bool =>
      simp only [II] at hp;split at hp
      ·rename_i f hf;cases hp;exact ⟨yC.nil,fun F _=>adE (zK hf s)⟩
      ·cases hp
    | str =>
      simp only [II] at hp;split at hp
      ·rename_i f hf;cases hp;exact ⟨yC.nil,fun F _=>adE (sU hf s)⟩
      ·cases hp
    | list t =>
      simp only [II] at hp;exact ⟨akk hp,fun F hF=>akl hp hc hF⟩
    | pair a b=>cases hs
    | unit=>cases hs
   ·cases hp
 | .own r e u,v,p,hd,hp,hc=>by cases hd
 | .nil,v,p,hd,hp,hc=>by cases hd
 | .np,v,p,hd,hp,hc=>by cases hd
 | .pt r off,v,p,hd,hp,hc=>by cases hd
 | .cl f caps,v,p,hd,hp,hc=>by cases hd
theorem QJ:∀(cs:List CS) (vs:List (SV σ)) (p:PK σ (jm cs).T),IL cs=true->IK rd cs vs=some p->allT s p.cs ->
 yC rd p.fz/\∀F:Nat->Option AO,(∀r e u f wr,rd r=some (.data e u f wr)->r∈p.fz.map (·.1)->F r=some (.data e (fJ u) (aI u (f s)) false))->Nq F (o7 cs (p.f s)) (cL s vs)
 | [],[],p,hd,hp,hc=>by
   simp only [IK] at hp;cases hp;refine ⟨yC.nil,fun F _ => ?_⟩;rw [cL,show o7 [] ()=[] from rfl,Nq]
 | c::cs,v::vs,p,hd,hp,hc=>by
   rw [IK] at hp;split at hp
   ·rename_i x y hx hy;cases hp;rw [bW] at hc;have e1:jD (uC c) (jm cs) (wM (uC c) (jm cs) (x.f s) (y.f s))=x.f s:=jT _ _ _ _;have e2:kM (uC c) (jm cs) (wM (uC c) (jm cs) (x.f s) (y.f s))=y.f s:=kT _ _ _ _;have hd1:IL [c]=true:=by cases c<;>first | rfl | cases hd
    have hd2:IL cs=true:=by cases c<;>first | exact hd | cases hd
    obtain ⟨a1,a2⟩:=akm c v x hd1 hx hc.1;obtain ⟨b1,b2⟩:=QJ cs vs y hd2 hy hc.2;refine ⟨a1.append b1,fun F hF => ?_⟩;rw [cL];simp only [o7,e1,e2];rw [Nq];exact ⟨_,_,rfl,a2 F fun r e u f wr hr hm=>hF r e u f wr hr (by rw [List.map_append];exact List.mem_append_left _ hm),b2 F fun r e u f wr hr hm=>hF r e u f wr hr (by rw [List.map_append];exact List.mem_append_right _ hm)⟩
   ·cases hp
 | [],_::_,p,_,hp,_=>by cases hp
 | _::_,[],p,_,hp,_=>by cases hp
theorem xA:∀(ai:List IT) (vs:List (SV σ)) (p:PK σ (cu ai).T),jq ai=true->pW rd ai vs=some p->allT s p.cs ->
 yC rd p.fz/\∀F:Nat->Option AO,(∀r e u f wr,rd r=some (.data e u f wr)->r∈p.fz.map (·.1)->F r=some (.data e (fJ u) (aI u (f s)) false))->Nq F ((lS ai (p.f s)).map (·.2)) (cL s vs)
 | [],[],p,hd,hp,hc=>by
   simp only [pW] at hp;cases hp;refine ⟨yC.nil,fun F _ => ?_⟩;rw [cL];show Nq F [] [];rw [Nq]
 | .tmp t false cs::l,v::vs,p,hd,hp,hc=>by
   rw [pW] at hp;rw [jq,Bool.and_eq_true] at hd;split at hp
   ·rename_i x y hx hy;cases hp;rw [bW] at hc;have e1:jD (uI (.tmp t false cs)) (cu l) (wM (jm cs) (cu l) (x.f s) (y.f s))=x.f s:=jT _ _ _ _;have e2:kM (uI (.tmp t false cs)) (cu l) (wM (jm cs) (cu l) (x.f s) (y.f s))=y.f s:=kT _ _ _ _;obtain ⟨a1,a2⟩:=QJ cs [v] x hd.1 hx hc.1;obtain ⟨b1,b2⟩:=xA l vs y hd.2 hy hc.2;refine ⟨a1.append b1,fun F hF => ?_⟩;have hA:=a2 F fun r e u f wr hr hm=>hF r e u f wr hr (by rw [List.map_append];exact List.mem_append_left _ hm);have hB:=b2 F fun r e u f wr hr hm=>hF r e u f wr hr (by rw [List.map_append];exact List.mem_append_right _ hm);rw [cL,cL] at hA;rw [cL];simp only [lS,e1,e2,List.map_append];show Nq F (og (o7 cs (x.f s))::(lS l (y.f s)).map (·.2)) _;rw [Nq];refine ⟨_,_,rfl,?_,hB⟩;generalize o7 cs (x.f s)=ys at hA ⊢;cases ys with
    | nil=>rw [Nq] at hA;cases hA
    | cons y ys =>
      rw [Nq] at hA;obtain ⟨x,xs,h1,h2,h3⟩:=hA;cases h1;cases ys with
      | nil=>exact h2
      | cons z zs=>rw [Nq] at h3;obtain ⟨_,_,h4,_⟩:=h3;cases h4
   ·cases hp
 | .tmp t true cs::l,v::vs,p,hd,hp,hc=>by
   rw [jq,Bool.and_eq_true] at hd;cases v with
   | agg ws =>
     simp only [pW] at hp;split at hp
     ·rename_i x y hx hy;cases hp;rw [bW] at hc;have e1:jD (uI (.tmp t true cs)) (cu l) (wM (jm cs) (cu l) (x.f s) (y.f s))=x.f s:=jT _ _ _ _;have e2:kM (uI (.tmp t true cs)) (cu l) (wM (jm cs) (cu l) (x.f s) (y.f s))=y.f s:=kT _ _ _ _;obtain ⟨a1,a2⟩:=QJ cs ws x hd.1 hx hc.1;obtain ⟨b1,b2⟩:=xA l vs y hd.2 hy hc.2;refine ⟨a1.append b1,fun F hF => ?_⟩;have hA:=a2 F fun r e u f wr hr hm=>hF r e u f wr hr (by rw [List.map_append];exact List.mem_append_left _ hm);have hB:=b2 F fun r e u f wr hr hm=>hF r e u f wr hr (by rw [List.map_append];exact List.mem_append_right _ hm);rw [cL];simp only [lS,e1,e2,List.map_append];show Nq F (.agg (o7 cs (x.f s))::(lS l (y.f s)).map (·.2)) _;rw [Nq];refine ⟨_,_,rfl,?_,hB⟩;rw [SV.c,P8];exact ⟨_,rfl,hA⟩
     ·cases hp
   | _=>simp only [pW] at hp;cases hp
 | [],_::_,p,_,hp,_=>by cases hp
 | .tmp _ true _::_,[],p,_,hp,_=>by cases hp
 | .tmp _ false _::_,[],p,_,hp,_=>by cases hp
 | .mix _ _::_,_,p,hd,_,_=>by cases hd
 | .row _ _ _::_,_,p,hd,_,_=>by cases hd
 | .arr _ _::_,_,p,hd,_,_=>by cases hd
 | .mp _::_,_,p,hd,_,_=>by cases hd
 | .drop _::_,_,p,hd,_,_=>by cases hd
 | .dead _::_,_,p,hd,_,_=>by cases hd
theorem Uk {N:Nat} {d:SS σ} {fz:List (Nat×SO σ)} (h:yC (kS d) fz):∀(l:List (Nat×SO σ)),(∀x∈l,x∈fz)->IE (bK fz) (d.c s N).rd (cO s l)
 | [],_=>trivial
 | (r,o)::l,hl=>by
   obtain ⟨e,u,f,wr,h1,h2⟩:=h (r,o) (hl _ List.mem_cons_self);rw [cO,IE];refine ⟨?_,⟨e,fJ u,aI u (f s),wr,?_,?_⟩,Uk h l fun x hx=>hl x (List.mem_cons_of_mem _ hx)⟩
   ·have:∀l:List (Nat×SO σ),(r,o)∈l->r∈bK l:=by
     intro l
     induction l with
     | nil=>intro h;cases h
     | cons x l ih =>
       intro h;obtain ⟨k,y⟩:=x;rw [bK];rcases List.mem_cons.1 h with e | e
       ·cases e;exact List.mem_cons_self
       ·exact List.mem_cons_of_mem _ (ih e)
    exact this fz (hl _ List.mem_cons_self)
   ·rw [<-mM];simp only [iI];simp only at h1;rw [h1];rfl
   ·simp only at h2;rw [h2];rfl
theorem QK {fz:List (Nat×SO σ)} (h:yC rd fz) {r e:Nat} {u:U} {f:σ->List u.T} {wr:Bool} (hr:rd r=some (.data e u f wr)) (hm:r∈fz.map (·.1)):aJ (cO s fz) r=some (.data e (fJ u) (aI u (f s)) false):=by
 unfold aJ;rw [lu]
 induction fz with
 | nil=>cases hm
 | cons x fz ih =>
   obtain ⟨k,o⟩:=x;rw [look];by_cases hk:k=r
   ·subst hk;rw [if_pos rfl];obtain ⟨e',u',f',wr',h1,h2⟩:=h (k,o) List.mem_cons_self;rw [hr] at h1;cases h1;simp only at h2;rw [h2];rfl
   ·rw [if_neg hk];rw [List.map_cons] at hm;rcases List.mem_cons.1 hm with e1 | e1
    ·exact (hk e1.symm).elim
    ·exact ih (fun x hx=>h x (List.mem_cons_of_mem _ hx)) e1
theorem Gi:∀(cs:List CS) (x:(jm cs).T),IL cs=true->AV.refs.refsL (o7 cs x)=[]
 | [],x,_=>rfl
 | .dat u::cs,x,h=>by
   rw [o7,AV.refs.refsL,Gi cs _ h,List.append_nil];cases u<;>simp [aC,dU,dX,AV.refs]
theorem WH {l:List AV} (h:AV.refs.refsL l=[]):(og l).refs=[]:=by
 cases l with
 | nil=>simp [og,AV.refs]
 | cons x l =>
   rw [AV.refs.refsL,List.append_eq_nil_iff] at h;cases l with
   | nil=>exact h.1
   | cons y l=>simp [og,AV.refs]
theorem rW:∀(ai:List IT) (x:(cu ai).T),jq ai=true->AV.refs.refsL ((lS ai x).map (·.2))=[]
 | [],x,_=>rfl
 | .tmp t true cs::l,x,h=>by
   rw [jq,Bool.and_eq_true] at h;show AV.refs.refsL (.agg (o7 cs _)::(lS l _).map (·.2))=[]
   rw [AV.refs.refsL,rW l _ h.2,List.append_nil,AV.refs];exact Gi cs _ h.1
 | .tmp t false cs::l,x,h=>by
   rw [jq,Bool.and_eq_true] at h;show AV.refs.refsL (og (o7 cs _)::(lS l _).map (·.2))=[]
   rw [AV.refs.refsL,rW l _ h.2,List.append_nil];exact WH (Gi cs _ h.1)
theorem uT:∀(cs:List CS) (x:(jm cs).T),OY cs=true->qp (o7 cs x)=true
 | [],x,_=>rfl
 | .dat (.int k)::cs,x,h=>by rw [o7,qp,uT cs _ h];rfl
 | .dat .bool::cs,x,h=>by rw [o7,qp,uT cs _ h];rfl
 | .dat .str::cs,x,h=>by rw [o7,qp,uT cs _ h];rfl
theorem WI {l:List AV} (h:qp l=true) (hn:l.length=1):(og l).flat=true:=by
 cases l with
 | nil=>cases hn
 | cons x l =>
   rw [qp,Bool.and_eq_true] at h;cases l with
   | nil=>exact h.1
   | cons y l=>simp at hn
theorem Yp:∀(cs:List CS) (x:(jm cs).T),(o7 cs x).length=cs.length
 | [],_=>rfl
 | c::cs,x=>by rw [o7,List.length_cons,List.length_cons,Yp cs]
theorem CZ:∀(ri:List IT) (x:(cu ri).T),OZ ri=true->qp ((lS ri x).map (·.2))=true
 | [],x,_=>rfl
 | .tmp t true cs::l,x,h=>by
   rw [OZ] at h;simp only [Bool.and_eq_true] at h;show qp (.agg (o7 cs _)::(lS l _).map (·.2))=true;rw [qp,CZ l _ h.2,Bool.and_true,AV.flat];exact uT cs _ h.1
 | .tmp t false cs::l,x,h=>by
   rw [OZ] at h;simp only [Bool.and_eq_true,decide_eq_true_eq] at h;show qp (og (o7 cs _)::(lS l _).map (·.2))=true;rw [qp,CZ l _ h.2,Bool.and_true];exact WI (uT cs _ h.1.1) ((Yp cs _).trans h.1.2)
theorem adF {l:List AV} (h:qp l=true):(jX l).flat=true:=by
 cases l with
 | nil=>exact h
 | cons x l=>cases l with
   | nil=>rw [qp,Bool.and_eq_true] at h;exact h.1
   | cons y l=>exact h
end
theorem Yq {β σ α:Type} {f:σ->Option α} {r:TR β (σ×α)} {s:σ} {b:β} (h:(TR.bnd f r).run s=some b):∃a,f s=some a/\r.run (s,a)=some b:=by
 rw [TR.run] at h;cases hf:f s with
 | none=>rw [hf] at h;cases h
 | some a=>rw [hf] at h;exact ⟨a,rfl,h⟩
theorem agx {P:Program} {σ:Type} {β:Type} {N f:Nat} {E:CE} (hE:adD P f E) {args:List (SV σ)} {d:SS σ} {F:Nat} {K:(τ:Type)->(τ->σ)->SV τ->List (Nat×SO τ)->List Nat->Nat->TR β τ} {s:σ} {b:β} (h:(ake E args d F K).run s=some b) :
 ∃(τ:Type) (g:τ->σ) (s':τ) (v:SV τ) (us:List (Nat×SO τ)) (rds:List Nat) (F':Nat),g s'=s/\xY P f=true/\Does P iU f (cL s args) rds (v.c s') (cO s' us) (d.c s N).rd/\(K τ g v us rds F').run s'=some b:=by
 unfold ake at h;split at h
 ·rename_i ai _ _ e u G;split at h
  ·rw [TR.run] at h;cases h
  ·rename_i pa hpa;split at h
   ·rw [TR.run] at h;cases h
   ·rename_i hd;rw [Bool.and_eq_true] at hd;obtain ⟨hd,hn⟩:=hd;obtain ⟨h1,h2⟩:=qY h;obtain ⟨x,hf,h2⟩:=Yq (α:=List u.T) h2;obtain ⟨a1,a2⟩:=xA (s:=s) ai args pa hd hpa h1;have hF:(d.c s N).rd F=none:=by rw [<-mM s N d];exact Option.not_isSome_iff_eq_none.1 (uP s hn)
    have hFz:look F (cO s pa.fz)=none:=by
     cases hl:look F (cO s pa.fz) with
     | none=>rfl
     | some o =>
       obtain ⟨k1,e1,s1,c1,w1,g1,g2⟩:=VO (Uk (N:=N) (s:=s) a1 pa.fz fun x hx=>hx) _ _ (bG hl);rw [hF] at g1;cases g1
    refine ⟨_,Prod.fst,(s,x),_,_,_,F+1,rfl,hE.1,?_,h2⟩;have e1:cO (s,x) (((F,.data e u (fun t=>t.2) true)::jP Prod.fst pa.fz:List (Nat×SO (σ×List u.T))))=[(F,.data e (fJ u) (aI u x) true)]++cO s pa.fz:=by
     rw [cO,qW,SO.c];rfl
    have e2:(SV.sl F (fJ u) none (fun t=>t.2.length) .unk:SV (σ×List u.T)).c (s,x) = .sl F 0 x.length none:=by
     rw [SV.c];simp [wu,rU]
    rw [e1,e2];refine Hy (args':=(lS ai (pa.f s)).map (·.2)) (F:=cO s pa.fz) ?_ (IE.mono (fun r hr=>List.mem_cons_of_mem _ hr) (Uk a1 pa.fz fun x hx=>hx)) (a2 _ fun r e u f wr hr hm=>QK a1 hr hm);exact acG (aay (r:=F) (hE.2 _ _ hf) (rW _ _ hd) (by unfold dP;rw [hFz];exact hF)) (by simp)
 ·rename_i hno;have hE2:∀a r,E.F a=some r->eY P iU f ((lS E.ai a).map (·.2)) [] (jX ((lS E.ri r).map (·.2))) []:=by
   have:=hE.2;split at this
   ·exact (hno _ _ _ _ _ _ rfl).elim
   ·exact this
  split at h
  ·rw [TR.run] at h;cases h
  ·rename_i pa hpa;split at h
   ·rw [TR.run] at h;cases h
   ·rename_i hd;rw [Bool.and_eq_true] at hd;have key:∀ {t:TR β (σ×(cu E.ri).T)},(Ec pa.cs (.bnd (fun s=>E.F (pa.f s)) t)).run s=some b->allT s pa.cs/\∃r,E.F (pa.f s)=some r/\t.run (s,r)=some b:=fun {t} ht=>by
     obtain ⟨h1,h2⟩:=qY ht;rw [TR.run] at h2;cases hf:E.F (pa.f s) with
     | none=>rw [hf] at h2;cases h2
     | some r=>rw [hf] at h2;exact ⟨h1,r,rfl,h2⟩
    split at h
    ·rename_i hfl;obtain ⟨h1,r,h2,h3⟩:=key h;obtain ⟨a1,a2⟩:=xA (s:=s) E.ai args pa hd.1 hpa h1;refine ⟨_,Prod.fst,(s,r),_,_,_,F,rfl,hE.1,?_,h3⟩;rw [Yo];exact aaj (F:=cO s pa.fz) (hE2 _ _ h2) (adF (CZ _ _ hfl)) (Uk a1 pa.fz fun x hx=>hx) (a2 _ fun r e u f wr hr hm=>QK a1 hr hm) (rW _ _ hd.1)
    ·obtain ⟨h1,r,h2,h3⟩:=key h;obtain ⟨a1,a2⟩:=xA (s:=s) E.ai args pa hd.1 hpa h1;refine ⟨_,Prod.fst,(s,r),_,_,_,F,rfl,hE.1,?_,h3⟩;rw [Yo,qW];refine Hy (us:=[]) (F:=cO s pa.fz) ?_ (Uk a1 pa.fz fun x hx=>hx) (a2 _ fun r e u f wr hr hm=>QK a1 hr hm);refine qG (hE2 _ _ h2) (fun p hp=>(by cases hp)) rfl ?_ (fun p hp=>(by cases hp)) rfl;rw [rW _ _ hd.1];rfl
section
variable {σ τ:Type}
theorem ng {l:List (Nat×SO σ)} {r:Nat}:r∈bK l↔∃o,(r,o)∈l:=by
 induction l with
 | nil=>simp [bK]
 | cons x l ih =>
   obtain ⟨k,o⟩:=x;rw [bK,List.mem_cons,ih];constructor
   ·rintro (rfl | ⟨o',h⟩)
    ·exact ⟨o,List.mem_cons_self⟩
    ·exact ⟨o',List.mem_cons_of_mem _ h⟩
   ·rintro ⟨o',h⟩;rcases List.mem_cons.1 h with e | e
    ·cases e;exact .inl rfl
    ·exact .inr ⟨o',e⟩
theorem uU {l:List (Nat×SO σ)} {s:σ} {r:Nat} (h:r∈bK l):(look r (cO s l)).isSome=true:=by
 rw [lu];obtain ⟨o,ho⟩:=ng.1 h;obtain ⟨w,hw⟩:=jQ ho;rw [hw];rfl
theorem A8 {os:List (Nat×SO σ)} {rs:List Nat} {s:σ} (h:AY os rs=true):yO (cO s os) rs=true:=by
 unfold yO;refine List.all_eq_true.2 fun r hr => ?_;exact uU (gQ.1 (List.all_eq_true.1 h r hr))
theorem qJ {l:List (Nat×SO σ)} {s:σ} {x:Nat×AO} (h:x∈cO s l):∃o,(x.1,o)∈l/\x.2=o.c s:=by
 induction l with
 | nil=>cases h
 | cons y l ih =>
   obtain ⟨k,o⟩:=y;rw [cO] at h;rcases List.mem_cons.1 h with e | e
   ·subst e;exact ⟨o,List.mem_cons_self,rfl⟩
   ·obtain ⟨o',h1,h2⟩:=ih e;exact ⟨o',List.mem_cons_of_mem _ h1,h2⟩
theorem Ba {os:List (Nat×SO σ)} {s:σ} (h:Eu os=true):((cO s os).all fun p=>yO (cO s os) (DW p.2))=true:=by
 refine List.all_eq_true.2 fun x hx => ?_;obtain ⟨o,h1,h2⟩:=qJ hx;rw [h2,QC];exact A8 (List.all_eq_true.1 h _ h1)
theorem uV {rd:Nat->Option (SO σ)}:∀ {l:List Nat} {x:Nat×SO σ},x∈wE rd l->rd x.1=some x.2
 | [],x,h=>by cases h
 | r::l,x,h=>by
   rw [wE] at h;split at h
   ·rename_i o ho;rcases List.mem_cons.1 h with e | e
    ·subst e;exact ho
    ·exact uV e
   ·exact uV h
theorem KD (s:σ):∀(i:Nat) (l:List (SV σ)),cT s (rV i l)=jv i (cL s l)
 | i,[]=>rfl
 | i,x::l=>by rw [rV,cT,KD s (i+1) l,cL];rfl
theorem agy {T:Ty} {d:SS σ} {s:σ} {N:Nat} {r:ResultVar} {v:SV σ} (h:Yl T d r=some v):JD T (d.c s N) r=some (v.c s):=by
 have hget:∀t,(d.c s N).get t=(match jF t d.tm with | some x=>x | none => .junk:SV σ).c s:=fun t=>by
  unfold SL.get SS.c;simp only [pU];rw [jO];cases look t d.tm with
  | none=>simp only [Option.map_none];rw [SV.c]
  | some x=>rfl
 cases r with
 | tmp t =>
   simp only [Yl,Option.some.injEq] at h;subst h;exact congrArg some (hget t)
 | cell a t =>
   simp only [Yl] at h;split at h
   ·rename_i i r off hT hl;split at h
    ·rename_i cs hr;show S9 T (d.c s N).rd t ((d.c s N).get a)=_;rw [hget,hl,<-mM];unfold S9;simp only [hT,SV.c,iI,hr,Option.map_some,SO.c];exact yh s h
    ·cases h
   ·cases h
theorem I9 {T:Ty} {d:SS σ} {s:σ} {N:Nat}:∀(l:List ResultVar) (xs:List (SV σ)),Ie T d l=some xs->yc T (d.c s N) l=some (cL s xs)/\xs.length=l.length
 | [],xs,h=>by cases h;exact ⟨rfl,rfl⟩
 | r::l,xs,h=>by
   rw [Ie] at h;split at h
   ·rename_i x ys hx hy;cases h;obtain ⟨a,b⟩:=I9 l ys hy;rw [yc,agy hx,a];exact ⟨rfl,by rw [List.length_cons,List.length_cons,b]⟩
   ·cases h
theorem QL {T:Ty} {d:SS σ} {s:σ} {N:Nat} {fn:Func} {xs:List (SV σ)} (h:Ie T d fn.results.toList=some xs):DT T fn (d.c s N)=some ((pV xs).c s):=by
 unfold DT;rw [(I9 _ _ h).1,oJ];generalize cL s xs=ys;cases ys with
 | nil=>rfl
 | cons y ys=>cases ys with
   | nil=>rfl
   | cons z zs=>rfl
theorem aaN {d:SS σ} {g:τ->σ} {d':SS τ} (h:Grow d g d') {r:Nat} (hr:(look r d.hp).isSome=true):(look r d'.hp).isSome=true:=by
 obtain ⟨_,l,e⟩:=h;rw [e,bU];cases look r l with
 | some x=>rfl
 | none =>
   simp only;have:∀l:List (Nat×SO σ),look r (jP g l)=(look r l).map (SO.map g):=by
    intro l
    induction l with
    | nil=>rfl
    | cons x l ih =>
      obtain ⟨k,v⟩:=x;rw [jP,look,look];split
      ·rfl
      ·exact ih
   rw [this];cases hl:look r d.hp with
   | none=>rw [hl] at hr;cases hr
   | some w=>rfl
theorem zX {α:Type} (q:Nat->Bool) (r:Nat):∀l:List (Nat×α),look r (l.filter fun y=>q y.1)=if q r=true then look r l else none
 | []=>by simp [look]
 | (k,x)::l=>by
   rw [List.filter_cons];have ih:=zX q r l;by_cases hk:k=r
   ·subst hk;by_cases hq:q k=true
    ·simp only [hq,if_true];rw [look,if_pos rfl,look,if_pos rfl]
    ·rw [if_neg hq,ih,if_neg hq,if_neg hq]
   ·by_cases hq:q k=true
    ·simp only [hq,if_true];rw [look,if_neg hk,look,if_neg hk];exact ih
    ·rw [if_neg hq,ih,look,if_neg hk]
theorem Bc (s:σ) (q:Nat->Bool):∀l:List (Nat×SO σ),cO s (l.filter fun y=>q y.1)=(cO s l).filter fun y=>q y.1
 | []=>rfl
 | (k,x)::l=>by
   rw [cO,List.filter_cons,List.filter_cons];cases hq:q k with
   | true=>simp only [if_true];rw [cO,Bc s q l]
   | false=>simp only [Bool.false_eq_true,if_false];exact Bc s q l
theorem qK {β:Type} {p kind:Nat} {d:SS σ} {its:List IT} {d':SS τ} {s:τ} {r:(cu its).T ⊕ β} (h:(Gg p kind d its d':TR ((cu its).T ⊕ β) τ).run s=some r):∃x,Kw d its d'=some x/\allT s x.cs/\r = .inl (x.f s):=by
 unfold Gg at h;split at h
 ·rename_i x hx;obtain ⟨h1,h2⟩:=qY h;rw [TR.run] at h2;exact ⟨x,hx,h1,by cases h2;rfl⟩
 ·split at h
  ·rw [TR.run] at h;cases h
  ·unfold yR at h;rw [TR.run] at h;cases h
theorem oD {β υ:Type} {t:TR β τ} {s:τ} {r:υ ⊕ β} (h:(TR.out t:TR (υ ⊕ β) τ).run s=some r):∃b,t.run s=some b/\r = .inr b:=by
 rw [TR.run] at h;cases ht:t.run s with
 | none=>rw [ht] at h;cases h
 | some b=>rw [ht] at h;cases h;exact ⟨b,rfl,rfl⟩
theorem Ul {β υ:Type} {a:TR (υ ⊕ β) σ} {t:TR β (σ×υ)} {s:σ} {b:β} (h:(TR.join a t).run s=some b):(∃u,a.run s=some (.inl u)/\t.run (s,u)=some b)\/a.run s=some (.inr b):=by
 rw [TR.run] at h;cases ha:a.run s with
 | none=>rw [ha] at h;cases h
 | some r =>
   rw [ha] at h;cases r with
   | inl u=>exact .inl ⟨u,rfl,h⟩
   | inr x=>cases h;exact .inr rfl
end
section
variable {P:Program} {q:Nat->Bool} {tab:Nat->Option Func} {con:Nat->Option CE} {plan:Nat->Option PL} {eg:Nat->Bool}
def WJ (P:Program) (q:Nat->Bool) (tab:Nat->Option Func) (con:Nat->Option CE) (plan:Nat->Option PL) (eg:Nat->Bool) (n:Nat):Prop :=
 ∀(β:Type) (f N p:Nat) (c:Code) (σ:Type) (d:SS σ) (F:Nat) (K:(τ:Type)->(τ->σ)->Exit->SS τ->Nat->TR β τ) (s:σ) (b:β) (hp0:Nat->Option AO),(∀r,(hp0 r).isSome=true->(look r d.hp).isSome=true) ->
  (sx (aQ P) q tab con plan eg n β f N p c σ d F K).run s=some b ->
  ∃(τ:Type) (g:τ->σ) (s':τ) (e:Exit) (d':SS τ) (F':Nat),g s'=s/\Grow d g d'/\To P iU N hp0 c (d.c s N) e (d'.c s' N)/\(K τ g e d' F').run s'=some b
theorem adG {σ:Type} {θ:Nat->Option Nat} {hp1 hp2:Nat->Option AO} {dh:SS σ} {su:σ} {N n:Nat} {xs:List AV} (hn:xs.length=n) (hT:∀t v,look t (dh.c su N).tm=some v->gy θ hp1 hp2 v (match look t (jv 0 xs) with | some x=>x | none => .junk)):gy θ hp1 hp2 ((Yn n dh).c su) (jX xs):=by
 have key:∀(m i:Nat) (ys:List AV),ys.length=m->(∀j,j<m->ys[j]? = xs[i+j]?)->jo θ hp1 hp2 (cL su ((List.range' i m).map fun j=>match jF j dh.tm with | some v=>v | none => .junk)) ys:=by
  intro m
  induction m with
  | zero=>intro i ys hl _;cases ys with
    | nil=>show jo θ hp1 hp2 [] [];rw [jo]
    | cons y ys=>cases hl
  | succ m ih =>
    intro i ys hl hj;cases ys with
    | nil=>cases hl
    | cons y ys =>
      rw [List.range'_succ,List.map_cons,cL,jo];refine ⟨y,ys,rfl,?_,ih (i+1) ys (by simpa using hl) fun j hjm => ?_⟩
      ·have h0:=hj 0 (Nat.succ_pos m);simp only [List.getElem?_cons_zero,Nat.add_zero] at h0;rw [jO];cases hlk:look i dh.tm with
       | none=>simp only [SV.c];rw [gy];trivial
       | some v =>
         have:=hT i (v.c su) (by show look i (cT su dh.tm)=_;rw [pU,hlk];rfl);rw [mQ] at this;simp only [Nat.zero_le,if_true,Nat.sub_zero,<-h0] at this;exact this
      ·have:=hj (j+1) (Nat.succ_lt_succ hjm);rw [List.getElem?_cons_succ] at this;rw [this];congr 1;omega
 have hk:=key n 0 xs hn fun j _=>by rw [Nat.zero_add]
 unfold Yn;rw [oJ,List.range_eq_range'];generalize cL su ((List.range' 0 n).map fun j=>match jF j dh.tm with | some v=>v | none => .junk)=ys at hk;cases ys with
 | nil=>rw [jo] at hk;subst hk;show gy θ hp1 hp2 (.tup []) (.tup []);rw [gy];exact ⟨[],rfl,by rw [jo]⟩
 | cons y ys =>
   rw [jo] at hk;obtain ⟨x,xs',rfl,h1,h2⟩:=hk;cases ys with
   | nil=>rw [jo] at h2;subst h2;exact h1
   | cons y2 ys =>
     rw [jo] at h2;obtain ⟨x2,xs2,rfl,h3,h4⟩:=h2;show gy θ hp1 hp2 (.tup (y::y2::ys)) (.tup (x::x2::xs2));rw [gy];exact ⟨_,rfl,by rw [jo];exact ⟨x,_,rfl,h1,by rw [jo];exact ⟨x2,xs2,rfl,h3,h4⟩⟩⟩
theorem Gj {θ:Nat->Option Nat} {x:Nat}:∀ {l:List Nat},x∈KC θ l->∃r∈l,θ r=some x
 | r::l,h=>by
   rw [KC] at h;split at h
   ·rename_i y hy;rcases List.mem_cons.1 h with rfl | h
    ·exact ⟨r,List.mem_cons_self,hy⟩
    ·obtain ⟨q,h1,h2⟩:=Gj h;exact ⟨q,List.mem_cons_of_mem _ h1,h2⟩
   ·obtain ⟨q,h1,h2⟩:=Gj h;exact ⟨q,List.mem_cons_of_mem _ h1,h2⟩
theorem Um (ρ:Nat->Nat):∀l:List Nat,Uj ρ l=l.map fun r=>(ρ r,some r)
 | []=>rfl
 | r::l=>by rw [Uj,Um ρ l];rfl
theorem zY:∀ {l:List Nat} {i:Nat},isNat i l=true->l=List.range' i l.length
 | [],_,_=>rfl
 | k::l,i,h=>by
   rw [isNat,Bool.and_eq_true] at h;have e:=of_decide_eq_true h.1;rw [List.length_cons,List.range'_succ,<-zY h.2,e]
theorem xB:∀(l:List IT) (x:(cu l).T),(lS l x).map (·.1)=qm l
 | [],_=>rfl
 | i::l,x=>by
   rw [show lS (i::l) x=aT i (jD (uI i) (cu l) x)++lS l (kM (uI i) (cu l) x) from rfl,List.map_append,xB l];cases i with
   | tmp t a cs=>cases a<;>rfl
   | _=>rfl
theorem QM {θ:Nat->Option Nat} {hp1 hp2:Nat->Option AO}:∀(l:List (Nat×AV)) (ys:List AV) (i:Nat),l.map (·.1)=List.range' i ys.length->(∀x∈l,gy θ hp1 hp2 x.2 (match ys[x.1-i]? with | some y=>y | none => .junk))->jo θ hp1 hp2 (l.map (·.2)) ys
 | [],ys,i,h,_=>by
   cases ys with
   | nil=>rw [List.map_nil,jo]
   | cons y ys=>rw [List.length_cons,List.range'_succ] at h;cases h
 | x::l,ys,i,h,hx=>by
   cases ys with
   | nil=>cases h
   | cons y ys =>
     rw [List.length_cons,List.range'_succ,List.map_cons] at h;injection h with h1 h2;rw [List.map_cons,jo];refine ⟨y,ys,rfl,?_,QM l ys (i+1) h2 fun z hz => ?_⟩
     ·have:=hx x List.mem_cons_self;rw [h1,Nat.sub_self] at this;exact this
     ·have hk:z.1∈List.range' (i+1) ys.length:=by rw [<-h2];exact List.mem_map.2 ⟨z,hz,rfl⟩
      have hk:=(List.mem_range'_1.1 hk).1;have:=hx z (List.mem_cons_of_mem _ hz);rw [show z.1-i=(z.1-(i+1))+1 by omega,List.getElem?_cons_succ] at this;exact this
theorem adH {θ:Nat->Option Nat} {hp1 hp2:Nat->Option AO} {ys xs:List AV} (h:jo θ hp1 hp2 ys xs):gy θ hp1 hp2 (jX ys) (jX xs):=by
 cases ys with
 | nil=>rw [jo] at h;subst h;show gy θ hp1 hp2 (.tup []) (.tup []);rw [gy];exact ⟨[],rfl,by rw [jo]⟩
 | cons y ys =>
   rw [jo] at h;obtain ⟨x,xs',rfl,h1,h2⟩:=h;cases ys with
   | nil=>rw [jo] at h2;subst h2;exact h1
   | cons y2 ys =>
     rw [jo] at h2;obtain ⟨x2,xs2,rfl,h3,h4⟩:=h2;show gy θ hp1 hp2 (.tup (y::y2::ys)) (.tup (x::x2::xs2));rw [gy];exact ⟨_,rfl,by rw [jo];exact ⟨x,_,rfl,h1,by rw [jo];exact ⟨x2,xs2,rfl,h3,h4⟩⟩⟩
theorem adI {P:Program} {σ:Type} {β:Type} {N f:Nat} {E:CE} (hE:agw P f E) {args:List (SV σ)} {d:SS σ} {F:Nat} {K:(τ:Type)->(τ->σ)->SV τ->List (Nat×SO τ)->List Nat->Nat->TR β τ} {s:σ} {b:β} (h:(adz E args d F K).run s=some b) :
 ∃(τ:Type) (g:τ->σ) (s':τ) (v:SV τ) (us:List (Nat×SO τ)) (rds:List Nat) (F':Nat),g s'=s/\xY P f=true/\Does P iU f (cL s args) rds (v.c s') (cO s' us) (d.c s N).rd/\(K τ g v us rds F').run s'=some b:=by
 unfold adz at h;generalize namesT (⟨rV 0 args,d.hp⟩:SS σ) E.ai []=th at h;simp only at h;unfold ady at h;generalize O1 (nO th) (aS E.ri++aS E.ai)=fr at h;simp only at h;unfold adx at h;generalize hos:wE (kS d) (KC (nO th) (aS E.ai))=os at h;generalize hρ:akf (nO th) F fr=ρ at h;have hρs:∀r x,nO th r=some x->ρ r=x:=fun r x hx=>by rw [<-hρ];unfold akf;rw [hx]
 generalize nO th=θ at h hos hρs;unfold adw at h;split at h
 ·rw [TR.run] at h;cases h
 rename_i pa hpa;split at h
 ·rw [TR.run] at h;cases h
 rename_i hfz;split at h
 ·rw [TR.run] at h;cases h
 rename_i hB;unfold anC at hB;simp only [Bool.and_eq_true] at hB;obtain ⟨⟨⟨b1,b2,b3⟩,b4,b5⟩,⟨b6,b7,b7a⟩,⟨b8,b9⟩,b10,b11⟩:=hB;have b3:=of_decide_eq_true b3;obtain ⟨h1,h2⟩:=qY h;obtain ⟨r,hf,h3⟩:=Yq h2;have hD:=hE.2 _ _ hf
 -- the names
 obtain ⟨tbl,htb⟩:∃tbl,tbl=Uj ρ (aS E.ri++aS E.ai):=⟨_,rfl⟩
 rw [<-htb] at b6;have hin:∀q∈aS E.ri++aS E.ai,nO tbl (ρ q)=some q:=fun q hq=>zS (List.all_eq_true.1 b6 q hq);have hrf:∀q∈dR E.ri++dR E.ai,q∈aS E.ri++aS E.ai:=fun q hq=>by
  rcases List.mem_append.1 hq with g | g
  ·exact gQ.1 (List.all_eq_true.1 b7 q g)
  ·exact List.mem_append_right _ (gQ.1 (List.all_eq_true.1 b7a q g))
 obtain ⟨o1,o2⟩:=agr (s:=(s,r)) (f1:=Prod.snd) (f2:=fun t:σ×(cu E.ri).T=>pa.f t.1) (htb.trans (Um ρ _)) b4 b5 hin hrf
 -- what is handed over
 have hai:∀q∈aS E.ai,∃v,look q (oz E.ai (pa.f s))=some v:=fun q hq=>qZ (by rw [lZ];exact hq);have hai':∀q∈aS E.ai,(aJ (oz E.ai (pa.f s)) q).isSome=true:=fun q hq=>by
  obtain ⟨v,hv⟩:=hai q hq;unfold aJ;rw [hv];rfl
 have hst:(⟨rV 0 args,os⟩:SS σ).c s 0=⟨0,jv 0 (cL s args),cO s os⟩:=by unfold SS.c;rw [KD]
 obtain ⟨w1,w2⟩:=Ue (N:=0) (hp2:=aJ (oz E.ai (pa.f s))) E.ai pa hpa h1 (fun x hx=>by rw [hfz] at hx;cases hx) (fun x hx=>hai' x.1 (by rw [<-lZ E.ai (pa.f s)];exact List.mem_map.2 ⟨x,hx,rfl⟩)) (fun q hq=>hai' q (gQ.1 (List.all_eq_true.1 b7a q hq)));rw [hst] at w1 w2;have hwH:NH θ (aJ (cO s os)) (aJ (oz E.ai (pa.f s))):=⟨fun q o ho=>w2 (q,o) (bG ho),fun q q' o o' x e1 e2 _ _ e3 e4=>by
  have m1:q∈aS E.ai:=by rw [<-lZ E.ai (pa.f s)];exact List.mem_map.2 ⟨_,bG e1,rfl⟩
  have m2:q'∈aS E.ai:=by rw [<-lZ E.ai (pa.f s)];exact List.mem_map.2 ⟨_,bG e2,rfl⟩
  have k1:=hin q (List.mem_append_right _ m1);have k2:=hin q' (List.mem_append_right _ m2);rw [hρs q x e3] at k1;rw [hρs q' x e4,k1] at k2;cases k2;rfl⟩
 have hwA:jo θ (aJ (cO s os)) (aJ (oz E.ai (pa.f s))) ((lS E.ai (pa.f s)).map (·.2)) (cL s args):=by
  refine QM _ _ 0 ?_ fun x hx => ?_
  ·rw [xB,zY b2,b3,jK]
  ·have:=w1 x hx;unfold SL.get at this;simp only [mQ,Nat.zero_le,if_true] at this;exact this
 have hback:∀x∈bK os,∃c∈aS E.ai,θ c=some x/\ρ c=x:=fun x hx=>by
  obtain ⟨c,c1,c2⟩:=Gj (gQ.1 (List.all_eq_true.1 b9 x hx));exact ⟨c,c1,c2,hρs c x c2⟩
 have hosn:∀x o,look x (cO s os)=some o->x∈bK os:=fun x o ho=>by
  obtain ⟨o',k1,_⟩:=qJ (bG ho);exact ng.2 ⟨o',k1⟩
 have hv:gy (nO tbl) (aJ (oz E.ri r++oz E.ai (pa.f s))) (aJ (cO (s,r) (dA ρ E.ri Prod.snd++dA ρ E.ai (fun t:σ×(cu E.ri).T=>pa.f t.1)))) ((pV ((Et ρ E.ri (Prod.snd:σ×(cu E.ri).T->(cu E.ri).T)).map (·.2))).c (s,r)) (jX ((lS E.ri r).map (·.2))):=by
  rw [oJ,agq];exact adH (Ky E.ri (Prod.snd:σ×(cu E.ri).T->(cu E.ri).T) fun q hq=>by
   rcases List.mem_append.1 hq with g | g
   ·exact o1 q (List.mem_append_left _ g)
   ·exact o1 q (hrf q (List.mem_append_left _ g)))
 have hdo:=anv hD hwH hwA o2 hv fun x o ho=>by
  obtain ⟨c,c1,c2,c3⟩:=hback x (hosn x o ho);have k:=o1 c (List.mem_append_right _ c1);rw [c3] at k;obtain ⟨o',ho'⟩:=Option.isSome_iff_exists.1 k.2;obtain ⟨oc,hoc⟩:=hai c c1;exact ⟨o',ho',c,oc,k.1,c2,hoc,Ui b1 _ (bG hoc)⟩
 have hnm:(cO (s,r) (dA ρ E.ri Prod.snd++dA ρ E.ai (fun t:σ×(cu E.ri).T=>pa.f t.1))).map (·.1)=(aS E.ri++aS E.ai).map ρ:=by rw [dL,List.map_append,kN,kN,List.map_append]
 have hosr:∀y∈cO s os,y.1∈(aS E.ri++aS E.ai).map ρ:=fun y hy=>by
  obtain ⟨o',k1,_⟩:=qJ hy;obtain ⟨c,c1,c2,c3⟩:=hback y.1 (ng.2 ⟨o',k1⟩);exact List.mem_map.2 ⟨c,List.mem_append_right _ c1,c3⟩
 have hosd:∀y∈cO s os,(d.c s N).rd y.1=some y.2:=fun y hy=>by
  obtain ⟨o',k1,k2⟩:=qJ hy;rw [<-hos] at k1;have:=uV k1;rw [<-mM];unfold iI;rw [this,k2];rfl
 refine ⟨_,Prod.fst,(s,r),_,_,_,_,rfl,hE.1,?_,h3⟩;refine Gh (us:=cO (s,r) (dA ρ E.ri Prod.snd++dA ρ E.ai (fun t:σ×(cu E.ri).T=>pa.f t.1))) ?_ fun q => ?_
 rotate_left
 ·rw [dL,dL,Bc (s,r) (fun k=>kL k ((OV θ (⟨rV 0 args,os⟩:SS σ) E.ai).map ρ)),bU,bU,zX (fun k=>kL k ((OV θ (⟨rV 0 args,os⟩:SS σ) E.ai).map ρ))];cases hl:look q (cO (s,r) (dA ρ E.ri Prod.snd)) with
  | some o=>exact .inl rfl
  | none =>
    simp only;split
    ·exact .inl rfl
    ·rename_i hq;refine .inr ⟨rfl,fun o ho => ?_⟩;have hm:=bG ho;have hm':(q,o)∈cO s (dA ρ E.ai pa.f):=by rw [<-KA (s1:=(s,r)) (s2:=s) E.ai (fun t:σ×(cu E.ri).T=>pa.f t.1) pa.f rfl];exact hm
     refine ⟨by
      have:q∈(aS E.ai).map ρ:=by rw [<-kN s ρ E.ai pa.f];exact List.mem_map.2 ⟨_,hm',rfl⟩
      rw [List.map_append];exact List.mem_append_right _ this,?_⟩
     rcases Kz hρs E.ai pa hpa h1 _ hm' with g | g
     ·exact (hq (gQ.2 g)).elim
     ·have g:iI s (kS (⟨rV 0 args,os⟩:SS σ)) q=some o:=g;rw [mM s 0] at g;have g:look q (cO s os)=some o:=g;exact hosd _ (bG g)
 refine qG hdo (fun y hy=>⟨hosr y hy,?_⟩) (Ba b10) (by rw [yg];exact A8 b11) (fun y hy => ?_) (List.all_eq_true.2 fun y hy => ?_)
 ·exact hosd y hy
 ·have hm:y.1∈(aS E.ri++aS E.ai).map ρ:=by rw [<-hnm];exact List.mem_map.2 ⟨y,hy,rfl⟩
  refine ⟨hm,?_⟩;obtain ⟨q,q1,q2⟩:=List.mem_map.1 hm;have:=List.all_eq_true.1 b8 q q1;rw [q2,Bool.or_eq_true] at this;rcases this with g | g
  ·exact .inl (CQ g)
  ·exact .inr (uU (gQ.1 g))
 ·obtain ⟨v,hv⟩:=qZ (k:=y.1) (l:=cO (s,r) (dA ρ E.ri Prod.snd++dA ρ E.ai (fun t:σ×(cu E.ri).T=>pa.f t.1))) (by rw [hnm];exact hosr y hy);rw [hv];rfl
theorem agz (hcon:∀f E,con f=some E->aW P (f % 1000000000) E) {f:Nat} {b:Bool} {E:CE} (h:aki con f b=some E):aW P f E:=by
 unfold aki at h;split at h
 ·cases h
 ·rename_i hf;have hf:=of_decide_eq_true hf;split at h
  ·split at h
   ·rename_i E' hE';cases h;have:=hcon _ _ hE'
    rwa [show (1000000000+f) % 1000000000=f by omega] at this
   ·have:=hcon _ _ h
    rwa [Nat.mod_eq_of_lt hf] at this
  ·have:=hcon _ _ h
   rwa [Nat.mod_eq_of_lt hf] at this
theorem adJ (hcon:∀f E,con f=some E->aW P (f % 1000000000) E) (htab:∀f fn,tab f=some fn->P.funcs[f]? = some fn/\xY P f=true) {n:Nat} (hn:WJ P q tab con plan eg n) {N p:Nat} {β:Type}:adk P N (adB (aQ P) tab con plan (sx (aQ P) q tab con plan eg n) p β):=by
 intro i σ f args d F K s b h;unfold adB at h;split at h
 ·rename_i E hE;have hE':=agz hcon hE;unfold aW at hE';split at h
  ·rename_i hd;rw [hd] at hE';exact agx hE' h
  ·rename_i hd;rw [hd] at hE';exact adI hE' h
 ·split at h
  ·rw [TR.run] at h;cases h
  ·rename_i fn hfn;obtain ⟨t1,t2⟩:=htab f fn hfn;split at h
   ·rw [TR.run] at h;cases h
   ·rename_i c hb;generalize hos:wE (kS d) (CY (kS d) 1000 (sV args) [])=os at h
    try simp only at h
    split at h
    ·rw [TR.run] at h;cases h
    ·rename_i hok;rw [Bool.and_eq_true,Bool.and_eq_true,decide_eq_true_eq] at hok;obtain ⟨k1,k2,k3⟩:=hok;have hosd:∀p∈cO s os,(d.c s N).rd p.1=some p.2:=fun x hx=>by
      obtain ⟨o,h1,h2⟩:=qJ hx;rw [<-hos] at h1;have:=uV h1;rw [<-mM];unfold iI;rw [this,h2];rfl
     have hra:yO (cO s os) (AV.refs.refsL (cL s args))=true:=by rw [yg];exact A8 k3
     have hlen:(cL s args).length<=fn.ntmps:=by rw [jK];exact k1
     have hst:(⟨rV 0 args,os⟩:SS σ).c s fn.ntmps=⟨fn.ntmps,jv 0 (cL s args),cO s os⟩:=by unfold SS.c;rw [KD]
     have hk0:∀r,((aJ (cO s os)) r).isSome=true->(look r (⟨rV 0 args,os⟩:SS σ).hp).isSome=true:=fun r hr=>by
      unfold aJ at hr;rw [lu] at hr;cases hl:look r os with
      | none=>rw [hl] at hr;cases hr
      | some o=>rfl
     split at h
     ·unfold yR at h;rw [TR.run] at h;cases h
     ·rename_i its hits;split at h
      ·first | (unfold yR at h;rw [TR.run] at h;cases h;done) | (rw [TR.run] at h;cases h)
      ·rename_i hck;rw [Bool.and_eq_true] at hck;obtain ⟨c1,c2⟩:=hck;rcases Ul h with ⟨u,h1,h2⟩ | h1
       ·obtain ⟨τ,g,s',e,d',F',g1,g2,g3,g4⟩:=hn _ f fn.ntmps _ c σ _ F _ s _ (aJ (cO s os)) hk0 h1;split at g4
        ·rw [TR.run] at g4;cases g4
        ·rename_i he;split at g4
         ·rw [TR.run] at g4;cases g4
         ·rename_i xs hxs;obtain ⟨x,x1,x2,x3⟩:=qK g4;cases x3;have hgr:Grow (⟨[],os⟩:SS σ) g (⟨rV 0 xs,d'.hp⟩:SS τ):=⟨⟨rV 0 xs,(List.append_nil _).symm⟩,g2.hp⟩
          obtain ⟨θ,q1,q2,q3⟩:=CW (N:=fn.ntmps) hgr x1 x2;rw [g1] at q1 q2 q3;rw [hst] at g3;have hrs:xs.length=fn.results.size:=by have:=(I9 (s:=s') (N:=fn.ntmps) _ _ hxs).2;rw [this,Array.length_toList]
          have hback:Back (cO s os) (d'.c s' fn.ntmps).hp ((headD (⟨[],os⟩:SS σ) its).c (s,x.f s') fn.ntmps).hp ((Yn fn.results.size (headD (⟨[],os⟩:SS σ) its)).c (s,x.f s')) ((pV xs).c s'):=by
           refine ⟨θ,fun r o ho => ?_,q2,?_⟩
           ·exact q1 r (by rw [lu] at ho;cases hl:look r os with | none=>rw [hl] at ho;cases ho | some w=>rfl)
           ·rw [oJ];refine adG (N:=fn.ntmps) (by rw [jK];exact hrs) fun t v hv => ?_;have:=q3 t v hv;unfold SL.get at this;rw [show (SS.c s' fn.ntmps (⟨rV 0 xs,d'.hp⟩:SS τ)).tm=jv 0 (cL s' xs) from KD s' 0 xs] at this;exact this
          have hdo:=Ci t1 hb hlen g3 he (QL hxs) hback;have hin:((cO s os).all fun p=>(look p.1 ((headD (⟨[],os⟩:SS σ) its).c (s,x.f s') fn.ntmps).hp).isSome)=true:=List.all_eq_true.2 fun y hy=>by
           obtain ⟨o,o1,o2⟩:=qJ hy;have:(look y.1 os).isSome=true:=by obtain ⟨w,hw⟩:=jQ o1;rw [hw];rfl
           exact (q1 y.1 this).2
          have hus:((headD (⟨[],os⟩:SS σ) its).c (s,x.f s') fn.ntmps).hp=cO (s,x.f s') (headD (⟨[],os⟩:SS σ) its).hp:=rfl;have hnm:∀y∈((headD (⟨[],os⟩:SS σ) its).c (s,x.f s') fn.ntmps).hp,y.1∈bK (headD (⟨[],os⟩:SS σ) its).hp:=fun y hy=>by
           rw [hus] at hy;obtain ⟨o,o1,_⟩:=qJ hy;exact ng.2 ⟨o,o1⟩
          have hd1:=qG (rds:=bK (headD (⟨[],os⟩:SS σ) its).hp) (hp:=(d.c s N).rd) hdo (fun y hy=>⟨?_,hosd y hy⟩) (Ba k2) hra (fun y hy=>⟨hnm y hy,?_⟩) hin
          ·refine ⟨_,Prod.fst,(s,x.f s'),_,_,_,F,rfl,t2,?_,h2⟩;refine Gh hd1 fun r => ?_;have hsp:((headD (⟨[],os⟩:SS σ) its).c (s,x.f s') fn.ntmps).hp=cO (s,x.f s') (jc its Prod.snd)++cO s os:=by
            rw [hus];show cO (s,x.f s') (jc its Prod.snd++jP Prod.fst os)=_;rw [dL,qW]
           rw [hsp,bU];cases hl:look r (cO (s,x.f s') (jc its Prod.snd)) with
           | some o=>exact .inl rfl
           | none =>
             refine .inr ⟨rfl,fun o ho => ?_⟩;have hm:=bG ho;obtain ⟨o',o1,_⟩:=qJ hm;refine ⟨?_,hosd _ hm⟩;have:r∈bK os:=ng.2 ⟨o',o1⟩;have hnn:∀l:List (Nat×SO σ),bK (jP (Prod.fst:σ×(cu its).T->σ) l)=bK l:=by
              intro l
              induction l with
              | nil=>rfl
              | cons z l ih=>obtain ⟨k,w⟩:=z;rw [jP,bK,bK,ih]
             have happ:∀a b:List (Nat×SO (σ×(cu its).T)),bK (a++b)=bK a++bK b:=by
              intro a b
              induction a with
              | nil=>rfl
              | cons z l ih=>obtain ⟨k,w⟩:=z;rw [List.cons_append,bK,bK,ih];rfl
             show r∈bK (jc its Prod.snd++jP Prod.fst os);rw [happ,hnn];exact List.mem_append_right _ this
          ·have:=List.all_eq_true.1 hin y hy;cases hl:look y.1 ((headD (⟨[],os⟩:SS σ) its).c (s,x.f s') fn.ntmps).hp with
           | none=>rw [hl] at this;cases this
           | some o=>exact hnm (y.1,o) (bG hl)
          ·rw [hus] at hy;obtain ⟨o,o1,_⟩:=qJ hy;have:=List.all_eq_true.1 c2 _ o1;rcases (Bool.or_eq_true _ _).mp this with h | h
           ·exact .inl (CQ h)
           ·exact .inr (uU (gQ.1 h))
       ·exfalso;obtain ⟨τ,g,s',e,d',F',g1,g2,g3,g4⟩:=hn _ f fn.ntmps _ c σ _ F _ s _ (aJ (cO s os)) hk0 h1;split at g4
        ·rw [TR.run] at g4;cases g4
        ·split at g4
         ·rw [TR.run] at g4;cases g4
         ·obtain ⟨x,x1,x2,x3⟩:=qK g4;cases x3
     ·obtain ⟨τ,g,s',e,d',F',g1,g2,g3,g4⟩:=hn _ f fn.ntmps _ c σ _ F _ s _ (aJ (cO s os)) hk0 h;split at g4
      ·rw [TR.run] at g4;cases g4
      ·rename_i he;split at g4
       ·rw [TR.run] at g4;cases g4
       ·rename_i xs hxs;generalize hus:wE (kS d') (CY (kS d') 1000 (sV xs++bK os) [])=us at g4
        try simp only at g4
        split at g4
        ·rw [TR.run] at g4;cases g4
        ·rename_i hbk;simp only [Bool.and_eq_true] at hbk;obtain ⟨⟨b1,b2⟩,b3,b4⟩:=hbk;rw [hst] at g3;have hlk:∀r o,look r (cO s' us)=some o->(d'.c s' fn.ntmps).rd r=some o:=fun r o ho=>by
          obtain ⟨o',o1,o2⟩:=qJ (bG ho);rw [<-hus] at o1;have:=uV o1;rw [<-mM];unfold iI;simp only at this o2;rw [this,o2];rfl
         have hinn:((cO s os).all fun y=>(look y.1 (cO s' us)).isSome)=true:=List.all_eq_true.2 fun y hy=>by
          obtain ⟨o,o1,_⟩:=qJ hy;exact uU (gQ.1 (List.all_eq_true.1 b3 _ (ng.2 ⟨o,o1⟩)))
         have hD:=Tv t1 hb hlen g3 he (QL hxs) (us:=cO s' us) hlk (Ba b1) (by rw [JU];unfold pV;have hh:=A8 (s:=s') b2;split<;>simpa [SV.refs,sV] using hh) hinn;refine ⟨τ,g,s',_,_,_,F',g1,t2,?_,g4⟩;have hnm:∀y∈cO s' us,y.1∈bK us:=fun y hy=>by
          obtain ⟨o,o1,_⟩:=qJ hy;exact ng.2 ⟨o,o1⟩
         have hd1:=qG (rds:=bK us) (hp:=(d.c s N).rd) hD (fun y hy=>⟨?_,hosd y hy⟩) (Ba k2) hra (fun y hy=>⟨hnm y hy,?_⟩) hinn
         ·refine Gh hd1 fun r => ?_;unfold trimS;rw [Bc s' (fun r => !kL r (bK (jP g os))||kL r (bK (d'.hp.take (d'.hp.length-os.length)))) us,zX (fun r => !kL r (bK (jP g os))||kL r (bK (d'.hp.take (d'.hp.length-os.length)))) r (cO s' us)];split
          ·exact .inl rfl
          ·rename_i hq;refine .inr ⟨rfl,fun o ho=>⟨hnm _ (bG ho),?_⟩⟩;rw [Bool.or_eq_true] at hq;have hq1:r∈bK (jP g os):=by
            rcases hm:kL r (bK (jP g os)) with _ | _
            ·exfalso;exact hq (.inl (by rw [hm];rfl))
            ·exact gQ.1 hm
           have hq2:r∉bK (d'.hp.take (d'.hp.length-os.length)):=fun hm=>hq (.inr (gQ.2 hm));obtain ⟨⟨_,_⟩,l2,e2⟩:=g2;have e2:d'.hp=l2++jP g os:=e2;rw [e2,List.length_append,Eo,Nat.add_sub_cancel,List.take_left] at hq2;have h5:=hlk r o ho;unfold SL.rd SS.c at h5;simp only [lu,e2,bU] at h5;rw [qI (l:=l2) (fun hm=>hq2 (by obtain ⟨x,hx,rfl⟩:=List.mem_map.1 hm;exact ng.2 ⟨x.2,hx⟩))] at h5;simp only at h5;rw [<-lu,qW,g1] at h5;exact hosd _ (bG h5)
         ·have:=List.all_eq_true.1 hinn y hy;cases hl:look y.1 (cO s' us) with
          | none=>rw [hl] at this;cases this
          | some o=>exact hnm (y.1,o) (bG hl)
         ·obtain ⟨o,o1,_⟩:=qJ hy;have:=List.all_eq_true.1 b4 _ o1;rcases (Bool.or_eq_true _ _).mp this with h | h
          ·exact .inl (CQ h)
          ·exact .inr (uU (gQ.1 h))
end
section
variable {P:Program} {q:Nat->Bool} {tab:Nat->Option Func} {con:Nat->Option CE} {plan:Nat->Option PL} {eg:Nat->Bool}
theorem zZ {β σ τ:Type} {p kind:Nat} {d:SS σ} {d':SS τ} {s:τ} {b:β} (h:(yR p kind d d':TR β τ).run s=some b):False:=by
 unfold yR at h;rw [TR.run] at h;cases h
theorem adK {N:Nat} {hp0:Nat->Option AO} {a b:Code} {s s1 s1' s2:SL} {e:Exit} (h1:To P iU N hp0 a s .normal s1) (ht:uH iU N hp0 s1.S s1'.S) (h2:To P iU N hp0 b s1' e s2):To P iU N hp0 (.seq a b) s e s2 :=
 VF (mJ h1 (SY ht h2))
theorem Bf {N:Nat} {hp0:Nat->Option AO} {a b:Code} {s s1:SL} {e:Exit} (hne:e ≠ .normal) (h1:To P iU N hp0 a s e s1):To P iU N hp0 (.seq a b) s e s1 :=
 VF (mJ h1 (by cases e<;>first | exact (hne rfl).elim | exact ⟨rfl,rfl⟩))
theorem anG {N:Nat} {hp0:Nat->Option AO} {c:Code} {s s0 s2:SL} {e:Exit} (h:s0.S=s.S) (k:To P iU N hp0 c s0 e s2):To P iU N hp0 c s e s2:=by
 unfold To at k ⊢;rw [<-h];exact k
theorem o8 {σ τ:Type} {hp0:Nat->Option AO} {d:SS σ} {g:τ->σ} {d':SS τ} (hk:∀r,(hp0 r).isSome=true->(look r d.hp).isSome=true) (h:Grow d g d'):∀r,(hp0 r).isSome=true->(look r d'.hp).isSome=true:=fun r hr=>aaN h (hk r hr)
theorem Ez {σ:Type} (d:SS σ) (t:Nat) (b:Bool):Grow d (fun s=>s) (CG d t b):=⟨⟨[(t,.val (.bool b))],by rw [Eh];rfl⟩,⟨[],by rw [Ei];rfl⟩⟩
theorem Yr {n:Nat} (ih:∀m,m<n->WJ P q tab con plan eg m):∀m,m<n->∀(β:Type) (f N p:Nat) (a:Code) (σ:Type) (d:SS σ) (F:Nat) (K:(τ:Type)->(τ->σ)->Exit->SS τ->Nat->TR β τ) (s:σ) (b:β) (hp0:Nat->Option AO),(∀r,(hp0 r).isSome=true->(look r d.hp).isSome=true)->(plan (p*512+6)=some .unroll\/plan (p*512+6)=some .once) ->
 (sx (aQ P) q tab con plan eg (m+1) β f N p (.loop a) σ d F K).run s=some b ->
 ∃(τ:Type) (g:τ->σ) (s':τ) (e:Exit) (d':SS τ) (F' k:Nat),g s'=s/\Grow d g d'/\Rounds P iU N hp0 a e (d'.c s' N) k (d.c s N)/\(K τ g e d' F').run s'=some b:=by
 intro m
 induction m with
 | zero =>
   intro hm β f N p a σ d F K s b hp0 hk hpl h;rw [sx] at h;rcases hpl with hpl | hpl<;>(simp only [hpl] at h;rw [sx,TR.run] at h;cases h)
 | succ m ihm =>
   intro hm β f N p a σ d F K s b hp0 hk hpl h;rw [sx] at h;rcases hpl with hpl | hpl
   ·simp only [hpl] at h;obtain ⟨τ,g,s',e,d',F',h1,h2,h3,h4⟩:=ih (m+1) hm β f N _ a σ d F _ s b hp0 hk h;have other:e ≠ .normal->(K τ g e d' F').run s'=some b->∃(τ:Type) (g:τ->σ) (s':τ) (e:Exit) (d':SS τ) (F' k:Nat),g s'=s/\Grow d g d'/\Rounds P iU N hp0 a e (d'.c s' N) k (d.c s N)/\(K τ g e d' F').run s'=some b:=fun hne hr=>⟨τ,g,s',e,d',F',0,h1,h2,⟨hne,h3⟩,hr⟩
    cases e with
    | normal =>
      simp only at h4;obtain ⟨τ2,g2,s2,e2,d2,F2,k,k1,k2,k3,k4⟩:=ihm (by omega) β f N p a τ d' F' _ s' b hp0 (o8 hk h2) (.inl hpl) h4;exact ⟨τ2,fun t=>g (g2 t),s2,e2,d2,F2,k+1,by show g (g2 s2)=s;rw [k1,h1],h2.trans k2,⟨d'.c s' N,d'.c s' N,h3,uH.refl _,k3⟩,k4⟩
    | exit i=>exact other (by simp) h4
    | goto l=>exact other (by simp) h4
    | ret=>exact other (by simp) h4
    | panic ch=>exact other (by simp) h4
    | outgrown=>exact other (by simp) h4
   ·simp only [hpl] at h;obtain ⟨τ,g,s',e,d',F',h1,h2,h3,h4⟩:=ih (m+1) hm β f N _ a σ d F _ s b hp0 hk h;have other:e ≠ .normal->(K τ g e d' F').run s'=some b->∃(τ:Type) (g:τ->σ) (s':τ) (e:Exit) (d':SS τ) (F' k:Nat),g s'=s/\Grow d g d'/\Rounds P iU N hp0 a e (d'.c s' N) k (d.c s N)/\(K τ g e d' F').run s'=some b:=fun hne hr=>⟨τ,g,s',e,d',F',0,h1,h2,⟨hne,h3⟩,hr⟩
    cases e with
    | normal =>
      simp only at h4;have fin:(plan ((p*512+7)*512+6)=some .unroll\/plan ((p*512+7)*512+6)=some .once)->(sx (aQ P) q tab con plan eg (m+1) β f N (p*512+7) (.loop a) τ d' F' (fun τ' g' e d'' F''=>K τ' (fun t=>g (g' t)) e d'' F'')).run s'=some b->∃(τ:Type) (g:τ->σ) (s':τ) (e:Exit) (d':SS τ) (F' k:Nat),g s'=s/\Grow d g d'/\Rounds P iU N hp0 a e (d'.c s' N) k (d.c s N)/\(K τ g e d' F').run s'=some b:=fun hp' h5=>by
       obtain ⟨τ2,g2,s2,e2,d2,F2,k,k1,k2,k3,k4⟩:=ihm (by omega) β f N _ a τ d' F' _ s' b hp0 (o8 hk h2) hp' h5;exact ⟨τ2,fun t=>g (g2 t),s2,e2,d2,F2,k+1,by show g (g2 s2)=s;rw [k1,h1],h2.trans k2,⟨d'.c s' N,d'.c s' N,h3,uH.refl _,k3⟩,k4⟩
      cases hp2:plan ((p*512+7)*512+6) with
      | none =>
        simp only [hp2] at h4;rw [sx] at h4;simp only [hp2] at h4;exact (zZ h4).elim
      | some pl =>
        cases pl with
        | carry its=>simp only [hp2] at h4;rw [TR.run] at h4;cases h4
        | unroll=>simp only [hp2] at h4;exact fin (.inl hp2) h4
        | once=>simp only [hp2] at h4;exact fin (.inr hp2) h4
        | stop =>
          simp only [hp2] at h4;rw [sx] at h4;simp only [hp2] at h4;rw [TR.run] at h4;cases h4
    | exit i=>exact other (by simp) h4
    | goto l=>exact other (by simp) h4
    | ret=>exact other (by simp) h4
    | panic ch=>exact other (by simp) h4
    | outgrown=>exact other (by simp) h4
theorem Un (hq:Ob P q) (hdp:30<=P.depth) (hm:P.follows .mixedOrders=true) (hcon:∀f E,con f=some E->aW P (f % 1000000000) E) (htab:∀f fn,tab f=some fn->P.funcs[f]? = some fn/\xY P f=true) (n:Nat):WJ P q tab con plan eg n:=by
 induction n using Nat.strongRecOn with
 | _ n ih =>
   intro β f N p c σ d F K s b hp0 hk h;cases n with
   | zero=>rw [sx,TR.run] at h;cases h
   | succ n =>
     have ihn:=ih n (Nat.lt_succ_self n);have idg:∀(e:Exit),To P iU N hp0 c (d.c s N) e (d.c s N)->(K σ (fun s=>s) e d F).run s=some b->∃(τ:Type) (g:τ->σ) (s':τ) (e:Exit) (d':SS τ) (F':Nat),g s'=s/\Grow d g d'/\To P iU N hp0 c (d.c s N) e (d'.c s' N)/\(K τ g e d' F').run s'=some b:=fun e h1 h2=>⟨σ,fun s=>s,s,e,d,F,rfl,Grow.refl d,h1,h2⟩
     cases c with
     | skip=>rw [sx] at h;exact idg _ (XG ⟨rfl,rfl⟩) h
     | label l=>rw [sx] at h;exact idg _ (SX ⟨rfl,rfl⟩) h
     | exit id=>rw [sx] at h;exact idg _ (XH ⟨rfl,rfl⟩) h
     | ret=>rw [sx] at h;exact idg _ (acd ⟨rfl,rfl⟩) h
     | region id ops draw =>
       rw [sx] at h
       try simp only at h
       split at h
       ·rename_i hb;obtain ⟨L,s',g1,g2,⟨τ,g,t,d',F',k1,k2,k3,k4⟩,g4,g5⟩:=Kq (P:=P) (q:=q) (N:=N) (base:=F) (ops:=ops) (draw:=draw) (anc:=if draw=true then uD ops ops.size else []) (fun hd=>by rw [if_pos hd]) (adJ hcon htab ihn) _ σ d [] [] (F+ops.size) _ s b (fun x hx=>by have:=(Tt 0 ops.toList x hx).2;rw [Nat.sub_zero,Array.getElem?_toList] at this;exact this) rfl h;subst k3;exact ⟨τ,g,t,.normal,d',F',k1,k2,ajH hq hdp hm (Au hb) (by rw [g1,Tq,List.range_eq_range',Array.length_toList]) g2 g5,k4⟩
       ·rw [TR.run] at h;cases h
     | seq x y =>
       rw [sx] at h
       try simp only at h
       split at h
       ·exact (zZ h).elim
       ·rename_i its _;rcases Ul h with ⟨u,h1,h2⟩ | h1
        ·obtain ⟨τ,g,s',e,d',F',k1,k2,k3,k4⟩:=ihn _ f N _ x σ d F _ s _ hp0 hk h1;cases e with
         | normal =>
           simp only at k4;obtain ⟨z,z1,z2,z3⟩:=qK k4;cases z3;have ht:=zV (N:=N) k2 z1 z2 hk;rw [k1] at ht;obtain ⟨τ2,g2,s2,e2,d2,F2,m1,m2,m3,m4⟩:=ihn β f N _ y _ (headD d its) F _ (s,z.f s') b hp0 (o8 hk (uo d its)) h2;exact ⟨τ2,fun t=>(g2 t).1,s2,e2,d2,F2,by show (g2 s2).1=s;rw [m1],(uo d its).trans m2,adK k3 ht m3,m4⟩
         | exit i=>obtain ⟨b',_,hb⟩:=oD k4;cases hb
         | goto l=>obtain ⟨b',_,hb⟩:=oD k4;cases hb
         | ret=>obtain ⟨b',_,hb⟩:=oD k4;cases hb
         | panic ch=>obtain ⟨b',_,hb⟩:=oD k4;cases hb
         | outgrown=>obtain ⟨b',_,hb⟩:=oD k4;cases hb
        ·obtain ⟨τ,g,s',e,d',F',k1,k2,k3,k4⟩:=ihn _ f N _ x σ d F _ s _ hp0 hk h1;have fin:e ≠ .normal->(TR.out (K τ g e d' F'):TR ((cu its).T ⊕ β) τ).run s'=some (.inr b)->∃(τ:Type) (g:τ->σ) (s':τ) (e:Exit) (d':SS τ) (F':Nat),g s'=s/\Grow d g d'/\To P iU N hp0 (.seq x y) (d.c s N) e (d'.c s' N)/\(K τ g e d' F').run s'=some b:=fun hne hr=>by
          obtain ⟨b',b1,b2⟩:=oD hr;cases b2;exact ⟨τ,g,s',e,d',F',k1,k2,Bf hne k3,b1⟩
         cases e with
         | normal =>
           simp only at k4;obtain ⟨z,z1,z2,z3⟩:=qK k4;cases z3
         | exit i=>exact fin (by simp) k4
         | goto l=>exact fin (by simp) k4
         | ret=>exact fin (by simp) k4
         | panic ch=>exact fin (by simp) k4
         | outgrown=>exact fin (by simp) k4
       ·obtain ⟨τ,g,s',e,d',F',k1,k2,k3,k4⟩:=ihn _ f N _ x σ d F _ s _ hp0 hk h;cases e with
        | normal =>
          simp only at k4;obtain ⟨τ2,g2,s2,e2,d2,F2,m1,m2,m3,m4⟩:=ihn β f N _ y _ d' F' _ s' b hp0 (o8 hk k2) k4;exact ⟨τ2,fun t=>g (g2 t),s2,e2,d2,F2,by show g (g2 s2)=s;rw [m1,k1],k2.trans m2,adK k3 (uH.refl _) m3,m4⟩
        | exit i=>exact ⟨τ,g,s',_,d',F',k1,k2,Bf (by simp) k3,k4⟩
        | goto l=>exact ⟨τ,g,s',_,d',F',k1,k2,Bf (by simp) k3,k4⟩
        | ret=>exact ⟨τ,g,s',_,d',F',k1,k2,Bf (by simp) k3,k4⟩
        | panic ch=>exact ⟨τ,g,s',_,d',F',k1,k2,Bf (by simp) k3,k4⟩
        | outgrown=>exact ⟨τ,g,s',_,d',F',k1,k2,Bf (by simp) k3,k4⟩
     | cond x a1 a2 =>
       rw [sx] at h
       try simp only at h
       have hev:(d.c s N).S.ev iU x=(xq d x).c s:=by rw [SL.ev_S,Ua s N d x]
       split at h
       ·rename_i t ht;have hx:(d.c s N).S.ev iU x = .d (.val (.bool t)):=by rw [hev,ht,SV.c]
        cases t with
        | true =>
          obtain ⟨τ,g,s',e,d',F',k1,k2,k3,k4⟩:=ihn β f N _ a1 σ d F _ s b hp0 hk h;exact ⟨τ,g,s',e,d',F',k1,k2,xZ hx (fun _=>k3) (fun hf=>by cases hf),k4⟩
        | false =>
          obtain ⟨τ,g,s',e,d',F',k1,k2,k3,k4⟩:=ihn β f N _ a2 σ d F _ s b hp0 hk h;exact ⟨τ,g,s',e,d',F',k1,k2,xZ hx (fun hf=>by cases hf) (fun _=>k3),k4⟩
       ·rename_i cf hcf;have hx:(d.c s N).S.ev iU x = .d (.val (.bool (cf s))):=by rw [hev,hcf,SV.c];rfl
        split at h
        ·rename_i t;have hget:(d.c s N).get t=dX (cf s):=by rw [SL.ev_S] at hx;exact hx
         rw [TR.run] at h;cases hv:cf s with
         | true =>
           rw [hv] at h hx hget;obtain ⟨τ,g,s',e,d',F',k1,k2,k3,k4⟩:=ihn β f N _ a1 σ (CG d t true) F _ s b hp0 (o8 hk (Ez d t true)) h;exact ⟨τ,g,s',e,d',F',k1,(Ez d t true).trans k2,xZ hx (fun _=>anG (Qu hget) k3) (fun hf=>by cases hf),k4⟩
         | false =>
           rw [hv] at h hx hget;obtain ⟨τ,g,s',e,d',F',k1,k2,k3,k4⟩:=ihn β f N _ a2 σ (CG d t false) F _ s b hp0 (o8 hk (Ez d t false)) h;exact ⟨τ,g,s',e,d',F',k1,(Ez d t false).trans k2,xZ hx (fun hf=>by cases hf) (fun _=>anG (Qu hget) k3),k4⟩
        ·rw [TR.run] at h;cases hv:cf s with
         | true =>
           rw [hv] at h hx;obtain ⟨τ,g,s',e,d',F',k1,k2,k3,k4⟩:=ihn β f N _ a1 σ d F _ s b hp0 hk h;exact ⟨τ,g,s',e,d',F',k1,k2,xZ hx (fun _=>k3) (fun hf=>by cases hf),k4⟩
         | false =>
           rw [hv] at h hx;obtain ⟨τ,g,s',e,d',F',k1,k2,k3,k4⟩:=ihn β f N _ a2 σ d F _ s b hp0 hk h;exact ⟨τ,g,s',e,d',F',k1,k2,xZ hx (fun hf=>by cases hf) (fun _=>k3),k4⟩
       ·rw [TR.run] at h;cases h
     | block id a =>
       rw [sx] at h
       try simp only at h
       obtain ⟨τ,g,s',e,d',F',k1,k2,k3,k4⟩:=ihn β f N _ a σ d F _ s b hp0 hk h;cases e with
       | exit i =>
         simp only at k4;split at k4
         ·rename_i hi;have hi:=of_decide_eq_true hi;exact ⟨τ,g,s',_,d',F',k1,k2,rJ (mJ k3 (by show (if i=id then _ else _);rw [if_pos hi];exact ⟨rfl,rfl⟩)),k4⟩
         ·rename_i hi;have hi:=of_decide_eq_false hi;exact ⟨τ,g,s',_,d',F',k1,k2,rJ (mJ k3 (by show (if i=id then _ else _);rw [if_neg hi];exact ⟨rfl,rfl⟩)),k4⟩
       | normal=>exact ⟨τ,g,s',_,d',F',k1,k2,rJ (mJ k3 ⟨rfl,rfl⟩),k4⟩
       | goto l=>exact ⟨τ,g,s',_,d',F',k1,k2,rJ (mJ k3 ⟨rfl,rfl⟩),k4⟩
       | ret=>exact ⟨τ,g,s',_,d',F',k1,k2,rJ (mJ k3 ⟨rfl,rfl⟩),k4⟩
       | panic ch=>exact ⟨τ,g,s',_,d',F',k1,k2,rJ (mJ k3 ⟨rfl,rfl⟩),k4⟩
       | outgrown=>exact ⟨τ,g,s',_,d',F',k1,k2,rJ (mJ k3 ⟨rfl,rfl⟩),k4⟩
     | scope a =>
       rw [sx] at h
       try simp only at h
       obtain ⟨τ,g,s',e,d',F',k1,k2,k3,k4⟩:=ihn β f N _ a σ d F _ s b hp0 hk h;cases e with
       | goto l=>simp only at k4;rw [TR.run] at k4;cases k4
       | exit i=>exact ⟨τ,g,s',_,d',F',k1,k2,wV (mJ k3 ⟨rfl,rfl⟩),k4⟩
       | normal=>exact ⟨τ,g,s',_,d',F',k1,k2,wV (mJ k3 ⟨rfl,rfl⟩),k4⟩
       | ret=>exact ⟨τ,g,s',_,d',F',k1,k2,wV (mJ k3 ⟨rfl,rfl⟩),k4⟩
       | panic ch=>exact ⟨τ,g,s',_,d',F',k1,k2,wV (mJ k3 ⟨rfl,rfl⟩),k4⟩
       | outgrown=>exact ⟨τ,g,s',_,d',F',k1,k2,wV (mJ k3 ⟨rfl,rfl⟩),k4⟩
     | loop a =>
       cases hpl:plan (p*512+6) with
       | none =>
         rw [sx] at h;simp only [hpl] at h;exact (zZ h).elim
       | some pl =>
         cases pl with
         | unroll =>
           obtain ⟨τ,g,s',e,d',F',k,k1,k2,k3,k4⟩:=Yr ih n (Nat.lt_succ_self n) β f N p a σ d F K s b hp0 hk (.inl hpl) h;exact ⟨τ,g,s',e,d',F',k1,k2,Qh k3,k4⟩
         | once =>
           obtain ⟨τ,g,s',e,d',F',k,k1,k2,k3,k4⟩:=Yr ih n (Nat.lt_succ_self n) β f N p a σ d F K s b hp0 hk (.inr hpl) h;exact ⟨τ,g,s',e,d',F',k1,k2,Qh k3,k4⟩
         | stop =>
           rw [sx] at h;simp only [hpl] at h;rw [TR.run] at h;cases h
         | carry its =>
           rw [sx] at h;simp only [hpl] at h;split at h
           ·exact (zZ h).elim
           ·rename_i x hx;obtain ⟨c1,h2⟩:=qY h;rw [TR.run] at h2;have hr:=oZ.1 h2;have t0:=zV (N:=N) (Grow.refl d) hx c1 hk;have key:∀u,yQ (fun u=>(sx (aQ P) q tab con plan eg n ((cu its).T ⊕ β) f N (p*512+6) a (σ×(cu its).T) (headD d its) F (fun τ g e d' F'=>match e with
             | .normal=>Gg (p*512+6) (8*f) d its d'
             | e => .out (K τ (fun t=>(g t).1) e d' F'))).run (s,u)) u b ->
             ∃(τ:Type) (g:τ->σ) (s':τ) (e:Exit) (d':SS τ) (F' k:Nat),g s'=s/\Grow d g d'/\Rounds P iU N hp0 a e (d'.c s' N) k ((headD d its).c (s,u) N)/\(K τ g e d' F').run s'=some b:=by
             intro u hu;generalize hb:b=b0 at hu
             induction hu with
             | done hd =>
               subst hb;obtain ⟨τ,g,s',e,d',F',k1,k2,k3,k4⟩:=ihn _ f N _ a _ (headD d its) F _ _ _ hp0 (o8 hk (uo d its)) hd;have fin:e ≠ .normal->(TR.out (K τ (fun t=>(g t).1) e d' F'):TR ((cu its).T ⊕ β) τ).run s'=some (.inr b)->∃(τ:Type) (g:τ->σ) (s':τ) (e:Exit) (d':SS τ) (F' k:Nat),g s'=s/\Grow d g d'/\Rounds P iU N hp0 a e (d'.c s' N) k ((headD d its).c (s,_) N)/\(K τ g e d' F').run s'=some b:=fun hne hr=>by
                obtain ⟨b',b1,b2⟩:=oD hr;cases b2;exact ⟨τ,fun t=>(g t).1,s',e,d',F',0,by show (g s').1=s;rw [k1],(uo d its).trans k2,⟨hne,k3⟩,b1⟩
               cases e with
               | normal =>
                 simp only at k4;obtain ⟨z,z1,z2,z3⟩:=qK k4;cases z3
               | exit i=>exact fin (by simp) k4
               | goto l=>exact fin (by simp) k4
               | ret=>exact fin (by simp) k4
               | panic ch=>exact fin (by simp) k4
               | outgrown=>exact fin (by simp) k4
             | step hs hrest ihr =>
               obtain ⟨τ,g,s',e,d',F',k1,k2,k3,k4⟩:=ihn _ f N _ a _ (headD d its) F _ _ _ hp0 (o8 hk (uo d its)) hs;cases e with
               | normal =>
                 simp only at k4;obtain ⟨z,z1,z2,z3⟩:=qK k4;cases z3;have ht:=zV (N:=N) ((uo d its).trans k2) z1 z2 hk;simp only [k1] at ht;obtain ⟨τ2,g2,s2,e2,d2,F2,m,m1,m2,m3,m4⟩:=ihr hb;exact ⟨τ2,g2,s2,e2,d2,F2,m+1,m1,m2,⟨_,_,k3,ht,m3⟩,m4⟩
               | exit i=>obtain ⟨b',_,hb'⟩:=oD k4;cases hb'
               | goto l=>obtain ⟨b',_,hb'⟩:=oD k4;cases hb'
               | ret=>obtain ⟨b',_,hb'⟩:=oD k4;cases hb'
               | panic ch=>obtain ⟨b',_,hb'⟩:=oD k4;cases hb'
               | outgrown=>obtain ⟨b',_,hb'⟩:=oD k4;cases hb'
            obtain ⟨τ,g,s',e,d',F',k,k1,k2,k3,k4⟩:=key _ hr;exact ⟨τ,g,s',e,d',F',k1,k2,SY t0 (Qh k3),k4⟩
     | rangeFunc _ _ _ _=>simp only [sx] at h;rw [TR.run] at h;cases h
     | goto _=>simp only [sx] at h;rw [TR.run] at h;cases h
     | refuse _=>simp only [sx] at h;rw [TR.run] at h;cases h
end
theorem Yt {σ:Type}:∀(cs:List CS) (vs:List (SV σ)),IL cs=true->Wy cs vs=[]
 | [],_,_=>rfl
 | .dat u::cs,[],_=>rfl
 | .dat u::cs,v::vs,h=>by rw [Wy,Yt cs vs h];rfl
theorem Uo:∀(cs:List CS) (x:(jm cs).T),IL cs=true->Qy cs x=[]
 | [],_,_=>rfl
 | .dat u::cs,x,h=>by rw [Qy,Uo cs _ h];rfl
theorem Yu:∀(cs:List CS),IL cs=true->fM cs=[]
 | [],_=>rfl
 | .dat u::cs,h=>Yu cs h
section
variable {σ:Type} {s:σ} {rd:Nat->Option (SO σ)}
theorem Ur {cs:List CS} {vs:List (SV σ)} {p:PK σ (jm cs).T} (hd:IL cs=true) (hp:IK rd cs vs=some p) (hc:allT s p.cs):jo (fun _=>none) (iI s rd) (aJ []) (o7 cs (p.f s)) (cL s vs) :=
 (Ej cs vs p hp hc (fun x _ r' hr=>by cases hr) (fun x hx=>by rw [Yt cs vs hd] at hx;cases hx) (fun x hx=>by rw [Uo cs _ hd] at hx;cases hx) (fun r hr=>by rw [Yu cs hd] at hr;cases hr)).1
theorem Gl:∀(ai:List IT) (vs:List (SV σ)) (p:PK σ (cu ai).T),jq ai=true->pW rd ai vs=some p->allT s p.cs ->
 jo (fun _=>none) (iI s rd) (aJ []) ((lS ai (p.f s)).map (·.2)) (cL s vs)
 | [],[],p,hd,hp,hc=>by
   rw [cL];show jo _ _ _ [] [];rw [jo]
 | .tmp t false cs::l,v::vs,p,hd,hp,hc=>by
   rw [pW] at hp;rw [jq,Bool.and_eq_true] at hd;split at hp
   ·rename_i x y hx hy;cases hp;rw [bW] at hc;have e1:jD (uI (.tmp t false cs)) (cu l) (wM (jm cs) (cu l) (x.f s) (y.f s))=x.f s:=jT _ _ _ _;have e2:kM (uI (.tmp t false cs)) (cu l) (wM (jm cs) (cu l) (x.f s) (y.f s))=y.f s:=kT _ _ _ _;have hA:=Ur hd.1 hx hc.1;have hB:=Gl l vs y hd.2 hy hc.2;rw [cL,cL] at hA;rw [cL];simp only [lS,e1,e2,List.map_append];show jo _ _ _ (og (o7 cs (x.f s))::(lS l (y.f s)).map (·.2)) _;rw [jo];refine ⟨_,_,rfl,?_,hB⟩;generalize o7 cs (x.f s)=ys at hA ⊢;cases ys with
    | nil=>rw [jo] at hA;cases hA
    | cons y ys =>
      rw [jo] at hA;obtain ⟨x,xs,h1,h2,h3⟩:=hA;cases h1;cases ys with
      | nil=>exact h2
      | cons z zs=>rw [jo] at h3;obtain ⟨_,_,h4,_⟩:=h3;cases h4
   ·cases hp
 | .tmp t true cs::l,v::vs,p,hd,hp,hc=>by
   rw [jq,Bool.and_eq_true] at hd;cases v with
   | agg ws =>
     simp only [pW] at hp;split at hp
     ·rename_i x y hx hy;cases hp;rw [bW] at hc;have e1:jD (uI (.tmp t true cs)) (cu l) (wM (jm cs) (cu l) (x.f s) (y.f s))=x.f s:=jT _ _ _ _;have e2:kM (uI (.tmp t true cs)) (cu l) (wM (jm cs) (cu l) (x.f s) (y.f s))=y.f s:=kT _ _ _ _;have hA:=Ur hd.1 hx hc.1;have hB:=Gl l vs y hd.2 hy hc.2;rw [cL];simp only [lS,e1,e2,List.map_append];show jo _ _ _ (.agg (o7 cs (x.f s))::(lS l (y.f s)).map (·.2)) _;rw [jo];refine ⟨_,_,rfl,?_,hB⟩;rw [SV.c,gy];exact ⟨_,rfl,hA⟩
     ·cases hp
   | _=>simp only [pW] at hp;cases hp
 | [],_::_,p,_,hp,_=>by cases hp
 | .tmp _ true _::_,[],p,_,hp,_=>by cases hp
 | .tmp _ false _::_,[],p,_,hp,_=>by cases hp
 | .mix _ _::_,_,p,hd,_,_=>by cases hd
 | .row _ _ _::_,_,p,hd,_,_=>by cases hd
 | .arr _ _::_,_,p,hd,_,_=>by cases hd
 | .mp _::_,_,p,hd,_,_=>by cases hd
 | .drop _::_,_,p,hd,_,_=>by cases hd
 | .dead _::_,_,p,hd,_,_=>by cases hd
end
def adL:Nat->List IT->Bool
 | _,[]=>true
 | i,.tmp t _ _::l=>decide (t=i)&&adL (i+1) l
 | _,_=>false
theorem KE:∀(ai:List IT) (i:Nat) (x:(cu ai).T),adL i ai=true->lS ai x=jv i ((lS ai x).map (·.2))
 | [],i,x,_=>rfl
 | .tmp t true cs::l,i,x,h=>by
   rw [adL,Bool.and_eq_true] at h;have ht:=of_decide_eq_true h.1;subst ht;show (t,AV.agg _)::lS l _=jv t (AV.agg _::(lS l _).map (·.2));rw [jv,<-KE l (t+1) _ h.2]
 | .tmp t false cs::l,i,x,h=>by
   rw [adL,Bool.and_eq_true] at h;have ht:=of_decide_eq_true h.1;subst ht;show (t,og _)::lS l _=jv t (og _::(lS l _).map (·.2));rw [jv,<-KE l (t+1) _ h.2]
def WL (fn:Func) (ai ri:List IT):Bool:=(jq ai&&jq ri)&&(adL 0 ai&&decide (ai.length<=fn.ntmps))
theorem QN:∀(ai:List IT) (x:(cu ai).T),jq ai=true->(lS ai x).length=ai.length
 | [],_,_=>rfl
 | .tmp t true cs::l,x,h=>by
   rw [jq,Bool.and_eq_true] at h;show (lS l _).length+1=_;rw [QN l _ h.2];rfl
 | .tmp t false cs::l,x,h=>by
   rw [jq,Bool.and_eq_true] at h;show (lS l _).length+1=_;rw [QN l _ h.2];rfl
section
variable {P:Program} {L:List (List (Option TI))} {cs:List Nat} {con:Nat->Option CE} {plan:Nat->Option PL} {eg:Nat->Bool}
theorem agA (K:Facts P L cs) {l:List (Nat×Func)} (hl:Tz P l) (hcon:∀f E,con f=some E->aW P (f % 1000000000) E) {f:Nat} {fn:Func} (hf:P.funcs[f]? = some fn) (hfn:xY P f=true) {ai ri:List IT} (hsh:WL fn ai ri=true) (n:Nat)
 {G:(cu ai).T->Option (cu ri).T} (hG:∀a r,G a=some r->(adC (vY (aQ P) L) (qOf cs) (TA l) con plan eg n f fn ai ri).run a=some r):aW P f ⟨ai,ri,G⟩:=by
 unfold WL at hsh;rw [Bool.and_eq_true,Bool.and_eq_true,Bool.and_eq_true,decide_eq_true_eq] at hsh;obtain ⟨⟨s1,s2⟩,s3,s4⟩:=hsh;refine aW.mk hfn s1 s2 fun a r hr => ?_;have hrun:=hG a r hr;rw [<-K.hT] at hrun;unfold adC at hrun;split at hrun
 ·rename_i c hb;obtain ⟨τ,g,s',e,d',F',h1,h2,h3,h4⟩:=Un (plan:=plan) K.hq K.hdp K.hm hcon (JO hl) n _ f fn.ntmps 1 c _ _ 0 _ a r (aJ []) (fun r hr=>by cases hr) hrun;unfold anE at h4;split at h4
  ·rw [TR.run] at h4;cases h4
  ·rename_i he;split at h4
   ·rw [TR.run] at h4;cases h4
   ·rename_i xs hxs;split at h4
    ·rename_i p hp;obtain ⟨c1,c2⟩:=qY h4;rw [TR.run] at c2;cases c2;have hlen:((lS ai a).map (·.2)).length<=fn.ntmps:=by rw [List.length_map,QN ai a s1];exact s4
     have hst:(⟨oI ai (fun s=>s),[]⟩:SS (cu ai).T).c a fn.ntmps=⟨fn.ntmps,jv 0 ((lS ai a).map (·.2)),[]⟩:=by
      show (⟨fn.ntmps,cT a (oI ai fun s=>s),[]⟩:SL)=_;rw [uS];exact congrArg (fun t=>(⟨fn.ntmps,t,[]⟩:SL)) (KE ai 0 a s3)
     rw [hst] at h3;refine Ci hf hb hlen h3 he (QL hxs) (aah ?_);have hw:=Gl (s:=s') ri xs p s2 hp c1;rw [mM s' fn.ntmps] at hw;rw [oJ];generalize cL s' xs=ys at hw;generalize (lS ri (p.f s')).map (·.2)=zs at hw;have hw':jo (fun _=>none) (aJ (d'.c s' fn.ntmps).hp) (aJ []) zs ys:=hw;cases zs with
     | nil=>rw [jo] at hw';subst hw';show gy _ _ _ (.tup []) (.tup []);rw [gy];exact ⟨[],rfl,by rw [jo]⟩
     | cons z zs =>
       rw [jo] at hw';obtain ⟨y,ys',rfl,k1,k2⟩:=hw';cases zs with
       | nil=>rw [jo] at k2;subst k2;exact k1
       | cons z2 zs =>
         rw [jo] at k2;obtain ⟨y2,ys2,rfl,k3,k4⟩:=k2;show gy _ _ _ (.tup (z::z2::zs)) (.tup (y::y2::ys2));rw [gy];exact ⟨_,rfl,by rw [jo];exact ⟨y,_,rfl,k1,by rw [jo];exact ⟨y2,ys2,rfl,k3,k4⟩⟩⟩
    ·rw [TR.run] at h4;cases h4
 ·rw [TR.run] at hrun;cases hrun
theorem Us:∀(l:List (Nat×AV)) (i:Nat),l.map (·.1)=List.range' i l.length->l=jv i (l.map (·.2))
 | [],_,_=>rfl
 | x::l,i,h=>by
   rw [List.map_cons,List.length_cons,List.range'_succ] at h;injection h with h1 h2;rw [List.map_cons,jv,<-Us l (i+1) h2,<-h1]
def adM (fn:Func) (ai ri:List IT):Bool:=(isNat 0 (qm ai)&&decide ((qm ai).length<=fn.ntmps))&&(isNat 0 (qm ri)&&decide ((qm ri).length=fn.results.size))
theorem Ut (l:List IT) (x:(cu l).T):(lS l x).length=(qm l).length:=by rw [<-xB l x,List.length_map]
theorem pX (K:Facts P L cs) {l:List (Nat×Func)} (hl:Tz P l) (hcon:∀f E,con f=some E->aW P (f % 1000000000) E) {f:Nat} {fn:Func} (hf:P.funcs[f]? = some fn) (hfn:xY P f=true) {ai ri:List IT} (hsh:adM fn ai ri=true) (n:Nat)
 {G:(cu ai).T->Option (cu ri).T} (hG:∀a r,G a=some r->(aiU (vY (aQ P) L) (qOf cs) (TA l) con plan eg n f fn ai ri).run a=some r):agw P f ⟨ai,ri,G⟩:=by
 unfold adM at hsh;rw [Bool.and_eq_true,Bool.and_eq_true,Bool.and_eq_true,decide_eq_true_eq,decide_eq_true_eq] at hsh;obtain ⟨⟨s1,s2⟩,s3,s4⟩:=hsh;refine ⟨hfn,fun a r hr => ?_⟩;have hrun:=hG a r hr;rw [<-K.hT] at hrun;unfold aiU at hrun;split at hrun
 ·rename_i c hb;have hO:cO a (jc ai (fun s=>s))=oz ai a:=zO a ai _;have hk0:∀r,((aJ (oz ai a)) r).isSome=true->(look r (⟨oI ai (fun s=>s),jc ai (fun s=>s)⟩:SS (cu ai).T).hp).isSome=true:=fun r hr=>by
   unfold aJ at hr;rw [<-hO,lu] at hr;show (look r (jc ai (fun s=>s))).isSome=true;cases hl:look r (jc ai (fun s:(cu ai).T=>s)) with
   | none=>rw [hl] at hr;cases hr
   | some o=>rfl
  obtain ⟨τ,g,s',e,d',F',g1,g2,g3,g4⟩:=Un (plan:=plan) K.hq K.hdp K.hm hcon (JO hl) n _ f fn.ntmps 1 c _ _ 0 _ a r (aJ (oz ai a)) hk0 hrun;unfold anF at g4;split at g4
  ·rw [TR.run] at g4;cases g4
  ·rename_i he;split at g4
   ·rw [TR.run] at g4;cases g4
   ·rename_i xs hxs;split at g4
    ·rename_i p hp;obtain ⟨c1,c2⟩:=qY g4;rw [TR.run] at c2;cases c2;have hlen:((lS ai a).map (·.2)).length<=fn.ntmps:=by rw [List.length_map,Ut];exact s2
     have hst:(⟨oI ai (fun s=>s),jc ai (fun s=>s)⟩:SS (cu ai).T).c a fn.ntmps=⟨fn.ntmps,jv 0 ((lS ai a).map (·.2)),oz ai a⟩:=by
      show (⟨fn.ntmps,cT a (oI ai fun s=>s),cO a (jc ai fun s=>s)⟩:SL)=_;rw [uS,hO];refine congrArg (fun t=>(⟨fn.ntmps,t,oz ai a⟩:SL)) (Us _ 0 ?_);rw [xB,zY s1,Ut]
     rw [hst] at g3;have hrs:xs.length=fn.results.size:=by have:=(I9 (s:=s') (N:=fn.ntmps) _ _ hxs).2;rw [this,Array.length_toList]
     have hgr:Grow (⟨[],jc ai (fun s=>s)⟩:SS (cu ai).T) g (⟨rV 0 xs,d'.hp⟩:SS τ):=⟨⟨rV 0 xs,(List.append_nil _).symm⟩,g2.hp⟩
     obtain ⟨θ,q1,q2,q3⟩:=CW (N:=fn.ntmps) hgr hp c1;rw [g1] at q1 q2 q3;have hH:((headD (⟨[],jc ai (fun s=>s)⟩:SS (cu ai).T) ri).c (a,p.f s') fn.ntmps).hp=oz ri (p.f s')++oz ai a:=by
      show cO (a,p.f s') (jc ri Prod.snd++jP Prod.fst (jc ai (fun s=>s)))=_;rw [dL,zO,qW,hO]
     have hT:((headD (⟨[],jc ai (fun s=>s)⟩:SS (cu ai).T) ri).c (a,p.f s') fn.ntmps).tm=lS ri (p.f s'):=by
      show cT (a,p.f s') (oI ri Prod.snd++nY Prod.fst [])=_;rw [show nY (Prod.fst:(cu ai).T×(cu ri).T->(cu ai).T) []=[] from rfl,List.append_nil,uS]
     have hR:((headD (⟨[],jc ai (fun s=>s)⟩:SS (cu ai).T) ri).c (a,p.f s') fn.ntmps).rd=aJ (oz ri (p.f s')++oz ai a):=by
      unfold SL.rd aJ;rw [hH]
     rw [hR] at q1 q2 q3;rw [hT] at q3;refine Ci hf hb hlen g3 he (QL hxs) ⟨θ,fun r o ho => ?_,q2,?_⟩
     ·exact q1 r (hk0 r (by unfold aJ;rw [ho];rfl))
     ·rw [oJ];refine adH (QM _ _ 0 ?_ fun x hx => ?_)
      ·rw [xB,zY s3,jK,s4,hrs]
      ·have hnd:((lS ri (p.f s')).map (·.1)).Nodup:=by rw [xB,zY s3];exact List.nodup_range'
       have:=q3 x.1 x.2 (I8 hnd hx);unfold SL.get at this;rw [show (SS.c s' fn.ntmps (⟨rV 0 xs,d'.hp⟩:SS τ)).tm=jv 0 (cL s' xs) from KD s' 0 xs] at this;rw [mQ] at this;simp only [Nat.zero_le,if_true,Nat.sub_zero] at this;exact this
    ·split at g4
     ·rw [TR.run] at g4;cases g4
     ·exact (zZ g4).elim
 ·rw [TR.run] at hrun;cases hrun
theorem tJ {f:Nat} {E:CE} (h:agw P f E) (hd:WE E=false):aW P f E:=by
 unfold aW;rw [hd];exact h
end
end Go.Proofs.Ytkpijdndakljjaa
namespace Go.Proofs.Ytkpijdndakljjaa
open Go.ChangeShapes Go.WideShapes Go.Deep Go.RowKit
def Yv:(u:U)->u.T->Prop
 | .int k,n=>(Lit.int k n).wf=true
 | .bool,_=>True
 | .str,s=>s.length<=maxLen
 | .list t,l=>l.length<=maxLen/\∀x∈l,Yv t x
 | .pair a b,p=>Yv a p.1/\Yv b p.2
 | .unit,_=>True
theorem KF {u:Option U} {l:List (Option U)} {w:U} (h:J4.pairs (u::l)=some w):(l=[]/\u=some w)\/∃a b,u=some a/\J4.pairs l=some b/\w = .pair a b:=by
 cases l with
 | nil=>exact .inl ⟨rfl,h⟩
 | cons v l =>
   have e:J4.pairs (u::v::l)=match u,J4.pairs (v::l) with | some u,some v=>some (.pair u v) | _,_=>none:=by
    cases u<;>cases hp:J4.pairs (v::l)<;>simp [J4.pairs,hp]
   rw [e] at h;split at h
   ·rename_i a b _ hb;cases h;exact .inr ⟨a,b,rfl,hb,rfl⟩
   ·cases h
theorem Aa {T:Ty}:∀(m n t:Nat) (u:U) (ds:List DV),J4 T n t=some u->yP T m t=true->Sh T m t ds->∃x:u.T,ds=gK u x/\Yv u x
 | 0,n,t,u,ds,hu,hd,h=>h.elim
 | m+1,0,t,u,ds,hu,hd,h=>by cases hu
 | m+1,n+1,t,u,ds,hu,hd,h=>by
   rw [Sh] at h;rw [J4] at hu;rw [yP] at hd;cases hT:T t with
   | none=>rw [hT] at h;exact h.elim
   | some i =>
     rw [hT] at h hu hd;simp only at h hu hd;obtain ⟨hlen,h⟩:=h;split at hu
     ·rename_i k hk;cases hu;rw [hk] at h;obtain ⟨x,rfl,hx⟩:=h;exact ⟨x,rfl,hx⟩
     ·rename_i hk;cases hu;rw [hk] at h;obtain ⟨b,rfl⟩:=h;exact ⟨b,rfl,trivial⟩
     ·rename_i hk;cases hu;rw [hk] at h;obtain ⟨s,rfl,hs⟩:=h;refine ⟨s.data.toList,?_,?_⟩
      ·show [DV.val (.string s)]=[.val (.string ⟨s.data.toList.toArray⟩)]
       rw [Array.toArray_toList]
      ·show s.data.toList.length<=maxLen;rw [Array.length_toList];exact hs
     ·rename_i e hk;rw [hk] at h hd;obtain ⟨rows,rfl,h1,h2⟩:=h;simp only at hd;split at hu
      ·rename_i w hw;cases hu;cases hTe:T e with
       | none=>rw [hTe] at hd;cases hd
       | some ei =>
         rw [hTe] at hd;simp only [Bool.and_eq_true] at hd;have key:∀rows:List (List DV),(∀r∈rows,Sh T m e r)->∃l:List w.T,rows.flatten=l.flatMap (gK w)/\rows.length=l.length/\∀a∈l,Yv w a:=by
          intro rows
          induction rows with
          | nil=>intro _;exact ⟨[],rfl,rfl,fun a ha=>by cases ha⟩
          | cons r rows ih =>
            intro hr;obtain ⟨l,k1,k2,k3⟩:=ih fun r' h'=>hr r' (List.mem_cons_of_mem _ h');obtain ⟨a,rfl,ha⟩:=Aa m n e w r hw hd.2.2 (hr r List.mem_cons_self);refine ⟨a::l,by rw [List.flatten_cons,List.flatMap_cons,k1],by rw [List.length_cons,List.length_cons,k2],fun b hb => ?_⟩;rcases List.mem_cons.1 hb with rfl | hb
            ·exact ha
            ·exact k3 b hb
         obtain ⟨l,k1,k2,k3⟩:=key rows h2;exact ⟨l,by rw [k1,k2];rfl,by show l.length<=maxLen;omega,k3⟩
      ·cases hu
     ·rename_i fs hk;rw [hk] at h hd;simp only [Bool.and_eq_true] at hd;obtain ⟨hd1,hd2⟩:=hd;have key:∀(fs:List (Nat×Nat)) (o:Nat) (u:U),J4.pairs (fs.map fun f=>J4 T n f.2)=some u->rP T o fs i.size=true->(∀f∈fs,yP T m f.2=true)->(∀f∈fs,∃fi,T f.2=some fi/\Sh T m f.2 ((ds.drop f.1).take fi.size))->∃x:u.T,ds.drop o=gK u x/\Yv u x:=by
       intro fs
       induction fs with
       | nil =>
         intro o u hu hc _ _;cases hu;rw [rP] at hc;have:=eq_of_beq hc;exact ⟨(),by rw [List.drop_eq_nil_of_le (by omega)];rfl,trivial⟩
       | cons f fs ih =>
         intro o u hu hc hdd hf;obtain ⟨fo,ft⟩:=f;rw [rP,Bool.and_eq_true] at hc;obtain ⟨hc1,hc2⟩:=hc;have hc1:=eq_of_beq hc1;subst hc1;obtain ⟨fi,f1,f2⟩:=hf (fo,ft) List.mem_cons_self;simp only at f1 f2;rw [f1] at hc2;simp only at hc2;rw [List.map_cons] at hu;have hdf:=hdd (fo,ft) List.mem_cons_self;rcases KF hu with ⟨e1,e2⟩ | ⟨a,b,e1,e2,rfl⟩
         ·obtain ⟨x,x1,x2⟩:=Aa m n ft u _ e2 hdf f2;refine ⟨x,?_,x2⟩;have:fs=[]:=by cases fs with | nil=>rfl | cons _ _=>cases e1
          subst this;rw [rP] at hc2;have:=eq_of_beq hc2;rw [<-x1,List.take_of_length_le (by rw [List.length_drop];omega)]
         ·obtain ⟨x,x1,x2⟩:=Aa m n ft a _ e1 hdf f2;obtain ⟨y,y1,y2⟩:=ih (fo+fi.size) b e2 hc2 (fun f hf'=>hdd f (List.mem_cons_of_mem _ hf')) (fun f hf'=>hf f (List.mem_cons_of_mem _ hf'));refine ⟨(x,y),?_,x2,y2⟩;show _=gK a x++gK b y;rw [<-x1,<-y1,<-List.drop_drop,List.take_append_drop]
      obtain ⟨x,x1,x2⟩:=key fs 0 u hu hd1 (fun f hf=>List.all_eq_true.1 hd2 f hf) h;rw [List.drop_zero] at x1;exact ⟨x,x1,x2⟩
     ·rename_i ka ea hk;rw [hk] at h hd;obtain ⟨ei,hei,h⟩:=h;simp only [hei,Bool.and_eq_true] at hd;obtain ⟨hd1,hd2⟩:=hd;have hmap:(aaw ka ea ei.size).map (fun f=>J4 T n f.2)=List.replicate ka (J4 T n ea):=by
       unfold aaw;rw [List.map_map];apply List.ext_getElem
       ·simp
       ·intro q q1 q2;simp
      rw [<-hmap] at hu;have key:∀(fs:List (Nat×Nat)) (o:Nat) (u:U),J4.pairs (fs.map fun f=>J4 T n f.2)=some u->rP T o fs i.size=true->(∀f∈fs,yP T m f.2=true)->(∀f∈fs,∃fi,T f.2=some fi/\Sh T m f.2 ((ds.drop f.1).take fi.size))->∃x:u.T,ds.drop o=gK u x/\Yv u x:=by
       intro fs
       induction fs with
       | nil =>
         intro o u hu hc _ _;cases hu;rw [rP] at hc;have:=eq_of_beq hc;exact ⟨(),by rw [List.drop_eq_nil_of_le (by omega)];rfl,trivial⟩
       | cons f fs ih =>
         intro o u hu hc hdd hf;obtain ⟨fo,ft⟩:=f;rw [rP,Bool.and_eq_true] at hc;obtain ⟨hc1,hc2⟩:=hc;have hc1:=eq_of_beq hc1;subst hc1;obtain ⟨fi,f1,f2⟩:=hf (fo,ft) List.mem_cons_self;simp only at f1 f2;rw [f1] at hc2;simp only at hc2;rw [List.map_cons] at hu;have hdf:=hdd (fo,ft) List.mem_cons_self;rcases KF hu with ⟨e1,e2⟩ | ⟨a,b,e1,e2,rfl⟩
         ·obtain ⟨x,x1,x2⟩:=Aa m n ft u _ e2 hdf f2;refine ⟨x,?_,x2⟩;have:fs=[]:=by cases fs with | nil=>rfl | cons _ _=>cases e1
          subst this;rw [rP] at hc2;have:=eq_of_beq hc2;rw [<-x1,List.take_of_length_le (by rw [List.length_drop];omega)]
         ·obtain ⟨x,x1,x2⟩:=Aa m n ft a _ e1 hdf f2;obtain ⟨y,y1,y2⟩:=ih (fo+fi.size) b e2 hc2 (fun f hf'=>hdd f (List.mem_cons_of_mem _ hf')) (fun f hf'=>hf f (List.mem_cons_of_mem _ hf'));refine ⟨(x,y),?_,x2,y2⟩;show _=gK a x++gK b y;rw [<-x1,<-y1,<-List.drop_drop,List.take_append_drop]
      obtain ⟨x,x1,x2⟩:=key (aaw ka ea ei.size) 0 u hu hd1 (fun f hf=>by obtain ⟨_,_,rfl⟩:=List.mem_map.1 hf;exact hd2) h;rw [List.drop_zero] at x1;exact ⟨x,x1,x2⟩
     ·rename_i h1 h2 h3 h4 h5 h6;cases hk:i.k<;>rw [hk] at hd<;>first | (cases hd;done) | exact (h1 _ hk).elim | exact (h2 hk).elim | exact (h3 hk).elim | exact (h4 _ hk).elim | exact (h5 _ hk).elim | exact (h6 _ _ hk).elim
def sH:U->List CS
 | .pair a b=>sH a++sH b
 | .unit=>[]
 | u=>[.dat u]
def WfC:(c:CS)->(uC c).T->Prop
 | .dat u,x=>Yv u x
 | _,_=>True
def QO:(cs:List CS)->(jm cs).T->Prop
 | [],_=>True
 | c::cs,x=>WfC c (jD (uC c) (jm cs) x)/\QO cs (kM (uC c) (jm cs) x)
theorem O4:∀(a b:List CS) (x:(jm a).T) (y:(jm b).T),∃z:(jm (a++b)).T,o7 (a++b) z=o7 a x++o7 b y/\(QO a x->QO b y->QO (a++b) z)
 | [],b,x,y=>⟨y,rfl,fun _ h=>h⟩
 | c::a,b,x,y=>by
   obtain ⟨z,h1,h2⟩:=O4 a b (kM (uC c) (jm a) x) y;refine ⟨wM (uC c) (jm (a++b)) (jD (uC c) (jm a) x) z,?_,fun w1 w2 => ?_⟩
   ·show aC c (jD (uC c) (jm (a++b)) (wM (uC c) (jm (a++b)) _ z))::o7 (a++b) (kM (uC c) (jm (a++b)) (wM (uC c) (jm (a++b)) _ z))=aC c _::o7 a _++o7 b y;rw [jT,kT,h1];rfl
   ·refine ⟨?_,?_⟩
    ·exact (congrArg (WfC c) (jT (uC c) (jm (a++b)) (jD (uC c) (jm a) x) z)).mpr w1.1
    ·exact (congrArg (QO (a++b)) (kT (uC c) (jm (a++b)) (jD (uC c) (jm a) x) z)).mpr (h2 w1.2 w2)
theorem cells_one (u:U) (x:u.T) (hs:sH u=[.dat u]) (h:aC (.dat u) x = .d ((gK u x).headD (.val .nilFunc))) (h1:fJ u=1) (hw:Yv u x):∃z:(jm [.dat u]).T,o7 [.dat u] z=(gK u x).map .d/\QO [.dat u] z:=by
 refine ⟨wM u .unit x (),?_,?_⟩
 ·show [aC (.dat u) (jD u .unit (wM u .unit x ()))]=_;rw [jT,h];have:=bV u x;rw [h1] at this;cases he:gK u x with
  | nil=>rw [he] at this;cases this
  | cons d ds =>
    rw [he] at this;cases ds with
    | nil=>rfl
    | cons _ _=>cases this
 ·refine ⟨?_,trivial⟩;show Yv u (jD u .unit (wM u .unit x ()));rw [jT];exact hw
theorem o9:∀(u:U) (x:u.T),Yv u x->∃z:(jm (sH u)).T,o7 (sH u) z=(gK u x).map .d/\QO (sH u) z
 | .int k,x,h=>cells_one (.int k) x rfl rfl rfl h
 | .bool,x,h=>cells_one .bool x rfl rfl rfl h
 | .str,x,h=>cells_one .str x rfl rfl rfl h
 | .list t,x,h=>cells_one (.list t) x rfl rfl rfl h
 | .unit,x,h=>⟨(),rfl,trivial⟩
 | .pair a b,x,h=>by
   obtain ⟨z1,g1,w1⟩:=o9 a x.1 h.1;obtain ⟨z2,g2,w2⟩:=o9 b x.2 h.2;obtain ⟨z,g3,w3⟩:=O4 _ _ z1 z2;refine ⟨z,?_,w3 w1 w2⟩;show o7 (sH a++sH b) z=(gK a x.1++gK b x.2).map .d;rw [g3,g1,g2,List.map_append]
def WfI:(i:IT)->(uI i).T->Prop
 | .tmp _ _ cs,x=>QO cs x
 | _,_=>True
def WM:(l:List IT)->(cu l).T->Prop
 | [],_=>True
 | i::l,x=>WfI i (jD (uI i) (cu l) x)/\WM l (kM (uI i) (cu l) x)
def anH (T:Ty) (j t:Nat):Option IT :=
 match T t,J4 T 20 t with
 | some i,some u=>match i.k with
   | .agg _=>some (.tmp j true (sH u))
   | .arr _ _=>some (.tmp j true (sH u))
   | _=>some (.tmp j false [.dat u])
 | _,_=>none
def aiV (E:En) (i:IT) (v:Value):Prop:=∃y:(uI i).T,WfI i y/\∃x,(aT i y).map (·.2)=[x]/\Rel E x v
theorem adN {E:En}:∃a:(cu []).T,WM [] a/\aP E ((lS [] a).map (·.2)) []:=⟨(),trivial,by show aP E [] [];rw [aP]⟩
theorem O5 {E:En} {i:IT} {l:List IT} {v:Value} {vs:List Value} (h:aiV E i v) (k:∃a:(cu l).T,WM l a/\aP E ((lS l a).map (·.2)) vs):∃a:(cu (i::l)).T,WM (i::l) a/\aP E ((lS (i::l) a).map (·.2)) (v::vs):=by
 obtain ⟨y,w1,x,e,hr⟩:=h;obtain ⟨a,w2,hrl⟩:=k;refine ⟨wM (uI i) (cu l) y a,⟨?_,?_⟩,?_⟩
 ·exact (congrArg (WfI i) (jT (uI i) (cu l) y a)).mpr w1
 ·exact (congrArg (WM l) (kT (uI i) (cu l) y a)).mpr w2
 ·show aP E ((aT i (jD (uI i) (cu l) (wM (uI i) (cu l) y a))++lS l (kM (uI i) (cu l) (wM (uI i) (cu l) y a))).map (·.2)) (v::vs);rw [jT,kT,List.map_append,e];show aP E (x::_) _;rw [aP];exact ⟨v,vs,rfl,hr,hrl⟩
section
variable {H:Type} {ec:TypeId×Value->H} {P:Program} {W:World} {base:Nat} {spare:Nat->Bool} {held:Bool} {T:Ty} {m t j:Nat} {v:Value} {d:DataW H} {ps:List MemPlace}
theorem open_arg (hT:aQ P=T) (hd:yP T 20 t=true) {i:IT} (hi:anH T j t=some i) {b0:Nat} (hv:v.okWide P W .any b0 t) (h:DataW.Trod ec P W base spare held t v d ps):aiV (E0 W) i v:=by
 unfold anH at hi;split at hi
 ·rename_i ti u hti hu;split at hi
  ·rename_i fs hk;cases hi;obtain ⟨ds,h1,h2⟩:=TF (m:=20) hT hd (by rw [hti];simp only [hk]) hv h;obtain ⟨x,rfl,hx⟩:=Aa 20 20 t u ds hu hd h1;obtain ⟨z,z1,z2⟩:=o9 u x hx;refine ⟨z,z2,_,rfl,?_⟩;show Rel (E0 W) (.agg (o7 (sH u) z)) v;rw [z1];exact h2
  ·rename_i ka ea hk;cases hi;obtain ⟨ds,h1,h2⟩:=TF (m:=20) hT hd (by rw [hti];simp only [hk]) hv h;obtain ⟨x,rfl,hx⟩:=Aa 20 20 t u ds hu hd h1;obtain ⟨z,z1,z2⟩:=o9 u x hx;refine ⟨z,z2,_,rfl,?_⟩;show Rel (E0 W) (.agg (o7 (sH u) z)) v;rw [z1];exact h2
  ·rename_i hk hna0;cases hi;have hna:∀k n,ti.k ≠ .arr k n:=fun k n e=>hna0 _ _ e;obtain ⟨x,h1,h2⟩:=acF (m:=20) hT hd (by rw [hti];show (!ti.k.isAgg)=true;cases hkk:ti.k<;>first | rfl | exact (hk _ hkk).elim | exact (hna _ _ hkk).elim) hv h;obtain ⟨y,e,hy⟩:=Aa 20 20 t u [x] hu hd h1;have hz:∃z:(jm [.dat u]).T,o7 [.dat u] z=(gK u y).map .d/\QO [.dat u] z:=by
    have hl:=congrArg List.length e;rw [bV] at hl;cases u with
    | int k=>exact o9 _ y hy
    | bool=>exact o9 _ y hy
    | str=>exact o9 _ y hy
    | list w=>exact o9 _ y hy
    | unit=>cases hl
    | pair a b =>
      exfalso;rw [J4,hti] at hu;simp only at hu;cases hkk:ti.k with
      | agg fs=>exact hk _ hkk
      | arr k n=>exact hna _ _ hkk
      | slice e=>rw [hkk] at hu;simp only at hu;split at hu<;>cases hu
      | _=>rw [hkk] at hu;cases hu
   obtain ⟨z,z1,z2⟩:=hz;refine ⟨z,z2,_,rfl,?_⟩;show Rel (E0 W) (og (o7 [.dat u] z)) v;rw [z1,<-e];exact h2
 ·cases hi
end
def wF (l:List (Nat×PL)) (p:Nat):Option PL:=jF p l
def fC:Nat->Bool:=fun _=>false
def anI:Nat->Bool:=fun _=>true
def adO (l:List (Nat×CE)) (f:Nat):Option CE:=jF f l
def eH (P:Program):List (Nat×CE)->Prop
 | []=>True
 | (f,E)::l=>aW P (f % 1000000000) E/\eH P l
theorem oh {P:Program} {l:List (Nat×CE)} (h:eH P l):∀f E,adO l f=some E->aW P (f % 1000000000) E:=by
 intro f E hE;unfold adO at hE;rw [jO] at hE
 induction l with
 | nil=>cases hE
 | cons x l ih =>
   obtain ⟨k,E'⟩:=x;rw [look] at hE;split at hE
   ·rename_i hk;subst hk;cases hE;exact h.1
   ·exact ih h.2 hE
def riB:List IT:=[.tmp 0 false [.dat .bool]]
theorem agB {P:Program} {f:Nat} {ai:List IT} {G:(cu ai).T->Option Bool} (h:aW P f ⟨ai,riB,G⟩) {a:(cu ai).T} (hG:G a=some true) (hd:jq ai=true:=by rfl):eY P iU f ((lS ai a).map (·.2)) [] (dX true) []:=by
 unfold aW at h;have e:WE ⟨ai,riB,G⟩=true:=by unfold WE;rw [hd];rfl
 rw [e] at h;exact h.2 a true hG
def ah {α β:Type} (x:Option α) (f:α->Option β):Option β:=match x with | some a=>f a | none=>none
def aA {α β:Type} (x:Option (α ⊕ β)) (f:α->Option β):Option β:=match x with | some (.inl u)=>f u | some (.inr x)=>some x | none=>none
def au {α β:Type} (x:Option β):Option (α ⊕ β):=match x with | some b=>some (.inr b) | none=>none
end Go.Proofs.Ytkpijdndakljjaa
