import Derived.Test.YtigfeinnobfflaaGreatHAp
import Derived.Scope
import Derived.ProofKit
import Derived.Deep.Slices
import Derived.Deep.Fields
import Derived.ChangeSame
import Derived.OpenShut
set_option linter.unusedSimpArgs false
set_option linter.unusedVariables false
namespace Go.Proofs.YtigfeinnobfflaaGreat
open Go.RowKit
structure S where
 tm:Nat->AV
 hp:Nat->Option AO
def y5 (v:Value):AV :=
 match v with
 | .agg cs=>if cs.toList.all (·.oneCell') then .agg (cs.toList.map fun c => .d (.val c)) else .junk
 | .tuple cs=>if cs.isEmpty then .undef else .junk
 | v => .d (.val v)
def S.ev (GL:Nat->Option (List DV)) (s:S):Operand->AV
 | .tmp t=>s.tm t
 | .const v=>y5 v
 | .global g=>match GL g with | some cells => .dptr cells 0 | none => .junk
 | .func f=>match Nat.blt f 1048576 with | true => .clo f [] | false => .junk
def DJ (x:Option AO) (o:AO):Bool :=
 match x,o with
 | some (.data _ s _ _),.data _ s' _ _=>s==s'
 | some (.mix _),.mix _=>true
 | some (.mp _ _ _),.mp _ _ _=>true
 | some .dead,.dead=>true
 | _,_=>false
def lT (hp:Nat->Option AO) (us:List (Nat×AO)):List Nat:=(us.filter fun p => !DJ (hp p.1) p.2).map (·.1)
structure Ef where
 v:AV
 upd:List (Nat×AO)
 rds:List Nat
 lvs:List Nat
 chg:List Nat
def S.put (s:S) (d:Option Nat) (v:AV):S:=match d with | some t=>{s with tm:=fun k=>if k=t then v else s.tm k} | none=>s
def S.app (s:S) (d:Option Nat) (e:Ef):S:={(s.put d e.v) with hp:=dH s.hp e.upd}
structure vO (GL:Nat->Option (List DV)) (N:Nat) (E:En) (a:Act) (w:World) (s:S):Prop where
 h:w.heap=E.h
 hp:E.hp=s.hp
 sim:eX GL E
 n:a.tmps.size=N
 df:a.defers=[]
 tm:∀t,Rel E (s.tm t) (a.tmps.getD t undef)
theorem UM (E:En) (v:Value):Rel E (y5 v) v:=by
 unfold y5;cases v with
 | agg cs =>
   simp only;split
   ·rename_i h;rw [Rel];refine ⟨cs,rfl,?_⟩;have:=nP (E:=E) cs.toList (fun u hu=>List.all_eq_true.1 h u hu);rw [List.map_map] at this;exact this
   ·rw [Rel];trivial
 | tuple cs =>
   simp only;split
   ·rename_i h;rw [Rel];have:cs = #[]:=by simpa using h
    rw [this];rfl
   ·rw [Rel];trivial
 | _=>simp only;rw [Rel,bZ];exact ⟨rfl,rfl⟩
theorem vO.ev {GL:Nat->Option (List DV)} {N:Nat} {E:En} {a:Act} {w:World} {s:S} (h:vO GL N E a w s) (x:Operand):Rel E (s.ev GL x) (a.eval x):=by
 cases x with
 | tmp t=>exact h.tm t
 | const v=>exact UM E v
 | global g =>
   show Rel E (match GL g with | some cells => .dptr cells 0 | none => .junk) (.pointer (some ⟨g,0,none⟩));cases hg:GL g with
   | none=>simp only;rw [Rel];trivial
   | some cells=>simp only;rw [Rel];exact ⟨g,0,rfl,h.sim.gl g cells hg⟩
 | func f =>
   show Rel E (match Nat.blt f 1048576 with | true => .clo f [] | false => .junk) (.func (.func f) #[] #[]);split
   ·rename_i hb;have hlt:f<1048576:=Nat.le_of_ble_eq_true hb;rw [Rel];exact ⟨(#[],#[]),⟨by rw [Nat.mod_eq_of_lt hlt],by rw [Nat.div_eq_of_lt hlt];rfl⟩,by simp only [List.append_nil];rw [aG]⟩
   ·rw [Rel];trivial
theorem vO.put {GL:Nat->Option (List DV)} {N:Nat} {E E':En} {a:Act} {w w':World} {s:S} (h:vO GL N E a w s) {us:List (Nat×AO)} (hg:Goes GL E w us E' w') {d:Option Nat} (hd:∀t,d=some t->t<N) {v:AV} {u:Value} (hr:Rel E' v u) :
 vO GL N E' (a.put d u) w' {(s.put d v) with hp:=dH s.hp us}:=by
 refine ⟨hg.h,by rw [hg.hp,h.hp],hg.sim,?_,?_,fun t => ?_⟩
 ·cases d with
  | none=>exact h.n
  | some t=>simp only [Act.put,Array.size_setIfInBounds];exact h.n
 ·cases d<;>exact h.df
 ·have ht:=Rel.ext hg.ext _ _ (h.tm t);cases d with
  | none=>exact ht
  | some k =>
    simp only [S.put,Act.put];by_cases hk:t=k
    ·subst hk;rw [if_pos rfl];have:=hd t rfl;rw [Array.getD_eq_getD_getElem?,Array.getElem?_setIfInBounds_self_of_lt (by rw [h.n];exact this)];exact hr
    ·rw [if_neg hk,Array.getD_eq_getD_getElem?,Array.getElem?_setIfInBounds_ne (fun e=>hk e.symm),<-Array.getD_eq_getD_getElem?];exact ht
def Does (P:Program) (GL:Nat->Option (List DV)) (f:FuncId) (args:List AV) (rds:List Nat) (v:AV) (us:List (Nat×AO)) (hp:Nat->Option AO):Prop :=
 ∀(E:En) (w:World) (vs:Array Value),(∀r∈rds,E.hp r=hp r)->w.heap=E.h->eX GL E->aG E args vs.toList->Calls P f vs w fun e w'=>∃u E',e = .returned u/\Goes GL E w us E' w'/\Rel E' v u
def qA (P:Program) (f:FuncId):Bool:=match P.funcs[f]? with | some fn=>fn.name != "runtime.NumGoroutine" && fn.body.isSome | none=>false
def DoesE (P:Program) (GL:Nat->Option (List DV)) (f:FuncId) (args:List AV) (rds:List Nat) (v:AV) (us:List (Nat×AO)) (hp:Nat->Option AO):Prop :=
 ∀(E:En) (w:World) (vs:Array Value),(∀r∈rds,E.hp r=hp r)->w.heap=E.h->eX GL E->aG E args vs.toList->∃u w' E',(callFunc f vs).run P w = .ok (.value u) w'/\Goes GL E w us E' w'/\Rel E' v u
def DX (P:Program) (GL:Nat->Option (List DV)) (f:FuncId) (args:List AV) (rds:List Nat) (v:AV) (us:List (Nat×AO)) (hp:Nat->Option AO):Prop :=
 (qA P f=true/\Does P GL f args rds v us hp)\/DoesE P GL f args rds v us hp
def rF (ρ:Operand->AV) (o:Oper):Option (FuncId×List AV) :=
 match o.op with
 | .call c=>match c.callee with
   | .value x=>match ρ x with
     | .clo f caps=>some (f % 1048576,caps.take (f / 1048576)++(c.args.toList.map ρ++caps.drop (f / 1048576)))
     | _=>none
   | .invoke x n=>match ρ x with
     | .d (.val (.iface t (.agg cs)))=>match cs.toList.isEmpty,Oz t n with
       | true,some f=>some (f,.agg []::c.args.toList.map ρ)
       | _,_=>none
     | _=>none
   | _=>none
 | _=>none
def EfR (P:Program) (GL:Nat->Option (List DV)) (q:Nat->Bool) (slot:Nat) (o:Oper) (s:S) (e:Ef):Prop :=
 e.chg=lT s.hp e.upd /\
 match rF (s.ev GL) o with
 | some (f,args)=>e.lvs=[]/\DX P GL f args e.rds e.v e.upd s.hp
 | none=>∃f,eff (aO P) q s.hp slot o (s.ev GL)=some f/\e.v=f.v/\e.upd=f.upd/\e.rds=f.rds/\e.lvs=f.lvs
section
variable {P:Program} {GL:Nat->Option (List DV)} {q:Nat->Bool} {N:Nat} {E:En} {a:Act} {w:World} {s:S}
theorem H7 {rs:List Nat} {rd:Nat->Option AO} {r:Nat} {o:AO} (h:restrict rs rd r=some o):rd r=some o:=by
 unfold restrict at h;split at h
 ·exact h
 ·cases h
theorem aa7 (hq:Ov P q) (hdp:30<=P.depth) (h:vO GL N E a w s) {slot:Nat} {o:Oper} {f:Eff} (hf:eff (aO P) q s.hp slot o (s.ev GL)=some f):Ends P GL E w (execOp a.eval o) f.v f.upd:=by
 unfold eff at hf;simp only at hf;have hrd:∀rs r ob,restrict rs s.hp r=some ob->E.hp r=some ob:=fun rs r ob hr=>by rw [h.hp];exact H7 hr
 split at hf
 ·rename_i v hv;simp only [Option.some.injEq] at hf;subst hf;obtain ⟨u,hu,hr⟩:=XD (w:=w) hq hdp (qy (hrd _)) h.ev hv;exact qc h.h h.sim hu hr
 ·rename_i hn;split at hf
  ·rename_i v us hv;simp only [Option.some.injEq] at hf;subst hf;refine XJ h.h h.sim (hrd _) (fun hs => ?_) h.ev hv;unfold restrict at hs;rw [if_pos (by simp)] at hs;rw [h.hp];exact hs
  ·split at hf
   ·rename_i v us hv;simp only [Option.some.injEq] at hf;subst hf;refine XL h.h h.sim (hrd _) (fun hs => ?_) h.ev hv;unfold restrict at hs;rw [if_pos (by simp)] at hs;rw [h.hp];exact hs
   ·cases hf
theorem OX (hq:Ov P q) {o:Oper} (h:vO GL N E a w s) {f:FuncId} {args:List AV} (hc:rF (s.ev GL) o=some (f,args)):∃vs:Array Value,(execOp a.eval o).run P w=(callFunc f vs).run P w/\aG E args vs.toList:=by
 unfold rF at hc;obtain ⟨dst,op,type,pos,after,guard⟩:=o;simp only at hc;split at hc
 ·rename_i c;split at hc
  ·rename_i x hx;split at hc
   ·rename_i g caps hg;simp only [Option.some.injEq,Prod.mk.injEq] at hc;obtain ⟨rfl,rfl⟩:=hc;have hr:=h.ev x;rw [hg,Rel] at hr;obtain ⟨⟨fv,cv⟩,⟨e1,e0⟩,e2⟩:=hr;refine ⟨fv++c.args.map a.eval++cv,?_,?_⟩
    ·simp only [execOp,resolve,hx,e1,Deferred.ofValue,Sem.run_bind,Sem.run_pure,Result.andThen_ok,invoke]
    ·simp only [Array.toList_append,Array.toList_map,List.append_assoc];obtain ⟨s1,s2⟩:=EU _ _ _ e2;simp only at e0;rw [Array.length_toList,e0] at s1 s2;exact ku _ _ _ _ s1 (ku _ _ _ _ (mW _ _ h.ev _) s2)
   ·cases hc
  ·rename_i x n hx;split at hc
   ·rename_i t cs hg;split at hc
    ·rename_i g hcs hf;simp only [Option.some.injEq,Prod.mk.injEq] at hc;obtain ⟨rfl,rfl⟩:=hc;have hcs':cs = #[]:=Array.toList_inj.1 (by rw [List.isEmpty_iff.1 hcs]);subst hcs';have hr:=h.ev x;rw [hg] at hr;have e1:=aQ hr;refine ⟨#[.agg #[]]++c.args.map a.eval,?_,?_⟩
     ·have hA:∀(v:Value) (xs:Array Value),(#[v]++xs)[0]? = some v:=fun v xs=>by rw [<-Array.getElem?_toList,Array.toList_append];rfl
      have hB:∀(v:Value) (xs:Array Value),(#[v]++xs).extract 1 (#[v]++xs).size=xs:=fun v xs=>by apply Array.toList_inj.1;simp
      have hM:(method (P.types.size+Made.depth) t (.agg #[]) n).run P w = .ok (_,.agg #[]) w:=OE (P:=P) (w:=w) hq.2 hf (P.types.size+99);simp only [execOp,resolve,hx,Sem.run_bind,Sem.run_pure,Result.andThen_ok,invoke,hA,hB,e1,callMethod,run_program,hM]
     ·simp only [Array.toList_append,Array.toList_map];refine ku [.agg []] _ _ _ ?_ (mW _ _ h.ev _);rw [aG];exact ⟨.agg #[],[],rfl,by rw [Rel];exact ⟨#[],rfl,by rw [aG]⟩,by rw [aG]⟩
    ·cases hc
   ·cases hc
  ·cases hc
 ·cases hc
theorem OY {f:FuncId} (hf:qA P f=true) (vs:Array Value) (w:World):(callFunc f vs).run P w = .ok (.enter f vs) w:=by
 unfold qA at hf;split at hf
 ·rename_i fn hfn;simp only [Bool.and_eq_true,bne_iff_ne,ne_eq,Option.isSome_iff_ne_none] at hf;have hname:(fn.name == "runtime.NumGoroutine")=false:=by simpa using hf.1
  have hbody:fn.body.isNone=false:=by cases hb:fn.body with | none=>exact (hf.2 hb).elim | some _=>rfl
  simp only [callFunc,Sem.run_bind,Sem.run_pure,Result.andThen_ok,run_program,hfn,hname,hbody,Bool.false_eq_true,if_false]
 ·cases hf
theorem aeM (hq:Ov P q) (hdp:30<=P.depth) (h:vO GL N E a w s) {slot:Nat} {o:Oper} {e:Ef} (he:EfR P GL q slot o s e) (hd:∀t,o.dst=some t->t<N) {K:Act->World->Prop} {Q:Exit->Act->World->Prop}
 (hK:∀a' w' E',Goes GL E w e.upd E' w'->vO GL N E' a' w' (s.app o.dst e)->K a' w'):o.wp P a w K Q:=by
 obtain ⟨_,he⟩:=he;unfold Oper.wp;split at he
 ·rename_i f args hc;obtain ⟨_,hdo⟩:=he;obtain ⟨vs,hrun,hrel⟩:=OX (P:=P) hq h hc;rw [hrun];rcases hdo with ⟨hf,hdo⟩ | hdo
  ·rw [OY hf];refine (hdo E w vs (fun r _=>by rw [h.hp]) h.h h.sim hrel).mono ?_;rintro en w' ⟨u,E',rfl,hg,hr⟩;exact hK _ _ E' hg (h.put hg hd hr)
  ·obtain ⟨u,w',E',hrun2,hg,hr⟩:=hdo E w vs (fun r _=>by rw [h.hp]) h.h h.sim hrel;rw [hrun2];exact hK _ _ E' hg (h.put hg hd hr)
 ·rename_i hc;obtain ⟨f,hf,e1,e2,_,_⟩:=he;obtain ⟨n,w',E',u,hrun,hn,hg,hr⟩:=aa7 hq hdp h hf;rw [hrun];rw [<-e2] at hg;rw [<-e1] at hr;rcases hn with rfl | ⟨rfl,rfl⟩
  ·exact hK _ _ E' hg (h.put hg hd hr)
  ·exact hK _ _ E' hg (h.put hg hd hr)
end
def oO (ops:Array Oper) (j:Nat):List Nat:=match ops[j]? with | some o=>(o.after.toList.filter (Region.binds .any)).map (·.on) | none=>[]
def qB (ops:Array Oper):Nat->List (List Nat)
 | 0=>[]
 | n+1=>qB ops n++[((oO ops n).flatMap fun p=>p::(qB ops n).getD p []).eraseDups]
section anc
variable {ops:Array Oper}
def Ac (ops:Array Oper) (listed:Array Bool):Prop:=∀j,listed.getD j false=true->∀p∈oO ops j,listed.getD p false=true
theorem wO {listed:Array Bool} {j:Nat} (h:j∈Region.ready .any ops listed):∀p∈oO ops j,listed.getD p false=true:=by
 obtain ⟨_,oj,hoj,hall⟩:=mem_ready.1 h;intro p hp;unfold oO at hp;rw [hoj] at hp;obtain ⟨e,he,rfl⟩:=List.mem_map.1 hp;obtain ⟨he1,he2⟩:=List.mem_filter.1 he;exact hall e (by simpa using he1) he2
theorem rG:∀n,(qB ops n).length=n
 | 0=>rfl
 | n+1=>by simp [qB,rG n]
theorem wP {listed:Array Bool} (hc:Ac ops listed):∀(n j x:Nat),(∀p∈oO ops j,listed.getD p false=true)->x∈(qB ops n).getD j []->listed.getD x false=true
 | 0,j,x,_,h=>by simp [qB] at h
 | n+1,j,x,hp,h=>by
   rw [qB,List.getD_eq_getElem?_getD] at h;by_cases hj:j<n
   ·rw [List.getElem?_append_left (by rw [rG];exact hj),<-List.getD_eq_getElem?_getD] at h;exact wP hc n j x hp h
   ·rw [List.getElem?_append_right (by rw [rG];omega),rG] at h;by_cases hj2:j=n
    ·subst hj2;simp only [Nat.sub_self,List.getElem?_cons_zero,Option.getD_some,List.mem_eraseDups,List.mem_flatMap] at h;obtain ⟨p,h1,h2⟩:=h;rcases List.mem_cons.1 h2 with rfl | h2
     ·exact hp x h1
     ·exact wP hc j p x (hc p (hp p h1)) h2
    ·rw [List.getElem?_eq_none (by simp;omega)] at h;simp at h
theorem Ej {listed:Array Bool} {i j:Nat} (h:(listed.setIfInBounds i true).getD j false=true):i=j\/listed.getD j false=true:=by
 by_cases hij:i=j
 ·exact .inl hij
 ·rw [getD_set_ne false hij] at h;exact .inr h
theorem wQ {listed:Array Bool} {i j:Nat} (h:listed.getD j false=true):(listed.setIfInBounds i true).getD j false=true:=by
 by_cases hij:i=j
 ·subst hij;rcases Nat.lt_or_ge i listed.size with h' | h'
  ·simp [Array.getD_eq_getD_getElem?,Array.getElem?_setIfInBounds,h']
  ·simp [Array.getD_eq_getD_getElem?,Array.getElem?_eq_none h'] at h
 ·rw [getD_set_ne false hij];exact h
theorem Ac.set {listed:Array Bool} (hc:Ac ops listed) {i:Nat} (hi:i∈Region.ready .any ops listed):Ac ops (listed.setIfInBounds i true):=by
 intro j hj p hp;rcases Ej hj with rfl | hj
 ·exact wQ (wO hi p hp)
 ·exact wQ (hc j hj p hp)
end anc
def rH (ops:Array Oper) (s:S) (o:Oper):Option Bool :=
 match o.guard with
 | none=>some true
 | some (j,want)=>match (ops[j]?).bind (·.dst) with
   | none=>some false
   | some t=>match s.tm t with
     | .d (.val (.bool b))=>some (b==want)
     | .undef=>some false
     | _=>none
def pG:Ef:=⟨.undef,[],[],[],[]⟩
def tu (e:Ef):List Nat:=e.upd.map (·.1)
def UN (x y:Ef):Bool:=(tu x).all (fun r => !y.rds.contains r && !(tu y).contains r)&&x.chg.all (fun r => !y.lvs.contains r)&&(tu y).all (fun r => !x.rds.contains r)&&y.chg.all (fun r => !x.lvs.contains r)
section
variable (P:Program) (GL:Nat->Option (List DV)) (q:Nat->Bool) (N base:Nat) (ops:Array Oper)
def kD (i:Nat) (s:S) (e:Ef):Prop :=
 match ops[i]? with
 | none=>False
 | some o=>(∀t,o.dst=some t->t<N)/\((rH ops s o=some true/\EfR P GL q (base+i) o s e)\/(rH ops s o=some false/\e=pG))
def oP (i:Nat):Option Nat:=(ops[i]?).bind (·.dst)
def Run:List (Nat×Ef)->S->S->Prop
 | [],s,s'=>s=s'
 | (i,e)::l,s,s'=>kD P GL q N base ops i s e/\Run l (s.app (oP ops i) e) s'
end
section
variable {P:Program} {GL:Nat->Option (List DV)} {q:Nat->Bool} {N base:Nat} {ops:Array Oper}
theorem Fh {E:En} {a:Act} {w:World} {s:S} (h:vO GL N E a w s) {o:Oper} {b:Bool} (hw:rH ops s o=some b):Region.wanted o (yielded ops a.tmps)=b:=by
 unfold rH at hw;unfold Region.wanted;cases hg:o.guard with
 | none=>rw [hg] at hw;simpa using hw
 | some g =>
   obtain ⟨j,want⟩:=g;rw [hg] at hw;simp only at hw ⊢;unfold yielded;cases hd:(ops[j]?).bind (·.dst) with
   | none=>rw [hd] at hw;simpa using hw
   | some t =>
     rw [hd] at hw;simp only [Option.bind_some] at hw ⊢;have ht:=h.tm t;split at hw
     ·rename_i c hc;rw [hc] at ht;have ht:=aQ ht;simp only [Option.some.injEq] at hw;subst hw;have:a.tmps[t]? = some (.bool c):=by
       rw [Array.getD_eq_getD_getElem?] at ht;cases hx:a.tmps[t]? with
       | none=>rw [hx] at ht;cases ht
       | some v=>rw [hx] at ht;simp at ht;rw [ht]
      rw [this];cases c<;>cases want<;>rfl
     ·rename_i hc;rw [hc,Rel] at ht;simp only [Option.some.injEq] at hw;subst hw;rw [Array.getD_eq_getD_getElem?] at ht;cases hx:a.tmps[t]? with
      | none=>rfl
      | some v=>rw [hx] at ht;simp at ht;rw [ht];rfl
     ·cases hw
theorem wR {rs:List Nat} {rd rd':Nat->Option AO} (h:∀r∈rs,(rd' r).map AO.kind=(rd r).map AO.kind):kinds (restrict rs rd')=kinds (restrict rs rd):=by
 funext r;unfold kinds restrict;split
 ·rename_i hr;exact h r (by simpa using hr)
 ·rfl
theorem wS {rs:List Nat} {rd rd':Nat->Option AO} (h:∀r∈rs,rd' r=rd r):restrict rs rd'=restrict rs rd:=by
 funext r;unfold restrict;split
 ·rename_i hr;exact h r (by simpa using hr)
 ·rfl
theorem DK {ρ ρ':Operand->AV} {parts:Array (Nat×Operand)} (h:∀x∈(parts.toList.map (·.2)),ρ x=ρ' x):(parts.toList.map fun (j,x)=>(j,ρ x))=(parts.toList.map fun (j,x)=>(j,ρ' x)):=by
 refine List.map_congr_left fun p hp => ?_;obtain ⟨j,x⟩:=p;simp only;rw [h x (List.mem_map.2 ⟨_,hp,rfl⟩)]
theorem parts_all {ρ ρ':Operand->AV} {lk:Nat->Option AK} {parts:Array (Nat×Operand)} (h:∀x∈(parts.toList.map (·.2)),ρ x=ρ' x):(parts.toList.all fun (_,x)=>sS lk (ρ x))=(parts.toList.all fun (_,x)=>sS lk (ρ' x)):=by
 rw [Bool.eq_iff_iff,List.all_eq_true,List.all_eq_true];constructor
 ·intro h1 p hp;obtain ⟨j,x⟩:=p;have:=h1 _ hp;simp only at this ⊢;rw [<-h x (List.mem_map.2 ⟨_,hp,rfl⟩)];exact this
 ·intro h1 p hp;obtain ⟨j,x⟩:=p;have:=h1 _ hp;simp only at this ⊢;rw [h x (List.mem_map.2 ⟨_,hp,rfl⟩)];exact this
theorem OZ {T:Ty} {lk:Nat->Option AK} {o:Oper} {ρ ρ':Operand->AV} (h:∀x∈o.op.operands,ρ x=ρ' x):zJ T q lk o ρ=zJ T q lk o ρ':=by
 obtain ⟨dst,op,type,pos,after,guard⟩:=o;unfold zJ;cases op<;>simp only [Op.operands] at h ⊢
 case build t parts =>
  have h':∀x∈parts.toList.map (·.2),ρ x=ρ' x:=fun x hx=>h x (by simpa using hx);rw [DK h',parts_all h']
 case makeFunc fn first caps =>
  have:caps.toList.map ρ=caps.toList.map ρ':=List.map_congr_left fun x hx=>h x (by simp [Array.mem_toList_iff.1 hx]);have h2:first.toList.map ρ=first.toList.map ρ':=List.map_congr_left fun x hx=>h x (by simp [Array.mem_toList_iff.1 hx]);rw [this,h2]
 case slice t x lo hi mx =>
  have hx:=h x (by simp);have e1:lo.map ρ=lo.map ρ':=by cases lo with | none=>rfl | some y=>simp [h y (by simp)]
  have e2:hi.map ρ=hi.map ρ':=by cases hi with | none=>rfl | some y=>simp [h y (by simp)]
  have e3:mx.map ρ=mx.map ρ':=by cases mx with | none=>rfl | some y=>simp [h y (by simp)]
  rw [hx,e1,e2,e3]
 case call c =>
  have:c.args.toList.map ρ=c.args.toList.map ρ':=List.map_congr_left fun x hx=>h x (by simp [Call.operands,Array.mem_toList_iff.1 hx]);have h2:(c.args.toList.all fun x=>wu lk (ρ x))=(c.args.toList.all fun x=>wu lk (ρ' x)):=by
   rw [Bool.eq_iff_iff,List.all_eq_true,List.all_eq_true];constructor
   ·intro h1 p hp;have:=h1 p hp;rw [h p (by simp [Call.operands,Array.mem_toList_iff.1 hp])] at this;exact this
   ·intro h1 p hp;have:=h1 p hp;rw [<-h p (by simp [Call.operands,Array.mem_toList_iff.1 hp])] at this;exact this
  rw [this,h2]
 all_goals (simp only [List.mem_toArray,Array.mem_def,List.mem_cons,List.not_mem_nil,or_false,forall_eq_or_imp,forall_eq] at h)
 all_goals first
  | rfl
  | (rw [h];done)
  | (rw [h.1,h.2];done)
  | (rw [h.1,h.2.1,h.2.2];done)
theorem O1 {T:Ty} {rd:Nat->Option AO} {slot:Nat} {o:Oper} {ρ ρ':Operand->AV} (h:∀x∈o.op.operands,ρ x=ρ' x):zL T rd slot o ρ=zL T rd slot o ρ':=by
 obtain ⟨dst,op,type,pos,after,guard⟩:=o;unfold zL;cases op<;>simp only [Op.operands] at h ⊢
 case buildSlice t n parts =>
  have h':∀x∈parts.toList.map (·.2),ρ x=ρ' x:=fun x hx=>h x (by simpa using hx);rw [DK h',parts_all h']
 case call c =>
  have:c.args.toList.map ρ=c.args.toList.map ρ':=List.map_congr_left fun x hx=>h x (by simp [Call.operands,Array.mem_toList_iff.1 hx]);rw [this]
 case makeMap t r=>cases r<;>rfl
 case lookup t x y ok =>
  simp only [List.mem_toArray,Array.mem_def,List.mem_cons,List.not_mem_nil,or_false,forall_eq_or_imp,forall_eq] at h;simp only [h.1,h.2]
 all_goals (simp only [List.mem_toArray,Array.mem_def,List.mem_cons,List.not_mem_nil,or_false,forall_eq_or_imp,forall_eq] at h)
 all_goals first
  | rfl
  | (rw [h];done)
  | (rw [h.1,h.2];done)
  | (rw [h.1,h.2.1,h.2.2];done)
theorem O4 {T:Ty} {rd:Nat->Option AO} {slot:Nat} {o:Oper} {ρ ρ':Operand->AV} (h:∀x∈o.op.operands,ρ x=ρ' x):Hu T rd slot o ρ=Hu T rd slot o ρ':=by
 obtain ⟨dst,op,type,pos,after,guard⟩:=o;unfold Hu;cases op<;>simp only [Op.operands] at h ⊢
 case call c =>
  have:c.args.toList.map ρ=c.args.toList.map ρ':=List.map_congr_left fun x hx=>h x (by simp [Call.operands,Array.mem_toList_iff.1 hx]);rw [this]
 case convert src dst x=>rw [h x (by simp)]
theorem L8 {o:Oper} {ρ ρ':Operand->AV} (h:∀x∈o.op.operands,ρ x=ρ' x):rF ρ o=rF ρ' o:=by
 obtain ⟨dst,op,type,pos,after,guard⟩:=o;unfold rF;cases op<;>simp only [Op.operands] at h ⊢
 case call c =>
  have:c.args.toList.map ρ=c.args.toList.map ρ':=List.map_congr_left fun x hx=>h x (by simp [Call.operands,Array.mem_toList_iff.1 hx]);rw [this];cases hc:c.callee with
  | value x=>simp only;rw [h x (by simp [Call.operands,hc])]
  | invoke x n=>simp only;rw [h x (by simp [Call.operands,hc])]
  | _=>rfl
theorem UO {rd rd':Nat->Option AO} {slot:Nat} {o:Oper} {ρ ρ':Operand->AV} (h:∀x∈o.op.operands,ρ x=ρ' x) {f:Eff} (hf:eff (aO P) q rd slot o ρ=some f) (h1:∀r∈f.rds,rd' r=rd r) (h2:∀r∈f.lvs,(rd' r).map AO.kind=(rd r).map AO.kind):eff (aO P) q rd' slot o ρ'=some f:=by
 have hrs:(o.op.operands.toList.flatMap fun x=>(ρ' x).refs)=o.op.operands.toList.flatMap fun x=>(ρ x).refs:=by
  rw [List.flatMap_def,List.flatMap_def];congr 1;exact List.map_congr_left fun x hx=>by rw [h x (Array.mem_toList_iff.1 hx)]
 unfold eff at hf ⊢;simp only at hf ⊢;rw [hrs,<-OZ h,<-O1 h,<-O4 h];split at hf
 ·rename_i v hv;simp only [Option.some.injEq] at hf;subst hf;rw [wR h2,hv]
 ·rename_i hn;split at hf
  ·rename_i v us hv;simp only [Option.some.injEq] at hf;subst hf;rw [wR (fun r hr=>by rw [h1 r (List.mem_cons_of_mem _ hr)]),hn,wS h1];simp only;rw [hv]
  ·rename_i hn2;split at hf
   ·rename_i v us hv;simp only [Option.some.injEq] at hf;subst hf;rw [wR (fun r hr=>by rw [h1 r (List.mem_cons_of_mem _ hr)]),hn,wS h1];simp only;rw [hn2];simp only;rw [hv]
   ·cases hf
theorem Fj {hp hp':Nat->Option AO} {us:List (Nat×AO)} (h:∀r∈us.map (·.1),hp' r=hp r):lT hp' us=lT hp us:=by
 unfold lT;congr 1;refine List.filter_congr fun p hp => ?_;rw [h p.1 (List.mem_map.2 ⟨p,hp,rfl⟩)]
theorem S.ev_congr {s s':S} {x:Operand} (h:∀t,x = .tmp t->s'.tm t=s.tm t):s'.ev GL x=s.ev GL x:=by
 cases x with
 | tmp t=>exact h t rfl
 | _=>rfl
theorem H8 {o:Oper} {t:Nat} (h:Operand.tmp t∈o.op.operands):t∈o.looksAt ops:=by
 unfold Oper.looksAt;exact List.mem_append_left _ (List.mem_filterMap.2 ⟨_,Array.mem_toList_iff.2 h,rfl⟩)
theorem UQ {slot:Nat} {o:Oper} {s s':S} {e:Ef} (h:EfR P GL q slot o s e) (ht:∀t,Operand.tmp t∈o.op.operands->s'.tm t=s.tm t) (h1:∀r∈e.rds,s'.hp r=s.hp r) (h2:∀r∈e.lvs,(s'.hp r).map AO.kind=(s.hp r).map AO.kind) (h3:∀r∈tu e,s'.hp r=s.hp r):EfR P GL q slot o s' e:=by
 have hρ:∀x∈o.op.operands,s.ev GL x=s'.ev GL x:=fun x hx=>(S.ev_congr fun t e=>ht t (e▸hx)).symm;obtain ⟨hc,he⟩:=h;refine ⟨hc.trans (Fj h3).symm,?_⟩;rw [<-L8 hρ];split
 ·rename_i f args hca;rw [hca] at he;exact ⟨he.1,he.2.imp (fun k=>⟨k.1,fun E w vs hr=>k.2 E w vs fun r hr'=>(hr r hr').trans (h1 r hr')⟩) (fun k E w vs hr=>k E w vs fun r hr'=>(hr r hr').trans (h1 r hr'))⟩
 ·rename_i hca;rw [hca] at he;obtain ⟨f,hf,e1,e2,e3,e4⟩:=he;exact ⟨f,UO hρ hf (fun r hr=>h1 r (by rw [e3];exact hr)) (fun r hr=>h2 r (by rw [e4];exact hr)),e1,e2,e3,e4⟩
theorem DL {i:Nat} {o:Oper} (ho:ops[i]? = some o) {s s':S} {e:Ef} (h:kD P GL q N base ops i s e) (ht:∀t∈o.looksAt ops,s'.tm t=s.tm t) (h1:∀r∈e.rds,s'.hp r=s.hp r) (h2:∀r∈e.lvs,(s'.hp r).map AO.kind=(s.hp r).map AO.kind) (h3:∀r∈tu e,s'.hp r=s.hp r):kD P GL q N base ops i s' e:=by
 unfold kD at h ⊢;rw [ho] at h ⊢;simp only at h ⊢;have hw:rH ops s' o=rH ops s o:=by
  unfold rH;cases hg:o.guard with
  | none=>rfl
  | some g =>
    obtain ⟨j,want⟩:=g;simp only;cases hd:(ops[j]?).bind (·.dst) with
    | none=>rfl
    | some t =>
      have:t∈o.looksAt ops:=by
       unfold Oper.looksAt;refine List.mem_append_right _ ?_;rw [hg];simp [hd]
      simp only;rw [ht t this]
 rw [hw];exact ⟨h.1,h.2.imp (fun ⟨a,b⟩=>⟨a,UQ b (fun t ht'=>ht t (H8 ht')) h1 h2 h3⟩) id⟩
theorem XM {x y:Ef} (h:UN x y=true):(∀r∈tu x,r∉y.rds/\r∉tu y)/\(∀r∈x.chg,r∉y.lvs)/\(∀r∈tu y,r∉x.rds)/\(∀r∈y.chg,r∉x.lvs):=by
 unfold UN at h;simp only [Bool.and_eq_true,List.all_eq_true,Bool.not_eq_true',List.contains_eq_mem,decide_eq_false_iff_not] at h;exact ⟨fun r hr=>h.1.1.1 r hr,fun r hr=>h.1.1.2 r hr,fun r hr=>h.1.2 r hr,fun r hr=>h.2 r hr⟩
theorem UR {r:Nat} {o:AO} {us:List (Nat×AO)} (h:look r us=some o):r∈us.map (·.1):=List.mem_map.2 ⟨_,aU h,rfl⟩
theorem jH {hp:Nat->Option AO} {us:List (Nat×AO)} {r:Nat} (h:r∉us.map (·.1)):dH hp us r=hp r:=by
 unfold dH;cases hl:look r us with
 | none=>rfl
 | some o=>exact (h (UR hl)).elim
theorem O5 {x:Option AO} {o:AO} (h:DJ x o=true):x.map AO.kind=some o.kind:=by
 unfold DJ at h;split at h
 ·simp at h;simp [AO.kind,h]
 ·rfl
 ·rfl
 ·rfl
 ·cases h
theorem Iz {hp:Nat->Option AO} {us:List (Nat×AO)} {r:Nat} (h:r∉lT hp us):(dH hp us r).map AO.kind=(hp r).map AO.kind:=by
 unfold dH;cases hl:look r us with
 | none=>rfl
 | some o =>
   simp only [Option.map_some];have hs:DJ (hp r) o=true:=by
    cases hk:DJ (hp r) o with
    | true=>rfl
    | false=>exact (h (List.mem_map.2 ⟨(r,o),List.mem_filter.2 ⟨aU hl,by simp [hk]⟩,rfl⟩)).elim
   exact (O5 hs).symm
theorem IB {i:Nat} {s:S} {e:Ef} (h:kD P GL q N base ops i s e):e.chg=lT s.hp e.upd:=by
 unfold kD at h;split at h
 ·exact h.elim
 ·rcases h.2 with ⟨_,h⟩ | ⟨_,rfl⟩
  ·exact h.1
  ·rfl
theorem swap {i j:Nat} {oi oj:Oper} (hi:ops[i]? = some oi) (hj:ops[j]? = some oj) (hap:oj.apart ops oi=true) {s:S} {ei ej:Ef} (hnc:UN ej ei=true) (h1:kD P GL q N base ops j s ej) (h2:kD P GL q N base ops i (s.app (oP ops j) ej) ei) :
 kD P GL q N base ops i s ei/\kD P GL q N base ops j (s.app (oP ops i) ei) ej/\(s.app (oP ops i) ei).app (oP ops j) ej=(s.app (oP ops j) ej).app (oP ops i) ei:=by
 obtain ⟨a1,a2,a3⟩:=Oper.apart_spec hap;obtain ⟨n1,n2,n3,n4⟩:=XM hnc;have hdj:oP ops j=oj.dst:=by simp [oP,hj]
 have hdi:oP ops i=oi.dst:=by simp [oP,hi]
 rw [hdj] at h2;rw [hdj,hdi];have tmj:∀(s:S) (e:Ef) (d:Option Nat) (t:Nat),d≠some t->(s.app d e).tm t=s.tm t:=fun s e d t hd=>by
  unfold S.app S.put;cases d with
  | none=>rfl
  | some k=>simp only;rw [if_neg (fun e=>hd (by rw [e]))]
 have k3:∀r∈tu ei,r∉tu ej:=fun r hr hr'=>(n1 r hr').2 hr;have hcj:=IB h1;have hci:=IB h2;have hci':ei.chg=lT s.hp ei.upd:=by
  rw [hci];exact Fj fun r hr=>jH (k3 r hr)
 have g1:kD P GL q N base ops i s ei:=by
  refine DL hi h2 (fun t ht => ?_) (fun r hr => ?_) (fun r hr => ?_) (fun r hr => ?_)
  ·exact (tmj s ej oj.dst t (fun e=>a1 t e ht)).symm
  ·exact (jH (fun hk=>(n1 r hk).1 hr)).symm
  ·exact (Iz (fun hk=>n2 r (by rw [hcj];exact hk) hr)).symm
  ·exact (jH (k3 r hr)).symm
 refine ⟨g1,?_,?_⟩
 ·refine DL hj h1 (fun t ht => ?_) (fun r hr => ?_) (fun r hr => ?_) (fun r hr => ?_)
  ·exact tmj s ei oi.dst t (fun e=>a3 t e ht)
  ·exact jH (fun hk=>n3 r hk hr)
  ·exact Iz (fun hk=>n4 r (by rw [hci'];exact hk) hr)
  ·exact jH (fun hk=>(n1 r hr).2 hk)
 ·unfold S.app S.put;have hh:dH (dH s.hp ei.upd) ej.upd=dH (dH s.hp ej.upd) ei.upd:=by
   funext r;by_cases hr:r∈tu ej
   ·have h5:r∉ei.upd.map (·.1):=(n1 r hr).2;rw [jH h5];unfold dH;cases hl:look r ej.upd with
    | none=>simp only;exact jH h5
    | some o=>rfl
   ·have h5:r∉ej.upd.map (·.1):=hr;rw [jH h5];unfold dH;cases hl:look r ei.upd with
    | none=>simp only;exact (jH h5).symm
    | some o=>rfl
  cases hd1:oi.dst with
  | none =>
    cases hd2:oj.dst with
    | none=>simp only [hh]
    | some k=>simp only [hh]
  | some t =>
    cases hd2:oj.dst with
    | none=>simp only [hh]
    | some k =>
      have hne:t≠k:=fun e=>a2 k hd2 (by rw [hd1,e]);simp only [hh,S.mk.injEq,and_true];funext x;by_cases hx1:x=t
      ·subst hx1;simp [hne]
      ·by_cases hx2:x=k
       ·subst hx2;simp [hx1]
       ·simp [hx1,hx2]
theorem bubble {i:Nat} {oi:Oper} (hi:ops[i]? = some oi) {ei:Ef}:∀(l1 l2:List (Nat×Ef)) (s s':S),(∀j ej,(j,ej)∈l1->∃oj,ops[j]? = some oj/\oj.apart ops oi=true/\UN ej ei=true)->Run P GL q N base ops (l1++(i,ei)::l2) s s' ->
 kD P GL q N base ops i s ei/\Run P GL q N base ops (l1++l2) (s.app (oP ops i) ei) s'
 | [],l2,s,s',_,h=>h
 | (j,ej)::l1,l2,s,s',hall,h=>by
   obtain ⟨h1,h2⟩:=h;obtain ⟨h3,h4⟩:=bubble hi l1 l2 _ s' (fun k ek hk=>hall k ek (List.mem_cons_of_mem _ hk)) h2;obtain ⟨oj,hj,hap,hnc⟩:=hall j ej List.mem_cons_self;obtain ⟨g1,g2,g3⟩:=swap hi hj hap hnc h1 h3;refine ⟨g1,g2,?_⟩;rw [g3];exact h4
end
structure iE (E0:En) (w0:World) (E:En) (w:World):Prop where
 ext:Ext E0 E
 fr:mX E0 w0 E w
theorem iE.refl (E:En) (w:World):iE E w E w:=⟨Ext.refl _,mX.refl _ _⟩
theorem iE.goes {GL:Nat->Option (List DV)} {E0 E E':En} {w0 w w':World} {us:List (Nat×AO)} (h:iE E0 w0 E w) (g:Goes GL E w us E' w'):iE E0 w0 E' w':=⟨h.ext.trans g.ext,h.fr.trans g.fr⟩
theorem iE.drew {E0 E:En} {w0 w:World} (h:iE E0 w0 E w):iE E0 w0 E {w with drawn:=w.drawn+1}:=⟨h.ext,⟨h.fr.os,h.fr.tape,h.fr.output,h.fr.size,h.fr.blk,h.fr.mb,h.fr.xs,h.fr.xk⟩⟩
theorem vO.drew {GL:Nat->Option (List DV)} {N:Nat} {E:En} {a:Act} {w:World} {s:S} (h:vO GL N E a w s):vO GL N E a {w with drawn:=w.drawn+1} s:=⟨h.h,h.hp,h.sim,h.n,h.df,h.tm⟩
section
variable {P:Program} {GL:Nat->Option (List DV)} {q:Nat->Bool} {N base:Nat} {ops:Array Oper}
theorem RH (hq:Ov P q) (hdp:30<=P.depth) {E0:En} {w0:World} {E:En} {a:Act} {w:World} {s:S} (hS:vO GL N E a w s) (hA:iE E0 w0 E w) {i:Nat} {e:Ef} (h:kD P GL q N base ops i s e) {Q:Exit->Act->World->Prop} {K:Act->World->Prop}
 (hK:∀E' a' w',vO GL N E' a' w' (s.app (oP ops i) e)->iE E0 w0 E' w'->K a' w'):wpOp P ops Q i K a w:=by
 unfold kD at h;unfold wpOp;split at h
 ·exact h.elim
 ·rename_i o ho;rw [ho];simp only;have hdi:oP ops i=o.dst:=by simp [oP,ho]
  rw [hdi] at hK;obtain ⟨hd,⟨hw,he⟩ | ⟨hw,rfl⟩⟩:=h
  ·rw [Fh hS hw,if_pos rfl];exact .inl (aeM hq hdp hS he hd fun a' w' E' hg hs=>hK E' a' w' hs (hA.goes hg))
  ·rw [Fh hS hw,if_neg (by simp)];have:=hS.put (Goes.refl hS.h hS.sim) hd (v := .undef) (u:=undef) (by rw [Rel]);refine hK E _ w ?_ hA;exact this
theorem O6 (hq:Ov P q) (hdp:30<=P.depth) {E0:En} {w0:World} {Q:Exit->Act->World->Prop} {s':S} (hQ:∀E' a' w',vO GL N E' a' w' s'->iE E0 w0 E' w'->Q .normal a' w'):∀(L:List (Nat×Ef)) (E:En) (a:Act) (w:World) (s:S),Run P GL q N base ops L s s'->vO GL N E a w s->iE E0 w0 E w->wpOps P ops Q (L.map (·.1)) a w
 | [],E,a,w,s,hR,hS,hA=>by
   have:s=s':=hR;subst this;exact hQ E a w hS hA
 | (i,e)::L,E,a,w,s,hR,hS,hA=>by
   rw [List.map_cons,wpOps_cons];exact RH hq hdp hS hA hR.1 fun E' a' w' hs ha=>O6 hq hdp hQ L E' a' w' _ hR.2 hs ha
def Fp (ops:Array Oper):Bool:=(List.range ops.size).all fun j=>(oO ops j).all fun p=>decide (p<j)
theorem O7 (hq:Ov P q) (hdp:30<=P.depth) (hback:Fp ops=true) {E0:En} {w0:World} {Q:Exit->Act->World->Prop} {s':S} (hQ:∀E' a' w',vO GL N E' a' w' s'->iE E0 w0 E' w'->Q .normal a' w'):∀(n:Nat) (L:List (Nat×Ef)) (listed:Array Bool) (E:En) (a:Act) (w:World) (s:S),L.length=n ->
 Ac ops listed->(∀i,listed.getD i true=false/\i<ops.size↔i∈L.map (·.1))->(L.map (·.1)).Pairwise (· < ·) ->
 L.Pairwise (fun x y=>x.1∈(qB ops ops.size).getD y.1 []\/∃ox oy,ops[x.1]? = some ox/\ops[y.1]? = some oy/\ox.apart ops oy=true/\UN x.2 y.2=true) ->
 Run P GL q N base ops L s s'->vO GL N E a w s->iE E0 w0 E w->wpAny P .any ops Q n listed a w
 | 0,L,listed,E,a,w,s,hn,hC,hL,hsort,hchk,hR,hS,hA=>by
   have:L=[]:=List.eq_nil_of_length_eq_zero hn;subst this;have hs:s=s':=hR;subst hs;refine ⟨?_,hQ E a w hS hA⟩;cases hr:Region.ready .any ops listed with
   | nil=>rfl
   | cons i l =>
     have hi:i∈Region.ready .any ops listed:=by rw [hr];exact List.mem_cons_self
     obtain ⟨h1,o,h2,_⟩:=mem_ready.1 hi;have:=(hL i).1 ⟨h1,(Array.getElem?_eq_some_iff.1 h2).1⟩;simp at this
 | n+1,L,listed,E,a,w,s,hn,hC,hL,hsort,hchk,hR,hS,hA=>by
   have hready:∀i,i∈Region.ready .any ops listed->i∈L.map (·.1):=fun i hi=>by
    obtain ⟨h1,o,h2,_⟩:=mem_ready.1 hi;exact (hL i).1 ⟨h1,(Array.getElem?_eq_some_iff.1 h2).1⟩
   refine ⟨fun h0 => ?_,fun i hi => ?_⟩
   ·exfalso;cases L with
    | nil=>simp at hn
    | cons x L =>
      obtain ⟨i,e⟩:=x;obtain ⟨hun,hlt⟩:=(hL i).2 (by simp);have hrd:i∈Region.ready .any ops listed:=by
       refine mem_ready.2 ⟨hun,ops[i],Array.getElem?_eq_getElem hlt,fun ed hed hb => ?_⟩;have hp:ed.on∈oO ops i:=by
        unfold oO;rw [Array.getElem?_eq_getElem hlt];exact List.mem_map.2 ⟨ed,List.mem_filter.2 ⟨by simpa using hed,hb⟩,rfl⟩
       have hlt2:ed.on<i:=by
        have:=List.all_eq_true.1 hback i (List.mem_range.2 hlt);have:=List.all_eq_true.1 this _ hp;simpa using this
       cases hg:listed.getD ed.on false with
       | true=>rfl
       | false =>
         have hnot:ed.on∉List.map (·.1) ((i,e)::L):=fun hm=>by
          rcases List.mem_cons.1 hm with h | h
          ·simp at h;omega
          ·have:=(List.pairwise_cons.1 hsort).1 _ h;simp at this;omega
         have h6:¬(listed.getD ed.on true=false/\ed.on<ops.size):=fun h=>hnot ((hL ed.on).1 h);have:listed.getD ed.on true=true:=by
          cases h7:listed.getD ed.on true with
          | true=>rfl
          | false=>exact (h6 ⟨h7,by omega⟩).elim
         have hsz:ed.on<listed.size:=by
          have h8:i<listed.size:=by
           rcases Nat.lt_or_ge i listed.size with h | h
           ·exact h
           ·rw [Array.getD_eq_getD_getElem?,Array.getElem?_eq_none h] at hun;simp at hun
          omega
         rw [Array.getD_eq_getD_getElem?,Array.getElem?_eq_getElem hsz] at this hg;simp at this hg;rw [this] at hg;cases hg
      rw [h0] at hrd;cases hrd
   ·obtain ⟨⟨i',e⟩,hmem,rfl⟩:=List.mem_map.1 (hready i hi);simp only at hi ⊢;obtain ⟨l1,l2,rfl⟩:=List.append_of_mem hmem;obtain ⟨_,oi,hoi,_⟩:=mem_ready.1 hi;have hun:∀j,j∈(l1++(i',e)::l2).map (·.1)->listed.getD j false=false:=fun j hj=>by
     obtain ⟨h1,h2⟩:=(hL j).2 hj;rcases Nat.lt_or_ge j listed.size with h | h
     ·rw [Array.getD_eq_getD_getElem?,Array.getElem?_eq_getElem h] at h1 ⊢;simpa using h1
     ·rw [Array.getD_eq_getD_getElem?,Array.getElem?_eq_none h] at h1;simp at h1
    have hall:∀j ej,(j,ej)∈l1->∃oj,ops[j]? = some oj/\oj.apart ops oi=true/\UN ej e=true:=fun j ej hj=>by
     have hpw:=(List.pairwise_append.1 hchk).2.2 (j,ej) hj (i',e) List.mem_cons_self;rcases hpw with hanc | ⟨ox,oy,h1,h2,h3,h4⟩
     ·have:=wP hC _ _ _ (wO hi) hanc;rw [hun j (List.mem_map.2 ⟨_,List.mem_append_left _ hj,rfl⟩)] at this;cases this
     ·simp only at h1 h2;rw [hoi] at h2;cases h2;exact ⟨ox,h1,h3,h4⟩
    obtain ⟨g1,g2⟩:=bubble hoi l1 l2 s s' hall hR;refine RH hq hdp hS hA g1 fun E' a' w' hs ha => ?_;refine O7 hq hdp hback hQ n (l1++l2) _ E' a' w' _ (by simp at hn ⊢;omega) (hC.set hi) (fun j => ?_) ?_ ?_ g2 hs ha
    ·have hnd:∀k,k∈(l1++l2).map (·.1)->k≠i':=fun k hk e0=>by
      subst e0;rw [List.map_append,List.map_cons] at hsort;rw [List.map_append] at hk;rcases List.mem_append.1 hk with hk | hk
      ·have:=(List.pairwise_append.1 hsort).2.2 k hk k List.mem_cons_self;omega
      ·have:=(List.pairwise_cons.1 (List.pairwise_append.1 hsort).2.1).1 k hk;omega
     by_cases hji:i'=j
     ·subst hji;constructor
      ·rintro ⟨h1,h2⟩;have hsz:i'<listed.size:=by
        rcases Nat.lt_or_ge i' listed.size with h | h
        ·exact h
        ·have:=(mem_ready.1 hi).1;rw [Array.getD_eq_getD_getElem?,Array.getElem?_eq_none h] at this;simp at this
       rw [Array.getD_eq_getD_getElem?,Array.getElem?_setIfInBounds_self_of_lt hsz] at h1;simp at h1
      ·intro h;exact (hnd _ h rfl).elim
     ·rw [getD_set_ne true hji];rw [hL j];simp only [List.map_append,List.map_cons,List.mem_append,List.mem_cons];constructor
      ·rintro (h | h | h)
       ·exact .inl h
       ·exact (hji h.symm).elim
       ·exact .inr h
      ·rintro (h | h)
       ·exact .inl h
       ·exact .inr (.inr h)
    ·rw [List.map_append] at hsort ⊢;rw [List.map_cons] at hsort;obtain ⟨p1,p2,p3⟩:=List.pairwise_append.1 hsort;exact List.pairwise_append.2 ⟨p1,(List.pairwise_cons.1 p2).2,fun x hx y hy=>p3 x hx y (List.mem_cons_of_mem _ hy)⟩
    ·obtain ⟨p1,p2,p3⟩:=List.pairwise_append.1 hchk;exact List.pairwise_append.2 ⟨p1,(List.pairwise_cons.1 p2).2,fun x hx y hy=>p3 x hx y (List.mem_cons_of_mem _ hy)⟩
end
def aiR (v:Value):DV:=match v with | .slice none 0 0 => .dl [] 0 none | v => .val v
mutual
def nrm:DV->DV
 | .val v=>aiR v
 | .dl cells n _ => .dl (L9 cells) n none
def L9:List DV->List DV
 | []=>[]
 | x::xs=>nrm x::L9 xs
end
mutual
theorem Ad {h:Array Obj} {X:Nat->Prop}:∀(x:DV) (u:Value),bZ h X x u->bZ h X (nrm x) u
 | .val v,u,hr=>by
   rw [nrm];unfold aiR;split
   ·rw [bZ] at hr;rw [bZ];exact ⟨none,0,hr.1,Nat.le_refl _,Nat.zero_le _,fun k hk=>(by cases hk),.inl rfl⟩
   ·exact hr
 | .dl cells n c,u,hr=>by
   rw [nrm];rw [bZ] at hr ⊢;obtain ⟨A,c',g1,g2,g3,g4,g5⟩:=hr;refine ⟨A,c',g1,g2,g3,fun k hk=>(by cases hk),?_⟩;rcases g5 with rfl | ⟨b,o,k1,k2,k3⟩
   ·exact .inl (by rw [L9])
   ·exact .inr ⟨b,o,k1,k2,Fq cells b o k3⟩
theorem Fq {h:Array Obj} {X:Nat->Prop}:∀(cells:List DV) (b o:Nat),eu h X cells b o->eu h X (L9 cells) b o
 | [],_,_,_=>by rw [L9,eu];trivial
 | x::xs,b,o,hr=>by
   rw [eu] at hr;rw [L9,eu];obtain ⟨⟨u,hc,hd⟩,hr⟩:=hr;exact ⟨⟨u,hc,Ad x u hd⟩,Fq xs b (o+1) hr⟩
end
section
variable (θ:Nat->Option Nat) (hp1 hp2:Nat->Option AO)
def oQ (r:Nat):Prop:=∀r',θ r'=some r->∀o,hp2 r'=some o->o.mutB=false
def XO (y:DV) (x:AV):Prop :=
 match x with
 | .d z=>z=y\/(z = .val (.slice none 0 0)/\(y = .dl [] 0 none\/y = .dl [] 0 (some 0)))\/(∃cells n c,z = .dl cells n c/\y = .dl cells n none)
 | .sl r off n c=>match hp1 r with
   | some (.data _ s cs _)=>oQ θ hp2 r/\∃c',y = .dl ((cs.drop off).take (n*s)) n c'/\(c'=c\/c'=none)
   | _=>False
 | _=>False
def WkD (y:DV) (x:AV):Prop:=∃y0,XO θ hp1 hp2 y0 x/\(y=y0\/y=nrm y0)
mutual
def eY:AV->AV->Prop
 | .junk,_=>True
 | .undef,x=>x = .undef
 | .ab,x=>x = .ab
 | .d y,x=>WkD θ hp1 hp2 y x
 | .ptr r' off,x=>∃r,θ r'=some r/\(hp2 r').isSome=true/\x = .ptr r off
 | .sl r' off n c,x=>(hp2 r').isSome=true/\((∃r,θ r'=some r/\x = .sl r off n c)\/(θ r'=none/\off=0/\n=0/\c=none/\x = .d (.val (.slice none 0 0))) \/
    (θ r'=none/\off=0/\n=0/\c=none/\∃r o,(∃e s cs wr,hp1 r=some (.data e s cs wr))/\x = .sl r o 0 (some 0)))
 | .dptr cells off,x=>x = .dptr cells off
 | .agg ys,x=>∃xs,x = .agg xs/\gJ ys xs
 | .tup ys,x=>∃xs,x = .tup xs/\gJ ys xs
 | .clo f ys,x=>∃xs,x = .clo f xs/\gJ ys xs
def gJ:List AV->List AV->Prop
 | [],xs=>xs=[]
 | y::ys,xs=>∃x xs',xs=x::xs'/\eY y x/\gJ ys xs'
end
def rJ (r':Nat) (o:AO):Prop :=
 match θ r' with
 | some r=>match o with
   | .dead=>True
   | .data e s cs wr=>∃wr1 cs1,hp1 r=some (.data e s cs1 wr1)/\(cs=cs1\/cs=L9 cs1\/∃k,cs=cs1.take k)/\(wr=true->wr1=true)/\(wr=false->wr1=false\/oQ θ hp2 r)
   | .mix cs=>∃cs1,hp1 r=some (.mix cs1)/\gJ θ hp1 hp2 cs cs1
   | .mp kk ks vs=>∃vs1,hp1 r=some (.mp kk ks vs1)/\gJ θ hp1 hp2 vs vs1
 | none=>match o with
   | .dead=>True
   | .data _ _ cs _=>cs=[]
   | .mix _=>False
   | .mp _ _ _=>False
structure JE:Prop where
 ob:∀r' o,hp2 r'=some o->rJ θ hp1 hp2 r' o
 inj:∀r' r'' o' o'' r,hp2 r'=some o'->hp2 r''=some o''->o'.mutB=true->o''.mutB=true->θ r'=some r->θ r''=some r->r'=r''
end
def jW (E:En) (θ:Nat->Option Nat) (hp2:Nat->Option AO):En :=
 {m:=fun r'=>match θ r' with | some r=>E.m r | none=>none,hp:=hp2,
  X:=fun k=>E.X k/\¬ ∃r e s cs z,E.hp r=some (.data e s cs true)/\E.m r=some (k,z)/\oQ θ hp2 r,h:=E.h}
section
variable {GL:Nat->Option (List DV)} {E:En} {θ:Nat->Option Nat} {hp2:Nat->Option AO}
theorem oU:Sub E.h E.X (jW E θ hp2).h (jW E θ hp2).X:=fun b o u hx hc=>⟨fun h=>hx h.1,hc⟩
theorem rJ.live {r':Nat} {o:AO} (h:rJ θ E.hp hp2 r' o) (hd:o ≠ .dead) {r:Nat} (ht:θ r'=some r):∃o1,E.hp r=some o1/\o1 ≠ .dead/\o1.like o:=by
 unfold rJ at h;rw [ht] at h;cases o with
 | dead=>exact (hd rfl).elim
 | data e s cs wr=>obtain ⟨wr1,cs1,h1,_⟩:=h;exact ⟨_,h1,by simp,⟨rfl,rfl⟩⟩
 | mix cs=>obtain ⟨cs1,h1,_⟩:=h;exact ⟨_,h1,by simp,trivial⟩
 | mp kk ks vs=>obtain ⟨vs1,h1,_⟩:=h;exact ⟨_,h1,by simp,trivial⟩
theorem nU {r' r:Nat} (h:θ r'=some r):(jW E θ hp2).m r'=E.m r:=by simp [jW,h]
theorem yj {r':Nat} (h:θ r'=none):(jW E θ hp2).m r'=none:=by simp [jW,h]
theorem RI (hs:eX GL E) {r e s:Nat} {cs:List DV} {wr:Bool} (hr:E.hp r=some (.data e s cs wr)) (hf:oQ θ hp2 r) {b z:Nat} (hm:E.m r=some (b,z)):¬(jW E θ hp2).X b:=fun hx=>by
 cases wr with
 | true=>exact hx.2 ⟨r,e,s,cs,z,hr,hm,hf⟩
 | false =>
   rcases hs.ob r _ hr with ⟨g1,_⟩ | ⟨b',cur,g1,g2,g3,g4,_⟩
   ·rw [g1] at hm;cases hm
   ·rw [hm] at g1;cases g1;simp only [Bool.false_eq_true,if_false] at g4;exact g4 hx.1
theorem aa8 (hs:eX GL E) {y:DV} {x:AV} {v:Value} (h:XO θ E.hp hp2 y x) (hr:Rel E x v):Rel (jW E θ hp2) (.d y) v:=by
 unfold XO at h;split at h
 ·rename_i z;rw [Rel] at hr;have hr':=bZ.mono (oU (θ:=θ) (hp2:=hp2)) _ _ hr;rw [Rel];rcases h with rfl | ⟨rfl,rfl | rfl⟩ | ⟨cells,n,c,rfl,rfl⟩
  ·exact hr'
  ·rw [bZ] at hr;rw [bZ];exact ⟨none,0,hr.1,Nat.le_refl _,Nat.zero_le _,fun k hk=>(by cases hk),.inl rfl⟩
  ·rw [bZ] at hr;rw [bZ];exact ⟨none,0,hr.1,Nat.le_refl _,Nat.zero_le _,fun k hk=>(by cases hk;rfl),.inl rfl⟩
  ·rw [bZ] at hr';rw [bZ];obtain ⟨A,c',g1,g2,g3,g4,g5⟩:=hr';exact ⟨A,c',g1,g2,g3,fun k hk=>(by cases hk),g5⟩
 ·rename_i r off n c;split at h
  ·rename_i e s cs wr ho;obtain ⟨hf,c',rfl,hc⟩:=h;rw [Rel,ho] at hr;rw [Rel,bZ];rcases hr with ⟨rfl,hc2,_,A,rfl⟩ | ⟨b,z,c0,g1,rfl,g3,g4,g5,g6⟩
   ·refine ⟨A,0,rfl,Nat.le_refl _,Nat.zero_le _,fun k hk => ?_,.inl (by simp)⟩;rcases hc with rfl | rfl
    ·rcases hc2 with rfl | rfl
     ·cases hk
     ·cases hk;rfl
    ·cases hk
   ·refine ⟨_,c0,rfl,g3,g4,fun k hk => ?_,?_⟩
    ·rcases hc with rfl | rfl
     ·subst hk;exact g6
     ·cases hk
    ·rcases hs.ob r _ ho with ⟨q1,_⟩ | ⟨b',cur,q1,q2,q3,q4,q5⟩
     ·rw [q1] at g1;cases g1
     ·have hbb:b=b':=by rw [q1] at g1;cases g1;rfl
      subst hbb;refine .inr ⟨b,off,rfl,RI hs ho hf g1,?_⟩;have:=jf (n*s) _ _ _ (jR off _ _ _ q3);rw [Nat.zero_add] at this;exact eu.at_ (oU (θ:=θ) (hp2:=hp2)) _ _ _ (fun _ _ _ h=>h) this
  ·exact h.elim
 ·exact h.elim
mutual
theorem wU (hs:eX GL E) (hw:JE θ E.hp hp2):∀(y x:AV) (v:Value),eY θ E.hp hp2 y x->Rel E x v->Rel (jW E θ hp2) y v
 | .junk,x,v,_,_=>by rw [Rel];trivial
 | .undef,x,v,h,hr=>by rw [eY] at h;subst h;rw [Rel] at hr ⊢;exact hr
 | .ab,x,v,h,hr=>by rw [eY] at h;subst h;rw [Rel] at hr ⊢;exact hr
 | .d y,x,v,h,hr=>by
   rw [eY] at h;obtain ⟨y0,h1,h2⟩:=h;have h3:=aa8 hs h1 hr;rw [Rel] at h3 ⊢;rcases h2 with rfl | rfl
   ·exact h3
   ·exact Ad _ _ h3
 | .ptr r' off,x,v,h,hr=>by
   rw [eY] at h;obtain ⟨r,h1,h2,rfl⟩:=h;rw [Rel];show match hp2 r' with | none=>False | some .dead=>True | some (.mp _ _ _)=>_ | some _=>_
   cases ho:hp2 r' with
   | none=>rw [ho] at h2;cases h2
   | some o =>
     cases o with
     | dead=>trivial
     | _ =>
       obtain ⟨o1,k1,k2,k3⟩:=(hw.ob r' _ ho).live (by simp) h1;rw [Rel,k1] at hr;cases o1<;>first | (exact (k2 rfl).elim) | (obtain ⟨b,z,g1,g2⟩:=hr;exact ⟨b,z,(nU h1).trans g1,g2⟩) | exact False.elim k3
 | .sl r' off n c,x,v,h,hr=>by
   rw [eY] at h;obtain ⟨h2,h⟩:=h;rw [Rel];show match hp2 r' with | none=>False | some .dead=>True | some (.mp _ _ _)=>False | some (.mix _)=>_ | some (.data _ s _ _)=>_
   cases ho:hp2 r' with
   | none=>rw [ho] at h2;cases h2
   | some o =>
     rcases h with ⟨r,h1,rfl⟩ | ⟨h1,rfl,rfl,rfl,rfl⟩ | ⟨h1,rfl,rfl,rfl,q,o',⟨e',s',cs',wr',hq⟩,rfl⟩
     ·cases o with
      | dead=>trivial
      | mix cs =>
        obtain ⟨o1,k1,k2,k3⟩:=(hw.ob r' _ ho).live (by simp) h1;rw [Rel,k1] at hr;cases o1 with
        | mix cs1=>simp only at hr ⊢;rw [nU h1];exact hr
        | _=>simp [AO.like] at k3
      | mp kk ks vs =>
        obtain ⟨o1,k1,k2,k3⟩:=(hw.ob r' _ ho).live (by simp) h1;rw [Rel,k1] at hr;cases o1 with
        | mp kk1 ks1 vs1=>exact False.elim hr
        | _=>simp [AO.like] at k3
      | data e s cs wr =>
        obtain ⟨o1,k1,k2,k3⟩:=(hw.ob r' _ ho).live (by simp) h1;rw [Rel,k1] at hr;cases o1 with
        | data e1 s1 cs1 wr1=>obtain ⟨rfl,rfl⟩:=k3;simp only at hr ⊢;rw [nU h1];exact hr
        | _=>simp [AO.like] at k3
     ·have hob:=hw.ob r' _ ho;unfold rJ at hob;rw [h1] at hob;cases o with
      | dead=>trivial
      | mix cs=>exact hob.elim
      | mp kk ks vs=>exact hob.elim
      | data e s cs wr =>
        simp only;refine .inl ⟨trivial,.inl trivial,fun _ _ b z hb => ?_,none,aQ hr⟩;rw [yj h1] at hb;cases hb
     ·have hob:=hw.ob r' _ ho;unfold rJ at hob;rw [h1] at hob;have hv:∃A,v = .slice A 0 0:=by
       rw [Rel,hq] at hr;rcases hr with ⟨_,_,_,A,g⟩ | ⟨b,z,c0,_,g,_,_,_,g6⟩
       ·exact ⟨A,g⟩
       ·simp only at g6;subst g6;exact ⟨_,g⟩
      cases o with
      | dead=>trivial
      | mix cs=>exact hob.elim
      | mp kk ks vs=>exact hob.elim
      | data e s cs wr =>
        simp only;refine .inl ⟨trivial,.inl trivial,fun _ _ b z hb => ?_,hv⟩;rw [yj h1] at hb;cases hb
 | .dptr cells off,x,v,h,hr=>by
   rw [eY] at h;subst h;rw [Rel] at hr ⊢;obtain ⟨b,o,g1,g2⟩:=hr;refine ⟨b,o,g1,?_⟩;rcases g2 with g2 | ⟨g2,g3⟩
   ·exact .inl g2
   ·exact jQ (E:=E) (E':=jW E θ hp2) oU cells b o g2 g3
 | .agg ys,x,v,h,hr=>by
   rw [eY] at h;obtain ⟨xs,rfl,h⟩:=h;rw [Rel] at hr ⊢;obtain ⟨vs,g1,g2⟩:=hr;exact ⟨vs,g1,nV hs hw ys xs _ h g2⟩
 | .tup ys,x,v,h,hr=>by
   rw [eY] at h;obtain ⟨xs,rfl,h⟩:=h;rw [Rel] at hr ⊢;obtain ⟨vs,g1,g2⟩:=hr;exact ⟨vs,g1,nV hs hw ys xs _ h g2⟩
 | .clo f ys,x,v,h,hr=>by
   rw [eY] at h;obtain ⟨xs,rfl,h⟩:=h;rw [Rel] at hr ⊢;obtain ⟨vs,g1,g2⟩:=hr;exact ⟨vs,g1,nV hs hw ys xs _ h g2⟩
theorem nV (hs:eX GL E) (hw:JE θ E.hp hp2):∀(ys xs:List AV) (vs:List Value),gJ θ E.hp hp2 ys xs->aG E xs vs->aG (jW E θ hp2) ys vs
 | [],xs,vs,h,hr=>by rw [gJ] at h;subst h;rw [aG] at hr ⊢;exact hr
 | y::ys,xs,vs,h,hr=>by
   rw [gJ] at h;obtain ⟨x,xs',rfl,h1,h2⟩:=h;rw [aG] at hr ⊢;obtain ⟨v,vs',rfl,k1,k2⟩:=hr;exact ⟨v,vs',rfl,wU hs hw y x v h1 k1,nV hs hw ys xs' vs' h2 k2⟩
end
theorem tC (hs:eX GL E) (hw:JE θ E.hp hp2):eX GL (jW E θ hp2):=by
 -- a block that is kept to be written is no block that is freed
 have hX:∀r' r o o1 b z,θ r'=some r->hp2 r'=some o->o.mutB=true->E.hp r=some o1->o1.mutB=true->E.m r=some (b,z)->E.X b->(jW E θ hp2).X b:=fun r' r o o1 b z ht ho hm h1 hm1 hb hx=>by
  refine ⟨hx,fun ⟨q,e,s,cs,z',g1,g2,g3⟩ => ?_⟩;have:=hs.inj r q o1 _ b z z' h1 g1 hm1 rfl hb g2;subst this;have:=g3 r' ht o ho;rw [hm] at this;cases this
 refine ⟨fun r' o ho => ?_,fun r' r'' o' o'' b z z' h1 h2 h3 h4 h5 h6 => ?_,fun g cells hg => ?_⟩
 ·have hob:=hw.ob r' o ho;unfold rJ at hob;cases ht:θ r' with
  | none =>
    rw [ht] at hob;cases o with
    | dead=>exact trivial
    | mix cs=>exact hob.elim
    | mp kk ks vs=>exact hob.elim
    | data e s cs wr=>exact .inl ⟨yj ht,hob⟩
  | some r =>
    rw [ht] at hob;cases o with
    | dead=>exact trivial
    | mix cs =>
      obtain ⟨cs1,k1,k2⟩:=hob;obtain ⟨b,cur,t,g1,g2,g3,g4⟩:=hs.ob r _ k1;exact ⟨b,cur,t,(nU ht).trans g1,g2,nV hs hw _ _ _ k2 g3,hX r' r _ _ b _ ht ho rfl k1 rfl g1 g4⟩
    | mp kk ks vs =>
      obtain ⟨vs1,k1,k2⟩:=hob;obtain ⟨b,es,cl,g1,g2,g3,g4⟩:=hs.ob r _ k1;exact ⟨b,es,cl,(nU ht).trans g1,g2,⟨g3.1,nV hs hw _ _ _ k2 g3.2⟩,hX r' r _ _ b _ ht ho rfl k1 rfl g1 g4⟩
    | data e s cs wr =>
      obtain ⟨wr1,cs1,k1,kc,k2,k3⟩:=hob;rcases hs.ob r _ k1 with ⟨g1,g2⟩ | ⟨b,cur,g1,g2,g3,g4,g5⟩
      ·refine .inl ⟨(nU ht).trans g1,?_⟩;subst g2;rcases kc with rfl | rfl | ⟨k,rfl⟩
       ·rfl
       ·rw [L9]
       ·rw [List.take_nil]
      ·refine .inr ⟨b,cur,(nU ht).trans g1,g2,?_,?_,g5⟩
       ·have g3':=eu.at_ (h':=(jW E θ hp2).h) (X':=(jW E θ hp2).X) oU cs1 0 0 (fun _ _ _ h=>h) g3;rcases kc with rfl | rfl | ⟨k,rfl⟩
        ·exact g3'
        ·exact Fq _ _ _ g3'
        ·exact jf k _ _ _ g3'
       cases wr with
       | true =>
         have:=k2 rfl;subst this;simp only [if_true] at g4 ⊢;exact hX r' r _ _ b _ ht ho rfl k1 rfl g1 g4
       | false =>
         simp only [Bool.false_eq_true,if_false];rcases k3 rfl with h | h
         ·subst h;simp only [Bool.false_eq_true,if_false] at g4;exact fun hx=>g4 hx.1
         ·exact RI hs k1 h g1
 ·cases ht1:θ r' with
  | none=>rw [yj ht1] at h5;cases h5
  | some r1 =>
    cases ht2:θ r'' with
    | none=>rw [yj ht2] at h6;cases h6
    | some r2 =>
      rw [nU ht1] at h5;rw [nU ht2] at h6;have nd:∀o:AO,o.mutB=true->o ≠ .dead:=fun o h e=>by rw [e] at h;cases h
      have mut1:∀r' r o,θ r'=some r->hp2 r'=some o->o.mutB=true->∃o1,E.hp r=some o1/\o1.mutB=true:=fun r' r o ht ho hm=>by
       have hob:=hw.ob r' o ho;unfold rJ at hob;rw [ht] at hob;cases o with
       | dead=>cases hm
       | mix cs=>obtain ⟨cs1,k1,_⟩:=hob;exact ⟨_,k1,rfl⟩
       | mp kk ks vs=>obtain ⟨vs1,k1,_⟩:=hob;exact ⟨_,k1,rfl⟩
       | data e s cs wr=>obtain ⟨wr1,cs1,k1,_,k2,_⟩:=hob;exact ⟨_,k1,k2 hm⟩
      obtain ⟨p1,k1,k2⟩:=mut1 r' r1 o' ht1 h1 h3;obtain ⟨p2,k3,k4⟩:=mut1 r'' r2 o'' ht2 h2 h4;have:=hs.inj r1 r2 p1 p2 b z z' k1 k3 k2 k4 h5 h6;subst this;exact hw.inj r' r'' o' o'' r1 h1 h2 h3 h4 ht1 ht2
 ·rcases hs.gl g cells hg with g0 | ⟨g1,g2⟩
  ·exact .inl g0
  ·exact jQ (E:=E) (E':=jW E θ hp2) oU cells g 0 g1 g2
theorem tH (hw:JE θ E.hp hp2) {E0:En} {w0 w:World} (h:mX E0 w0 E w):mX E0 w0 (jW E θ hp2) w:=by
 refine ⟨h.os,h.tape,h.output,h.size,h.blk,fun k ⟨r',o,z,h1,h2,h3⟩ => ?_,fun k hk=>h.xs k hk.1,fun k hk hx hm=>⟨h.xk k hk hx hm,fun ⟨r,e,s,cs,z,g1,g2,g3⟩ => ?_⟩⟩
 ·cases ht:θ r' with
  | none=>rw [yj ht] at h3;cases h3
  | some r =>
    rw [nU ht] at h3;have hob:=hw.ob r' o h1;unfold rJ at hob;rw [ht] at hob;refine h.mb k ?_;cases o with
    | dead=>cases h2
    | mix cs=>obtain ⟨cs1,k1,_⟩:=hob;exact ⟨r,_,z,k1,rfl,h3⟩
    | mp kk ks vs=>obtain ⟨vs1,k1,_⟩:=hob;exact ⟨r,_,z,k1,rfl,h3⟩
    | data e s cs wr=>obtain ⟨wr1,cs1,k1,_,k2,_⟩:=hob;exact ⟨r,_,z,k1,k2 h2,h3⟩
 ·rcases h.mb k ⟨r,_,z,g1,rfl,g2⟩ with q | q
  ·exact hm q
  ·omega
end
def AW (P:Program) (GL:Nat->Option (List DV)) (N:Nat) (hp0:Nat->Option AO) (c:Code) (Q:Exit->S->Prop) (s:S):Prop :=
 ∀(E0:En) (w0:World) (E:En) (a:Act) (w:World),E0.hp=hp0->vO GL N E a w s->iE E0 w0 E w->c.wp P (fun x a' w'=>∃s' E',Q x s'/\vO GL N E' a' w' s'/\iE E0 w0 E' w') a w
def O8 {α:Type} (id:Nat) (Q:Exit->α->Prop):Exit->α->Prop
 | .exit i,s=>if i=id then Q .normal s else Q (.exit i) s
 | e,s=>Q e s
def aeN {α:Type} (K:α->Prop) (Q:Exit->α->Prop):Exit->α->Prop
 | .normal,s=>K s
 | e,s=>Q e s
section
variable {P:Program} {GL:Nat->Option (List DV)} {q:Nat->Bool} {N:Nat} {hp0:Nat->Option AO} {Q Q':Exit->S->Prop} {s:S}
theorem AW.mono {c:Code} (h:AW P GL N hp0 c Q s) (hq:∀e s,Q e s->Q' e s):AW P GL N hp0 c Q' s :=
 fun E0 w0 E a w h0 hS hA=>wp_mono (h E0 w0 E a w h0 hS hA) fun e a w ⟨s',E',h1,h2⟩=>⟨s',E',hq _ _ h1,h2⟩
theorem JF (h:Q .normal s):AW P GL N hp0 .skip Q s:=fun E0 w0 E a w h0 hS hA=>wp_skip ⟨s,E,h,hS,hA⟩
theorem Fv {l:Nat} (h:Q .normal s):AW P GL N hp0 (.label l) Q s:=fun E0 w0 E a w h0 hS hA=>wp_label ⟨s,E,h,hS,hA⟩
theorem JG {id:Nat} (h:Q (.exit id) s):AW P GL N hp0 (.exit id) Q s:=fun E0 w0 E a w h0 hS hA=>wp_exit ⟨s,E,h,hS,hA⟩
theorem O9 (h:Q .ret s):AW P GL N hp0 .ret Q s:=fun E0 w0 E a w h0 hS hA=>wp_ret ⟨s,E,h,hS,hA⟩
theorem BG {x y:Code} (h:AW P GL N hp0 x (aeN (AW P GL N hp0 y Q) Q) s):AW P GL N hp0 (.seq x y) Q s:=fun E0 w0 E a w h0 hS hA=>by
 refine wp_seq (wp_mono (h E0 w0 E a w h0 hS hA) fun e a' w' ⟨s',E',h1,h2,h3⟩ => ?_);cases e<;>first | exact h1 E0 w0 E' a' w' h0 h2 h3 | exact ⟨s',E',h1,h2,h3⟩
theorem pR {c:Operand} {x y:Code} {b:Bool} (hc:s.ev GL c = .d (.val (.bool b))) (h1:b=true->AW P GL N hp0 x Q s) (h2:b=false->AW P GL N hp0 y Q s):AW P GL N hp0 (.cond c x y) Q s:=fun E0 w0 E a w h0 hS hA=>by
 have hr:=hS.ev c;rw [hc] at hr;refine wp_cond (aQ hr) ?_;cases b with
 | true=>exact h1 rfl E0 w0 E a w h0 hS hA
 | false=>exact h2 rfl E0 w0 E a w h0 hS hA
theorem aeO {c:Operand} {x y:Code} (hc:s.ev GL c = .ab) (h1:AW P GL N hp0 x Q s) (h2:AW P GL N hp0 y Q s):AW P GL N hp0 (.cond c x y) Q s:=fun E0 w0 E a w h0 hS hA=>by
 have hr:=hS.ev c;rw [hc,Rel] at hr;obtain ⟨b,hb⟩:=hr;refine wp_cond hb ?_;cases b with
 | true=>exact h1 E0 w0 E a w h0 hS hA
 | false=>exact h2 E0 w0 E a w h0 hS hA
def aa9 {α:Type} (Q:Exit->α->Prop):Exit->α->Prop
 | .goto _,_=>False
 | e,s=>Q e s
theorem kE {c:Code} (h:AW P GL N hp0 c (aa9 Q) s):AW P GL N hp0 (.scope c) Q s:=fun E0 w0 E a w h0 hS hA=>by
 refine wp_scope_straight (wp_mono (h E0 w0 E a w h0 hS hA) fun e a' w' ⟨s',E',h1,h2,h3⟩ => ?_);cases e with
 | goto l=>exact h1.elim
 | _=>exact ⟨s',E',h1,h2,h3⟩
theorem iQ {id:Nat} {c:Code} (h:AW P GL N hp0 c (O8 id Q) s):AW P GL N hp0 (.block id c) Q s:=fun E0 w0 E a w h0 hS hA=>by
 refine wp_block (wp_mono (h E0 w0 E a w h0 hS hA) fun e a' w' ⟨s',E',h1,h2,h3⟩ => ?_);cases e with
 | exit i =>
   simp only [O8,Exit.inBlock] at h1 ⊢;by_cases hi:i=id
   ·rw [if_pos hi] at h1 ⊢;exact ⟨s',E',h1,h2,h3⟩
   ·rw [if_neg hi] at h1 ⊢;exact ⟨s',E',h1,h2,h3⟩
 | _=>exact ⟨s',E',h1,h2,h3⟩
def vP (GL:Nat->Option (List DV)) (N:Nat) (hp0:Nat->Option AO) (s s':S):Prop :=
 ∀(E0:En) (w0:World) (E:En) (a:Act) (w:World),E0.hp=hp0->vO GL N E a w s->iE E0 w0 E w->∃E',vO GL N E' a w s'/\iE E0 w0 E' w
theorem vP.refl (s:S):vP GL N hp0 s s:=fun E0 w0 E a w _ hS hA=>⟨E,hS,hA⟩
theorem Fz {c:Code} {s':S} (ht:vP GL N hp0 s s') (h:AW P GL N hp0 c Q s'):AW P GL N hp0 c Q s:=fun E0 w0 E a w h0 hS hA=>by
 obtain ⟨E',h1,h2⟩:=ht E0 w0 E a w h0 hS hA;exact h E0 w0 E' a w h0 h1 h2
theorem XP {Q:Exit->Act->World->Prop} {c:Code} (I:Nat->Act->World->Prop) (round:∀n a w,I n a w->c.wp P (Exit.then (fun a' w'=>∃m,m<n/\I m a' w') Q) a w) {n:Nat} {a:Act} {w:World} (h₀:I n a w):(Code.loop c).wp P Q a w:=by
 intro b k cs
 have key:∀n a w,I n a w ->
  ∃e a' w',Q e a' w'/\Arrives P (lone (b.at a (.code c :: .inLoop c::k)) cs w) b k cs e a' w':=by
  intro n
  induction n using Nat.strongRecOn with
  | _ n ih =>
    intro a w hI;obtain ⟨e,a₁,w₁,hq,harr⟩:=round n a w hI b (.inLoop c::k) cs;cases e with
    | normal =>
      obtain ⟨m,hlt,hI₁⟩:=hq;obtain ⟨e₂,a₂,w₂,hq₂,harr₂⟩:=ih m hlt a₁ w₁ hI₁;exact ⟨e₂,a₂,w₂,hq₂,.of_steps (Steps.trans harr (.one step_inLoop)) harr₂⟩
    | exit id=>exact ⟨_,a₁,w₁,hq,.pass (x := .inLoop c) rfl (fun _ _ => .inl (by simp)) harr⟩
    | goto l=>exact ⟨_,a₁,w₁,hq,.pass (x := .inLoop c) rfl (fun _ _ => .inl (by simp)) harr⟩
    | ret=>exact ⟨_,a₁,w₁,hq,.pass (x := .inLoop c) rfl (fun _ _ => .inl (by simp)) harr⟩
    | panic ch=>exact ⟨_,a₁,w₁,hq,.pass (x := .inLoop c) rfl (fun _ _ => .inl (by simp)) harr⟩
    | outgrown=>exact ⟨_,a₁,w₁,hq,.pass (x := .inLoop c) rfl (fun _ _ => .inl (by simp)) harr⟩
 obtain ⟨e,a',w',hq,harr⟩:=key n a w h₀;exact ⟨e,a',w',hq,.of_steps (.one step_loop) harr⟩
end
def SL.S (s:SL):S:=⟨s.get,s.rd⟩
def SL.ev (GL:Nat->Option (List DV)) (s:SL):Operand->AV
 | .tmp t=>s.get t
 | .const v=>y5 v
 | .global g=>match GL g with | some cells => .dptr cells 0 | none => .junk
 | .func f=>match Nat.blt f 1048576 with | true => .clo f [] | false => .junk
theorem SL.ev_S (GL:Nat->Option (List DV)) (s:SL):s.S.ev GL=s.ev GL:=by funext x;cases x<;>rfl
def SL.app (s:SL) (d:Option Nat) (v:AV) (us:List (Nat×AO)):SL:={s.put d v with hp:=us++s.hp}
def UU (n:Nat):Option Nat->Bool
 | none=>true
 | some t=>decide (t<n)
def qC (ops:Array Oper) (anc:List Nat) (o:Oper) (e:Ef) (log:List (Nat×Ef)):Bool :=
 log.all fun (j,ej)=>anc.contains j||match ops[j]? with | some oj=>oj.apart ops o&&UN ej e | none=>false
structure Cxt where
 D:FuncId->List AV->List Nat->AV->List (Nat×AO)->(Nat->Option AO)->Prop
 L:Code->(Exit->SL->Prop)->SL->Prop
section
variable (C:Cxt) (T:Ty) (GL:Nat->Option (List DV)) (q:Nat->Bool) (N base:Nat) (ops:Array Oper) (draw:Bool) (anc:List (List Nat))
def JH (K:SL->Prop):List Nat->SL->List (Nat×Ef)->Prop
 | [],s,_=>K s
 | i::is,s,log=>match ops[i]? with
   | none=>False
   | some o=>match UU N o.dst with
     | false=>False
     | true=>match oz ops s o with
       | none=>False
       | some b=>match b with
         | true=>match rF (s.ev GL) o with
           | some (f,args)=>∃v us rds,C.D f args rds v us s.rd/\(!draw||qC ops (anc.getD i []) o ⟨v,us,rds,[],lT s.rd us⟩ log)=true/\JH K is (s.app o.dst v us) ((i,⟨v,us,rds,[],lT s.rd us⟩)::log)
           | none=>match eff T q s.rd (base+i) o (s.ev GL) with
             | some f=>match !draw||qC ops (anc.getD i []) o ⟨f.v,f.upd,f.rds,f.lvs,lT s.rd f.upd⟩ log with
               | true=>JH K is (s.app o.dst f.v f.upd) ((i,⟨f.v,f.upd,f.rds,f.lvs,lT s.rd f.upd⟩)::log)
               | false=>False
             | none=>False
         | false=>match !draw||qC ops (anc.getD i []) o pG log with
           | true=>JH K is (s.put o.dst .undef) ((i,pG)::log)
           | false=>False
end
section
variable {P:Program} {GL:Nat->Option (List DV)} {q:Nat->Bool} {N base:Nat} {ops:Array Oper} {draw:Bool} {anc:List (List Nat)}
theorem SL.app_S (s:SL) (d:Option Nat) (e:Ef):(s.app d e.v e.upd).S=s.S.app d e:=by
 unfold SL.app SL.S S.app S.put SL.put;have h2:∀hp:List (Nat×AO),(fun r=>look r (e.upd++hp))=dH (fun r=>look r hp) e.upd:=fun hp=>by
  funext r;simp only [dH,bI];cases look r e.upd<;>rfl
 cases d with
 | none =>
   simp only [S.mk.injEq];exact ⟨rfl,h2 s.hp⟩
 | some t =>
   simp only [S.mk.injEq];refine ⟨?_,h2 s.hp⟩;funext k;simp only [SL.get,look];by_cases hk:t=k
   ·subst hk;simp
   ·simp [hk,Ne.symm hk]
theorem SL.put_S (s:SL) (d:Option Nat):(s.put d .undef).S=s.S.app d pG:=by
 have:=SL.app_S s d pG;rw [<-this];unfold SL.app pG SL.put;cases d<;>rfl
theorem IC (s:SL) (o:Oper):rH ops s.S o=oz ops s o:=rfl
theorem Pe {i:Nat} {o:Oper} (ho:ops[i]? = some o) {e:Ef} {log:List (Nat×Ef)} (h:qC ops ((qB ops ops.size).getD i []) o e log=true):∀x∈log,x.1∈(qB ops ops.size).getD i []\/∃ox oy,ops[x.1]? = some ox/\ops[i]? = some oy/\ox.apart ops oy=true/\UN x.2 e=true:=fun x hx=>by
 unfold qC at h;have:=List.all_eq_true.1 h x hx;obtain ⟨j,ej⟩:=x;simp only [Bool.or_eq_true,List.contains_eq_mem,decide_eq_true_eq] at this;rcases this with h1 | h1
 ·exact .inl h1
 ·split at h1
  ·rename_i oj hj;simp only [Bool.and_eq_true] at h1;exact .inr ⟨oj,o,hj,ho,h1.1,h1.2⟩
  ·cases h1
def lU (P:Program) (GL:Nat->Option (List DV)) (q:Nat->Bool) (N base:Nat) (ops:Array Oper) (draw:Bool) (K:SL->Prop) (is:List Nat) (s:SL) (log:List (Nat×Ef)):Prop :=
 ∃(L:List (Nat×Ef)) (s':SL),L.map (·.1)=is/\Run P GL q N base ops L s.S s'.S/\K s' /\
  (draw=true->∀y∈L,∀x∈log,x.1∈(qB ops ops.size).getD y.1 []\/∃ox oy,ops[x.1]? = some ox/\ops[y.1]? = some oy/\ox.apart ops oy=true/\UN x.2 y.2=true) /\
  (draw=true->L.Pairwise (fun x y=>x.1∈(qB ops ops.size).getD y.1 []\/∃ox oy,ops[x.1]? = some ox/\ops[y.1]? = some oy/\ox.apart ops oy=true/\UN x.2 y.2=true))
theorem jG (hanc:draw=true->anc=qB ops ops.size) {K:SL->Prop} {i:Nat} {is:List Nat} {s s1:SL} {log:List (Nat×Ef)} {o:Oper} (ho:ops[i]? = some o) {e:Ef} (hs1:s1.S=s.S.app o.dst e) (hst:kD P GL q N base ops i s.S e)
 (hnc:draw=true->qC ops (anc.getD i []) o e log=true) (h:lU P GL q N base ops draw K is s1 ((i,e)::log)):lU P GL q N base ops draw K (i::is) s log:=by
 have hdo:oP ops i=o.dst:=by simp [oP,ho]
 obtain ⟨L,s',g1,g2,g3,g4,g5⟩:=h;refine ⟨(i,e)::L,s',by simp [g1],⟨hst,by rw [hdo,<-hs1];exact g2⟩,g3,fun hdr y hy x hx => ?_,fun hdr=>List.pairwise_cons.2 ⟨fun y hy=>g4 hdr y hy (i,e) List.mem_cons_self,g5 hdr⟩⟩;rcases List.mem_cons.1 hy with rfl | hy
 ·have:=hnc hdr;rw [hanc hdr] at this;exact Pe ho this x hx
 ·exact g4 hdr y hy x (List.mem_cons_of_mem _ hx)
theorem pU {b:Bool} (h:(!draw||b)=true):draw=true->b=true:=fun hd=>by rw [hd] at h;simpa using h
theorem Ae (hanc:draw=true->anc=qB ops ops.size) {C:Cxt} (hC:∀f args rds v us hp,C.D f args rds v us hp->DX P GL f args rds v us hp) {K:SL->Prop}:∀(is:List Nat) (s:SL) (log:List (Nat×Ef)),JH C (aO P) GL q N base ops draw anc K is s log->lU P GL q N base ops draw K is s log
 | [],s,log,h=>⟨[],s,rfl,rfl,h,fun _ y hy=>(by cases hy),fun _=>List.Pairwise.nil⟩
 | i::is,s,log,h=>by
   unfold JH at h;split at h
   ·exact h.elim
   ·rename_i o ho;split at h
    ·exact h.elim
    ·rename_i hdst;have hd:∀t,o.dst=some t->t<N:=fun t e=>by
      unfold UU at hdst;rw [e] at hdst;simpa using hdst
     split at h
     ·exact h.elim
     ·rename_i b hb;cases b with
      | true =>
        simp only at h;split at h
        ·rename_i f args hc;obtain ⟨v,us,rds,k1,k3,k4⟩:=h;have k2:=hC _ _ _ _ _ _ k1;refine jG hanc ho (SL.app_S s o.dst ⟨v,us,rds,[],lT s.rd us⟩) ?_ (pU k3) (Ae hanc hC is _ _ k4);unfold kD;rw [ho];refine ⟨hd,.inl ⟨hb,rfl,?_⟩⟩;rw [SL.ev_S,hc];exact ⟨rfl,k2⟩
        ·rename_i hc;split at h
         ·rename_i f hf;split at h
          ·rename_i hn;refine jG hanc ho (SL.app_S s o.dst ⟨f.v,f.upd,f.rds,f.lvs,lT s.rd f.upd⟩) ?_ (pU hn) (Ae hanc hC is _ _ h);unfold kD;rw [ho];refine ⟨hd,.inl ⟨hb,rfl,?_⟩⟩;rw [SL.ev_S,hc];exact ⟨f,hf,rfl,rfl,rfl,rfl⟩
          ·exact h.elim
         ·exact h.elim
      | false =>
        simp only at h;split at h
        ·rename_i hn;refine jG hanc ho (SL.put_S s o.dst) ?_ (pU hn) (Ae hanc hC is _ _ h);unfold kD;rw [ho];exact ⟨hd,.inr ⟨hb,rfl⟩⟩
        ·exact h.elim
variable {hp0:Nat->Option AO}
def FB (id:Nat):Nat:=1000+100*id
theorem UW (hq:Ov P q) (hdp:30<=P.depth) (hm:P.follows .mixedOrders=true) {id:Nat} {Q:Exit->S->Prop} {s:SL} (hback:draw=true->Fp ops=true) (hanc:draw=true->anc=qB ops ops.size) {C:Cxt} (hC:∀f args rds v us hp,C.D f args rds v us hp->DX P GL f args rds v us hp) {K:SL->Prop} (hK:∀s',K s'->Q .normal s'.S)
 (h:JH C (aO P) GL q N (FB id) ops draw anc K (List.range ops.size) s []):AW P GL N hp0 (.region id ops draw) Q s.S:=fun E0 w0 E a w h0 hS hA=>by
 obtain ⟨L,s',g1,g2,g3,g4,g5⟩:=Ae hanc hC _ _ _ h;have hQ:∀E' a' w',vO GL N E' a' w' s'.S->iE E0 w0 E' w'->(fun (x:Exit) (a':Act) (w':World)=>∃s' E',Q x s'/\vO GL N E' a' w' s'/\iE E0 w0 E' w') .normal a' w':=fun E' a' w' h1 h2=>⟨s'.S,E',hK _ g3,h1,h2⟩
 cases draw with
 | false =>
   refine wp_region ?_;rw [<-g1];exact O6 (P:=P) (Q:=fun (x:Exit) (a':Act) (w':World)=>∃s' E',Q x s'/\vO GL N E' a' w' s'/\iE E0 w0 E' w') hq hdp hQ L E a w s.S g2 hS hA
 | true =>
   refine wp_region_any hm ?_;have hlen:L.length=ops.size:=by
    have:=congrArg List.length g1;simpa using this
   have:=O7 (P:=P) (Q:=fun (x:Exit) (a':Act) (w':World)=>∃s' E',Q x s'/\vO GL N E' a' w' s'/\iE E0 w0 E' w') hq hdp (hback rfl) hQ ops.size L (Array.replicate ops.size false) E a {w with drawn:=w.drawn+1} s.S hlen
    (fun j hj=>by
      exfalso;rw [Array.getD_eq_getD_getElem?] at hj;rcases Nat.lt_or_ge j ops.size with hlt | hge
      ·rw [Array.getElem?_replicate,if_pos hlt] at hj;simp at hj
      ·rw [Array.getElem?_replicate,if_neg (by omega)] at hj;simp at hj)
    (fun i=>by
      rw [g1,List.mem_range];constructor
      ·exact fun h=>h.2
      ·intro hi;refine ⟨?_,hi⟩;rw [Array.getD_eq_getD_getElem?,Array.getElem?_replicate,if_pos hi];rfl)
    (by rw [g1];exact List.pairwise_lt_range) (g5 rfl) g2 hS.drew hA.drew
   exact this
end
def LQ (Q:Exit->SL->Prop):Exit->S->Prop:=fun e s'=>∃sl:SL,s'=sl.S/\Q e sl
section
variable (C:Cxt) (T:Ty) (GL:Nat->Option (List DV)) (q:Nat->Bool) (N:Nat)
def kF:Code->(Exit->SL->Prop)->SL->Prop
 | .skip,Q,s=>Q .normal s
 | .region id ops draw,Q,s=>match !draw||Fp ops with
   | true=>JH C T GL q N (FB id) ops draw (if draw then qB ops ops.size else []) (fun s'=>Q .normal s') (List.range ops.size) s []
   | false=>False
 | .seq a b,Q,s=>kF a (aeN (fun s'=>kF b Q s') Q) s
 | .cond c t e,Q,s=>match s.ev GL c with
   | .d (.val (.bool b))=>match b with
     | true=>kF t Q s
     | false=>kF e Q s
   | .ab=>kF t Q s/\kF e Q s
   | _=>False
 | .scope c,Q,s=>kF c (aa9 Q) s
 | .block id c,Q,s=>kF c (O8 id Q) s
 | .exit id,Q,s=>Q (.exit id) s
 | .ret,Q,s=>Q .ret s
 | .label _,Q,s=>Q .normal s
 | .loop c,Q,s=>C.L (.loop c) Q s
 | _,_,_=>False
end
def Mc (P:Program) (GL:Nat->Option (List DV)) (N:Nat) (hp0:Nat->Option AO):Cxt :=
 ⟨fun f args rds v us hp=>DX P GL f args rds v us hp,fun c Q s=>AW P GL N hp0 c (LQ Q) s.S⟩
section
variable {P:Program} {T:Ty} {GL:Nat->Option (List DV)} {q:Nat->Bool} {N:Nat} {hp0:Nat->Option AO}
theorem jl (hq:Ov P q) (hdp:30<=P.depth) (hm:P.follows .mixedOrders=true) (hT:aO P=T):∀(c:Code) (Q:Exit->SL->Prop) (s:SL),kF (Mc P GL N hp0) T GL q N c Q s->AW P GL N hp0 c (LQ Q) s.S
 | .skip,Q,s,h=>JF ⟨s,rfl,h⟩
 | .region id ops draw,Q,s,h=>by
   rw [kF] at h;subst hT;split at h
   ·rename_i hb;exact UW hq hdp hm (pU hb) (fun hd=>by rw [hd];rfl) (fun f args rds v us hp h=>h) (fun s' hs=>⟨s',rfl,hs⟩) h
   ·exact h.elim
 | .seq a b,Q,s,h=>by
   rw [kF] at h;refine BG (AW.mono (jl hq hdp hm hT a _ s h) fun e s' ⟨sl,h1,h2⟩ => ?_);subst h1;cases e with
   | normal=>exact jl hq hdp hm hT b Q sl h2
   | _=>exact ⟨sl,rfl,h2⟩
 | .cond c t e,Q,s,h=>by
   rw [kF] at h;split at h
   ·rename_i b hb;refine pR (by rw [SL.ev_S];exact hb) (fun hb => ?_) (fun hb => ?_)
    ·subst hb;exact jl hq hdp hm hT t Q s h
    ·subst hb;exact jl hq hdp hm hT e Q s h
   ·rename_i hb;exact aeO (by rw [SL.ev_S];exact hb) (jl hq hdp hm hT t Q s h.1) (jl hq hdp hm hT e Q s h.2)
   ·exact h.elim
 | .block id c,Q,s,h=>by
   rw [kF] at h;refine iQ (AW.mono (jl hq hdp hm hT c _ s h) fun e s' ⟨sl,h1,h2⟩ => ?_);subst h1;cases e with
   | exit i =>
     simp only [O8] at h2 ⊢;by_cases hi:i=id
     ·rw [if_pos hi] at h2 ⊢;exact ⟨sl,rfl,h2⟩
     ·rw [if_neg hi] at h2 ⊢;exact ⟨sl,rfl,h2⟩
   | _=>exact ⟨sl,rfl,h2⟩
 | .exit id,Q,s,h=>JG ⟨s,rfl,h⟩
 | .ret,Q,s,h=>O9 ⟨s,rfl,h⟩
 | .label l,Q,s,h=>Fv ⟨s,rfl,h⟩
 | .loop c,Q,s,h=>by rw [kF] at h;exact h
 | .rangeFunc _ _ _ _,Q,s,h=>h.elim
 | .scope c,Q,s,h=>by
   rw [kF] at h;refine kE (AW.mono (jl hq hdp hm hT c _ _ h) fun e s' ⟨sl,h1,h2⟩ => ?_);subst h1;cases e with
   | goto l=>exact h2
   | _=>exact ⟨sl,rfl,h2⟩
 | .goto _,Q,s,h=>h.elim
 | .refuse _,Q,s,h=>h.elim
theorem BH {E0 E:En} {w0 w:World} (hA:iE E0 w0 E w) {θ:Nat->Option Nat} {hp2:Nat->Option AO} (hw:JE θ E.hp hp2) (hk:∀r o,E0.hp r=some o->θ r=some r/\(hp2 r).isSome=true):Ext E0 (jW E θ hp2):=by
 refine ⟨hA.ext.sub.trans oU,fun r o ho => ?_⟩;obtain ⟨k1,k2⟩:=hk r o ho;obtain ⟨o',h1,h2,h3⟩:=hA.ext.ob r o ho;cases h4:hp2 r with
 | none=>rw [h4] at k2;cases k2
 | some o2 =>
   refine ⟨o2,h4,?_,?_⟩
   ·cases o2 with
    | dead=>cases o<;>simp [AO.like]
    | _ =>
      obtain ⟨o1,g1,g2,g3⟩:=(hw.ob r _ h4).live (by simp) k1;rw [h1] at g1;cases g1;exact AO.like_trans h2 g3
   ·cases o2 with
    | dead=>exact .inl rfl
    | _ =>
      obtain ⟨o1,g1,g2,g3⟩:=(hw.ob r _ h4).live (by simp) k1;rw [h1] at g1;cases g1;rcases h3 with h3 | h3
      ·exact (g2 h3).elim
      ·exact .inr ((nU k1).trans h3)
def Md (T:Ty) (rd:Nat->Option AO) (t:Nat) (x:AV):Option AV :=
 match T t with
 | some i=>match x with
   | .ptr r off=>match rd r with
     | some (.data _ _ cs _)=>wz i cs off
     | some (.mix cs)=>fQ i cs off
     | _=>none
   | _=>none
 | none=>none
theorem UY {E:En} {w:World} (hw:w.heap=E.h) (hs:eX GL E) {t:Nat} {x v:AV} {u:Value} (hx:Rel E x u) (h:Md (aO P) E.hp t x=some v):∃y,(do loadVar t (<-asAddr u):Sem Value).run P w = .ok y w/\Rel E v y:=by
 unfold Md at h;split at h
 ·rename_i i hi;split at h
  ·rename_i r off;split at h
   ·rename_i e s cs wr ho;rw [Rel,ho] at hx;obtain ⟨b,z,g1,rfl⟩:=hx;rcases oG hs ho with ⟨q1,_⟩ | ⟨b',cur,q1,q2,q3,_⟩
    ·rw [q1] at g1;cases g1
    ·have hbb:b=b':=by rw [q1] at g1;cases g1;rfl
     subst hbb;obtain ⟨y,hy,hr⟩:=BD (P:=P) hw hi q3 h;rw [Nat.zero_add] at hy;exact ⟨y,hy,hr⟩
   ·rename_i cs ho;rw [Rel,ho] at hx;obtain ⟨b,z,g1,rfl⟩:=hx;obtain ⟨b',cur,t0,q1,q2,q3⟩:=OM hs ho;have hbb:b=b':=by rw [q1] at g1;cases g1;rfl
    subst hbb;obtain ⟨y,hy,hr⟩:=Ir (P:=P) hw hi q2 q3 h;exact ⟨y,hy,hr⟩
   ·cases h
  ·cases h
 ·cases h
def FC (T:Ty) (s:SL):ResultVar->Option AV
 | .tmp t=>some (s.get t)
 | .cell a t=>Md T s.rd t (s.get a)
def uM (T:Ty) (s:SL):List ResultVar->Option (List AV)
 | []=>some []
 | r::l=>match FC T s r,uM T s l with
   | some x,some xs=>some (x::xs)
   | _,_=>none
def BI (T:Ty) (fn:Func) (s:SL):Option AV :=
 match uM T s fn.results.toList with
 | some [x]=>some x
 | some xs=>some (.tup xs)
 | none=>none
def Pg (tmps:Array Value):ResultVar->Sem Value
 | .tmp t=>pure (tmps.getD t undef)
 | .cell p t=>do loadVar t (<-asAddr (tmps.getD p undef))
theorem Ph (fn:Func) (tmps:Array Value):results fn tmps=(do
 let vs <-fn.results.mapM (Pg tmps)
 pure (if h:vs.size=1 then vs[0] else .tuple vs)):=by
 unfold results;congr 1
theorem Pj {E:En} {a:Act} {w:World} {s:SL} (hS:vO GL N E a w s.S) {r:ResultVar} {v:AV} (h:FC (aO P) s r=some v) :
 ∃y,(Pg a.tmps r).run P w = .ok y w/\Rel E v y:=by
 cases r with
 | tmp t =>
   simp only [FC,Option.some.injEq] at h;subst h;exact ⟨_,rfl,hS.tm t⟩
 | cell p t =>
   have hp:E.hp=s.rd:=hS.hp;simp only [FC] at h;rw [<-hp] at h;exact UY hS.h hS.sim (hS.tm p) h
theorem FD {E:En} {a:Act} {w:World} {s:SL} (hS:vO GL N E a w s.S):∀(l:List ResultVar) (vs:List AV),uM (aO P) s l=some vs->∃ys,(l.mapM (Pg a.tmps)).run P w = .ok ys w/\aG E vs ys
 | [],vs,h=>by
   simp only [uM,Option.some.injEq] at h;subst h;exact ⟨[],by simp,by rw [aG]⟩
 | r::l,vs,h=>by
   simp only [uM] at h;split at h
   ·rename_i x xs h1 h2;simp only [Option.some.injEq] at h;subst h;obtain ⟨y,g1,g2⟩:=Pj hS h1;obtain ⟨ys,g3,g4⟩:=FD hS l xs h2;refine ⟨y::ys,?_,by rw [aG];exact ⟨y,ys,rfl,g2,g4⟩⟩;rw [List.mapM_cons,Sem.run_bind,g1];simp only [Result.andThen_ok,Sem.run_bind,g3,Sem.run_pure]
   ·cases h
theorem FH {E:En} {a:Act} {w:World} {s:SL} (hS:vO GL N E a w s.S) {fn:Func} {v:AV} (h:BI (aO P) fn s=some v):∃y,(results fn a.tmps).run P w = .ok y w/\Rel E v y:=by
 have key:∀xs,uM (aO P) s fn.results.toList=some xs->∃ys:List Value,(results fn a.tmps).run P w = .ok (if h:ys.toArray.size=1 then ys.toArray[0] else .tuple ys.toArray) w/\aG E xs ys:=fun xs hx=>by
  obtain ⟨ys,g1,g2⟩:=FD hS _ _ hx;refine ⟨ys,?_,g2⟩;rw [Ph,Sem.run_bind,Array.mapM_eq_mapM_toList];simp only [Sem.run_map,g1];rfl
 unfold BI at h;cases hx:uM (aO P) s fn.results.toList with
 | none=>rw [hx] at h;cases h
 | some xs =>
   rw [hx] at h;obtain ⟨ys,g1,g2⟩:=key _ hx;have hl:=fH _ _ g2
   match xs,h,g2,hl with
   | [x],h,g2,hl =>
     simp only [Option.some.injEq] at h;subst h;rw [aG] at g2;obtain ⟨y,ys',rfl,k1,k2⟩:=g2;rw [aG] at k2;subst k2;exact ⟨y,g1,k1⟩
   | [],h,g2,hl =>
     simp only [Option.some.injEq] at h;subst h;exact ⟨.tuple ys.toArray,by rw [g1,dif_neg (by simp;simp at hl;rw [hl];simp)],by rw [Rel];exact ⟨_,rfl,g2⟩⟩
   | x1::x2::xs,h,g2,hl =>
     simp only [Option.some.injEq] at h;subst h;exact ⟨.tuple ys.toArray,by rw [g1,dif_neg (by simp;simp at hl;omega)],by rw [Rel];exact ⟨_,rfl,g2⟩⟩
end
mutual
def AV.plain:AV->Bool
 | .ptr _ _=>false
 | .sl _ _ _ _=>false
 | .agg cs=>BJ cs
 | .tup cs=>BJ cs
 | .clo _ cs=>BJ cs
 | _=>true
def BJ:List AV->Bool
 | []=>true
 | x::xs=>x.plain&&BJ xs
end
def aK (us:List (Nat×AO)):Nat->Option AO:=fun r=>look r us
def rM (os:List (Nat×AO)) (rs:List Nat):Bool:=rs.all fun r=>(look r os).isSome
mutual
theorem Me {E E':En} (h1:E'.h=E.h) (h2:E'.X=E.X):∀(x:AV) (v:Value),(∀r∈x.refs,E'.hp r=E.hp r/\E'.m r=E.m r)->Rel E x v->Rel E' x v
 | .d x,v,_,hr=>by rw [Rel] at hr ⊢;rw [h1,h2];exact hr
 | .ptr r o,v,hp,hr=>by
   obtain ⟨k1,k2⟩:=hp r (by rw [AV.refs];exact List.mem_singleton.2 rfl);rw [Rel] at hr ⊢;rw [k1,k2];exact hr
 | .sl r o n c,v,hp,hr=>by
   obtain ⟨k1,k2⟩:=hp r (by rw [AV.refs];exact List.mem_singleton.2 rfl);rw [Rel] at hr ⊢;rw [k1,k2];exact hr
 | .dptr cells off,v,_,hr=>by rw [Rel] at hr ⊢;rw [h1,h2];exact hr
 | .agg cs,v,hp,hr=>by
   rw [AV.refs] at hp;rw [Rel] at hr ⊢;obtain ⟨vs,g1,g2⟩:=hr;exact ⟨vs,g1,mF h1 h2 cs _ hp g2⟩
 | .tup cs,v,hp,hr=>by
   rw [AV.refs] at hp;rw [Rel] at hr ⊢;obtain ⟨vs,g1,g2⟩:=hr;exact ⟨vs,g1,mF h1 h2 cs _ hp g2⟩
 | .clo f cs,v,hp,hr=>by
   rw [AV.refs] at hp;rw [Rel] at hr ⊢;obtain ⟨vs,g1,g2⟩:=hr;exact ⟨vs,g1,mF h1 h2 cs _ hp g2⟩
 | .undef,v,_,hr=>by rw [Rel] at hr ⊢;exact hr
 | .ab,v,_,hr=>by rw [Rel] at hr ⊢;exact hr
 | .junk,v,_,hr=>by rw [Rel];trivial
theorem mF {E E':En} (h1:E'.h=E.h) (h2:E'.X=E.X):∀(xs:List AV) (vs:List Value),(∀r∈AV.refs.refsL xs,E'.hp r=E.hp r/\E'.m r=E.m r)->aG E xs vs->aG E' xs vs
 | [],vs,_,hr=>by rw [aG] at hr ⊢;exact hr
 | x::xs,vs,hp,hr=>by
   rw [AV.refs.refsL] at hp;rw [aG] at hr ⊢;obtain ⟨v,vs',rfl,g1,g2⟩:=hr;exact ⟨v,vs',rfl,Me h1 h2 x v (fun r h=>hp r (List.mem_append_left _ h)) g1,mF h1 h2 xs vs' (fun r h=>hp r (List.mem_append_right _ h)) g2⟩
end
def wV:AO->List Nat
 | .mix cs=>AV.refs.refsL cs
 | .mp _ _ vs=>AV.refs.refsL vs
 | _=>[]
def mG (E:En) (os:List (Nat×AO)):En:={E with hp:=aK os}
def pI (E E2:En) (us:List (Nat×AO)):En:={m:=fun r=>if (look r us).isSome then E2.m r else E.m r,hp:=dH E.hp us,X:=E2.X,h:=E2.h}
section
variable {P:Program} {GL:Nat->Option (List DV)} {q:Nat->Bool}
theorem Af {E:En} {os:List (Nat×AO)} (hos:∀r o,look r os=some o->E.hp r=some o) {rs:List Nat} (h:rM os rs=true):∀r∈rs,(mG E os).hp r=E.hp r/\(mG E os).m r=E.m r:=fun r hr=>by
 have:=List.all_eq_true.1 h r hr;cases hl:look r os with
 | none=>rw [hl] at this;cases this
 | some o=>exact ⟨(show look r os=_ by rw [hl,hos r o hl]),rfl⟩
theorem Ag {E:En} {os:List (Nat×AO)} (hos:∀r o,look r os=some o->E.hp r=some o) (hcl:∀r o,look r os=some o->rM os (wV o)=true) (h:eX GL E):eX GL (mG E os):=by
 refine ⟨fun r o ho => ?_,fun r r' o o' b z z' h1 h2=>h.inj r r' o o' b z z' (hos r o h1) (hos r' o' h2),h.gl⟩;have hr:=h.ob r o (hos r o ho);cases o with
 | dead=>exact trivial
 | data e s cs wr=>exact hr
 | mix cs =>
   obtain ⟨b,cur,t,g1,g2,g3,g4⟩:=hr;exact ⟨b,cur,t,g1,g2,mF (E:=E) (E':=mG E os) rfl rfl cs _ (Af hos (hcl r _ ho)) g3,g4⟩
 | mp kk ks vs =>
   obtain ⟨b,es,cl,g1,g2,g3,g4⟩:=hr;exact ⟨b,es,cl,g1,g2,⟨g3.1,mF (E:=E) (E':=mG E os) rfl rfl vs _ (Af hos (hcl r _ ho)) g3.2⟩,g4⟩
theorem Pn {E E2:En} {w w':World} {os us:List (Nat×AO)} (hw:w.heap=E.h) (hs:eX GL E) (hos:∀r o,look r os=some o->E.hp r=some o) (h2:eX GL E2) (hp2:E2.hp=aK us) (hw':w'.heap=E2.h) (hst:mX (mG E os) w E2 w') (hsub:Sub E.h E.X E2.h E2.X) (hin0:∀r o,look r os=some o->(look r us).isSome=true) (hfr:∀r o,look r us=some o->E.hp r=none\/∃o0,E.hp r=some o0/\o0.like o/\(o = .dead\/E2.m r=E.m r)) :
 Goes GL E w us (pI E E2 us) w'/\∀v u,Rel E2 v u->Rel (pI E E2 us) v u:=by
 have hin:∀r o,look r us=some o->(pI E E2 us).hp r=some o/\(pI E E2 us).m r=E2.m r:=fun r o h=>⟨by simp [pI,dH,h],by simp [pI,h]⟩
 have hout:∀r,look r us=none->(pI E E2 us).hp r=E.hp r/\(pI E E2 us).m r=E.m r:=fun r h=>⟨by simp [pI,dH,h],by simp [pI,h]⟩
 have hlt:∀r o b z,E.hp r=some o->o ≠ .dead->E.m r=some (b,z)->b<w.heap.size:=fun r o b z he hd hb=>by
  rw [hw];have:=hs.ob r o he;cases o with
  | dead=>exact (hd rfl).elim
  | mix cs=>obtain ⟨b',cur',t',g1,g2,_⟩:=this;rw [hb] at g1;cases g1;exact (Array.getElem?_eq_some_iff.1 g2).1
  | mp kk ks vs=>obtain ⟨b',es,cl,g1,g2,_⟩:=this;rw [hb] at g1;cases g1;exact (Array.getElem?_eq_some_iff.1 g2).1
  | data e s cs wr =>
    rcases this with ⟨g1,_⟩ | ⟨b',cur',g1,g2,_⟩
    ·rw [hb] at g1;cases g1
    ·rw [hb] at g1;cases g1;exact (Array.getElem?_eq_some_iff.1 g2).1
 have hxm:∀r o b z,E.hp r=some o->o.mutB=true->E.m r=some (b,z)->E.X b:=fun r o b z he hm hb=>by
  have:=hs.ob r o he;cases o with
  | dead=>cases hm
  | mix cs=>obtain ⟨b',cur',t',g1,g2,g3,g4⟩:=this;rw [hb] at g1;cases g1;exact g4
  | mp kk ks vs=>obtain ⟨b',es,cl,g1,g2,g3,g4⟩:=this;rw [hb] at g1;cases g1;exact g4
  | data e s cs wr =>
    have hwr:wr=true:=hm;subst hwr;rcases this with ⟨g1,_⟩ | ⟨b',cur',g1,g2,g3,g4,_⟩
    ·rw [hb] at g1;cases g1
    ·rw [hb] at g1;cases g1;simpa using g4
 -- what the call was not handed lies elsewhere
 have hnot:∀r o b z,E.hp r=some o->o ≠ .dead->look r us=none->E.m r=some (b,z)->¬zV (mG E os) b:=fun r o b z he hd hl hb ⟨r0,o0,z0,k1,k2,k3⟩=>by
  have k1':=hos r0 o0 k1;have hx:=hxm r0 o0 b z0 k1' k2 k3;cases hm:o.mutB with
  | true =>
    have:=hs.inj r r0 o o0 b z z0 he k1' hm k2 hb k3;subst this;have:=hin0 r o0 k1;rw [hl] at this;cases this
  | false =>
    cases o with
    | dead=>exact hd rfl
    | mix cs=>cases hm
    | mp kk ks vs=>cases hm
    | data e s cs wr =>
      have hwr:wr=false:=hm;subst hwr;rcases hs.ob r _ he with ⟨g1,_⟩ | ⟨b',cur',g1,g2,g3,g4,_⟩
      ·rw [hb] at g1;cases g1
      ·rw [hb] at g1;cases g1;simp only [Bool.false_eq_true,if_false] at g4;exact g4 hx
 have nd:∀ob:AO,ob.mutB=true->ob ≠ .dead:=fun ob h e=>by rw [e] at h;cases h
 have hex:Ext E (pI E E2 us):=⟨hsub,fun r o ho=>by
  cases hl:look r us with
  | none =>
    have h:=hout r hl;exact ⟨o,h.1.trans ho,o.like_refl,.inr h.2⟩
  | some o' =>
    have h:=hin r o' hl;rcases hfr r o' hl with h0 | ⟨o0,h0,h3,h4⟩
    ·rw [h0] at ho;cases ho
    ·rw [h0] at ho;cases ho;exact ⟨o',h.1,h3,h4.imp id (fun h4=>h.2.trans h4)⟩⟩
 have hex2:Ext E2 (pI E E2 us):=⟨Sub.refl _ _,fun r o ho=>by
  rw [hp2] at ho;have h:=hin r o ho;exact ⟨o,h.1,o.like_refl,.inr h.2⟩⟩
 have hmr:∀k,zV (mG E os) k->zV E k:=fun k ⟨r,o,z,h1,h3,h4⟩=>⟨r,o,z,hos r o h1,h3,h4⟩
 have hX:∀k,k<w.heap.size->¬zV (mG E os) k->(E2.X k↔E.X k):=fun k hk hm=>⟨fun h=>by
  rcases hst.xs k h with h | h
  ·exact h
  ·omega,fun h=>hst.xk k hk h hm⟩
 have hnew:∀r o b z,look r us=some o->o.mutB=true->E2.m r=some (b,z)->zV (mG E os) b\/w.heap.size<=b:=fun r o b z ho hm hb=>hst.mb b ⟨r,o,z,by rw [hp2];exact ho,hm,hb⟩;refine ⟨⟨hw',rfl,hex,⟨fun r o ho => ?_,fun r r' o o' b z z' e1 e2 e3 e4 e5 e6 => ?_,fun g cells hg=>h2.gl g cells hg⟩,⟨hst.os,hst.tape,hst.output,hst.size,fun k hk hm=>hst.blk k hk (fun h=>hm (hmr k h)),fun k ⟨r,o,z,e1,e2,e3⟩ => ?_,fun k hk=>hst.xs k hk,fun k hk hx hm=>hst.xk k hk hx (fun h=>hm (hmr k h))⟩⟩,fun v u hr=>Rel.ext hex2 v u hr⟩
 ·cases hl:look r us with
  | some o' =>
    have h:=hin r o' hl;rw [h.1] at ho;cases ho;exact qY.ext hex2 (h2.ob r _ (by rw [hp2];exact hl)) (.inr h.2) (fun _ _ _=>rfl) (fun _ _ _=>Iff.rfl)
  | none =>
    have h:=hout r hl;rw [h.1] at ho;by_cases hd:o = .dead
    ·subst hd;exact trivial
    ·refine qY.ext hex (hs.ob r o ho) (.inr h.2) (fun b z hb => ?_) (fun b z hb=>hX b (hlt r o b z ho hd hb) (hnot r o b z ho hd hl hb));show E2.h[b]? = E.h[b]?;rw [<-hw',<-hw];exact hst.blk b (hlt r o b z ho hd hb) (hnot r o b z ho hd hl hb)
 ·cases hl:look r us with
  | some p =>
    have h:=hin r p hl;rw [h.1] at e1;cases e1;rw [h.2] at e5;cases hl':look r' us with
    | some p' =>
      have h':=hin r' p' hl';rw [h'.1] at e2;cases e2;rw [h'.2] at e6;exact h2.inj r r' _ _ b z z' (by rw [hp2];exact hl) (by rw [hp2];exact hl') e3 e4 e5 e6
    | none =>
      have h':=hout r' hl';rw [h'.1] at e2;rw [h'.2] at e6;have a2:=hlt r' _ b z' e2 (nd _ e4) e6;rcases hnew r _ b z hl e3 e5 with a1 | a1
      ·exact (hnot r' _ b z' e2 (nd _ e4) hl' e6 a1).elim
      ·omega
  | none =>
    have h:=hout r hl;rw [h.1] at e1;rw [h.2] at e5;cases hl':look r' us with
    | some p' =>
      have h':=hin r' p' hl';rw [h'.1] at e2;cases e2;rw [h'.2] at e6;have a2:=hlt r _ b z e1 (nd _ e3) e5;rcases hnew r' _ b z' hl' e4 e6 with a1 | a1
      ·exact (hnot r _ b z e1 (nd _ e3) hl e5 a1).elim
      ·omega
    | none =>
      have h':=hout r' hl';rw [h'.1] at e2;rw [h'.2] at e6;exact hs.inj r r' o o' b z z' e1 e2 e3 e4 e5 e6
 ·cases hl:look r us with
  | some p =>
    have h:=hin r p hl;rw [h.1] at e1;cases e1;rw [h.2] at e3;exact (hnew r _ k z hl e2 e3).imp (hmr k) id
  | none =>
    have h:=hout r hl;rw [h.1] at e1;rw [h.2] at e3;exact .inl ⟨r,o,z,e1,e2,e3⟩
def iT:Nat->List AV->List (Nat×AV)
 | _,[]=>[]
 | i,x::xs=>(i,x)::iT (i+1) xs
theorem lV:∀(xs:List AV) (i t:Nat),look t (iT i xs)=if i<=t then xs[t-i]? else none
 | [],i,t=>by simp [iT,look]
 | x::xs,i,t=>by
   rw [iT,look,lV xs (i+1) t];by_cases h:i=t
   ·subst h;simp
   ·rw [if_neg h];by_cases h2:i<=t
    ·rw [if_pos h2,if_pos (by omega)];rw [show t-i=(t-(i+1))+1 from by omega,List.getElem?_cons_succ]
    ·rw [if_neg h2,if_neg (by omega)]
theorem akN {θ:Nat->Option Nat} {hp1:Nat->Option AO}:JE θ hp1 (aK []):=⟨fun r o h=>(by cases h),fun r r' o o' x h=>(by cases h)⟩
inductive Back (os hp us:List (Nat×AO)) (v x:AV):Prop
 | mk (θ:Nat->Option Nat) (h0:∀r o,look r os=some o->θ r=some r/\(look r us).isSome=true) (h1:JE θ (aK hp) (aK us)) (h2:eY θ (aK hp) (aK us) v x):Back os hp us v x
mutual
theorem MB {θ:Nat->Option Nat} {hp1 hp2:Nat->Option AO}:∀(x:AV),x.plain=true->eY θ hp1 hp2 x x
 | .d x,_=>by rw [eY];exact ⟨x,.inl rfl,.inl rfl⟩
 | .ptr _ _,h=>by rw [AV.plain] at h;cases h
 | .sl _ _ _ _,h=>by rw [AV.plain] at h;cases h
 | .dptr _ _,_=>by rw [eY]
 | .agg cs,h=>by rw [AV.plain] at h;rw [eY];exact ⟨cs,rfl,Ah cs h⟩
 | .tup cs,h=>by rw [AV.plain] at h;rw [eY];exact ⟨cs,rfl,Ah cs h⟩
 | .clo f cs,h=>by rw [AV.plain] at h;rw [eY];exact ⟨cs,rfl,Ah cs h⟩
 | .undef,_=>by rw [eY]
 | .ab,_=>by rw [eY]
 | .junk,_=>by rw [eY];trivial
theorem Ah {θ:Nat->Option Nat} {hp1 hp2:Nat->Option AO}:∀(xs:List AV),BJ xs=true->gJ θ hp1 hp2 xs xs
 | [],_=>by rw [gJ]
 | x::xs,h=>by
   rw [BJ,Bool.and_eq_true] at h;rw [gJ];exact ⟨x,xs,rfl,MB x h.1,Ah xs h.2⟩
end
theorem IE {hp:List (Nat×AO)} {v x:AV} (h:eY (fun _=>none) (aK hp) (aK []) v x):Back [] hp [] v x:=⟨fun _=>none,fun r o h=>(by cases h),akN,h⟩
def aeP (T:Ty) (fn:Func) (os:List (Nat×AO)) (v:AV) (us:List (Nat×AO)):Exit->SL->Prop
 | .normal,s=>match BI T fn s with | some x=>Back os s.hp us v x | none=>False
 | .ret,s=>match BI T fn s with | some x=>Back os s.hp us v x | none=>False
 | _,_=>False
def fZ (P:Program) (GL:Nat->Option (List DV)) (f:FuncId) (args:List AV) (os:List (Nat×AO)) (v:AV) (us:List (Nat×AO)):Prop :=
 ∀(E:En) (w:World) (vs:Array Value),E.hp=aK os->w.heap=E.h->eX GL E->aG E args vs.toList->Calls P f vs w fun e w'=>∃u E',e = .returned u/\w'.heap=E'.h/\E'.hp=aK us/\eX GL E'/\Ext E E'/\mX E w E' w'/\Rel E' v u
theorem H9 (hq:Ov P q) (hdp:30<=P.depth) (hm:P.follows .mixedOrders=true) {T:Ty} (hT:aO P=T) {f:FuncId} {fn:Func} {c:Code} (hf:P.funcs[f]? = some fn) (hb:fn.body=some c) {args:List AV} (hn:args.length<=fn.ntmps) {os:List (Nat×AO)} {v:AV} {us:List (Nat×AO)}
 (h:∀C,C=Mc P GL fn.ntmps (aK os)->kF C T GL q fn.ntmps c (aeP T fn os v us) ⟨fn.ntmps,iT 0 args,os⟩):fZ P GL f args os v us:=fun E w vs hE hw hs hrel=>by
 have hlen:=fH _ _ hrel;have hvs:vs.size=args.length:=by rw [<-Array.length_toList];exact hlen
 refine calls_of_wp hf hb ?_;have hS:vO GL fn.ntmps E {tmps:=vs++Array.replicate (fn.ntmps-vs.size) undef,defers:=[]} w (⟨fn.ntmps,iT 0 args,os⟩:SL).S:=by
  refine ⟨hw,hE,hs,?_,rfl,fun t => ?_⟩
  ·simp only [Array.size_append,Array.size_replicate];omega
  ·show Rel _ (match look t (iT 0 args) with | some x=>x | none => .junk) _;rw [lV];simp only [Nat.zero_le,if_true,Nat.sub_zero];cases hx:args[t]? with
   | none=>simp only;rw [Rel];trivial
   | some x =>
     obtain ⟨u,h1,h2⟩:=qp _ _ t x hrel hx;have ht:t<vs.size:=by
      have:=(List.getElem?_eq_some_iff.1 h1).1;simpa using this
     rw [Array.getD_eq_getD_getElem?,Array.getElem?_append_left ht];have h1':vs[t]? = some u:=by simpa using h1
     rw [h1'];exact h2
 refine wp_mono (jl hq hdp hm hT c _ _ (h _ rfl) E w E _ w hE hS (iE.refl _ _)) fun e a' w' ⟨s',E',⟨sl,h1,h2⟩,h3,h4⟩ => ?_;subst h1;subst hT;have fin:(match BI (aO P) fn sl with | some x=>Back os sl.hp us v x | none=>False)->a'.defers=[]/\∃y,(results fn a'.tmps).run P w' = .ok y w'/\∃u E',Ending.returned y = .returned u/\w'.heap=E'.h/\E'.hp=aK us/\eX GL E'/\Ext E E'/\mX E w E' w'/\Rel E' v u:=fun hfin=>by
  obtain ⟨x,k1,θ,k0,k2,k3⟩:∃x,BI (aO P) fn sl=some x/\Back os sl.hp us v x:=by
   cases hx:BI (aO P) fn sl with
   | none=>rw [hx] at hfin;exact hfin.elim
   | some x=>rw [hx] at hfin;exact ⟨x,rfl,hfin⟩
  obtain ⟨y,g1,g2⟩:=FH h3 k1;have hp:E'.hp=aK sl.hp:=h3.hp;rw [<-hp] at k2 k3;exact ⟨h3.df,y,g1,y,jW E' θ (aK us),rfl,h3.h,rfl,tC h3.sim k2,BH h4 k2 (fun r o ho=>by rw [hE] at ho;exact k0 r o ho),tH k2 h4.fr,wU h3.sim k2 _ _ _ k3 g2⟩
 cases e with
 | normal=>exact fin h2
 | ret=>exact fin h2
 | exit i=>exact h2
 | goto l=>exact h2
 | panic ch=>exact h2.elim
 | outgrown=>exact h2.elim
theorem qg {f:FuncId} {args:List AV} {os:List (Nat×AO)} {v:AV} {us:List (Nat×AO)} {hp:Nat->Option AO} {rds:List Nat} (h:fZ P GL f args os v us) (hos:∀p∈os,p.1∈rds/\hp p.1=some p.2) (hcl:(os.all fun p=>rM os (wV p.2))=true) (hra:rM os (AV.refs.refsL args)=true)
 (hfr:∀p∈us,p.1∈rds/\(hp p.1=none\/(look p.1 os).isSome=true)) (hin:(os.all fun p=>(look p.1 us).isSome)=true):Does P GL f args rds v us hp:=fun E w vs hrd hw hs hrel=>by
 have hos':∀r o,look r os=some o->E.hp r=some o:=fun r o ho=>by
  obtain ⟨k1,k2⟩:=hos _ (aU ho);rw [hrd r k1];exact k2
 refine (h (mG E os) w vs rfl hw (Ag hos' (fun r o ho=>List.all_eq_true.1 hcl _ (aU ho)) hs) (mF (E:=E) (E':=mG E os) rfl rfl args _ (Af hos' hra) hrel)).mono ?_;rintro e w' ⟨u,E2,rfl,h1,h2,h3,h4,h5,h6⟩;obtain ⟨m1,m2⟩:=Pn (us:=us) hw hs hos' h3 h2 h1 h5 h4.sub (fun r o ho=>List.all_eq_true.1 hin _ (aU ho)) (fun r o ho=>by
  obtain ⟨p1,p2⟩:=hfr _ (aU ho);rcases p2 with p2 | p2
  ·exact .inl (by rw [hrd r p1];exact p2)
  ·cases hl:look r os with
   | none=>rw [hl] at p2;cases p2
   | some o0 =>
     obtain ⟨o',k1,k2,k3⟩:=h4.ob r o0 hl;rw [h2] at k1;have k1':look r us=some o':=k1;rw [ho] at k1';cases k1';exact .inr ⟨o0,hos' r o0 hl,k2,k3⟩)
 exact ⟨u,_,rfl,m1,m2 _ _ h6⟩
theorem aeQ {f:FuncId} {args:List AV} {W:World} {vs:Array Value} (h:fZ P (fun _=>none) f args [] (bJ true) []) (hr:aG {m:=fun _=>none,hp:=fun _=>none,X:=fun _=>False,h:=W.heap} args vs.toList) :
 Calls P f vs W fun e w'=>e = .returned (.bool true)/\Below W.heap.size W w':=by
 refine (h {m:=fun _=>none,hp:=fun _=>none,X:=fun _=>False,h:=W.heap} W vs rfl rfl ⟨fun r o hr=>(by cases hr),fun r r' o o' b z z' h1=>(by cases h1),fun g cells hg=>(by cases hg)⟩ hr).mono ?_;rintro e w' ⟨u,E',rfl,h1,h2,h3,h4,h5,h6⟩;refine ⟨by rw [aQ h6],h5.os,h5.tape,h5.output,h5.size,fun k hk=>h5.blk k hk fun ⟨r,o,z,ho,_⟩=>by cases ho⟩
end
def yP (F:Nat->Option TI) (L:List (List (Option TI))) (t:Nat):Option TI :=
 match L[t / 16]? with
 | some l=>match l[t % 16]? with
   | some (some i)=>some i
   | _=>F t
 | none=>F t
theorem abb {P:Program} {L:List (List (Option TI))} (h:(List.range (16*L.length)).map (aO P)=(List.range (16*L.length)).map (yP (aO P) L)):aO P=yP (aO P) L:=by
 funext t;by_cases ht:t<16*L.length
 ·have:=congrArg (fun l=>l[t]?) h;simp only [List.getElem?_map,List.getElem?_range ht,Option.map_some,Option.some.injEq] at this;exact this
 ·unfold yP;rw [List.getElem?_eq_none (by omega)]
def qOf (L:List Nat) (t:Nat):Bool:=L.contains t
def Po (P:Program) (x:Nat×String×Nat):Bool:=match P.info? x.1,P.underlying x.1 with
 | some inf,some (.struct _)=>(match inf.methods.find? (·.name==x.2.1) with | some m=>m.path.toList.isEmpty&&(match m.func with | some (f,false)=>f==x.2.2 | _=>false) | none=>false)
 | _,_=>false
theorem XQ {P:Program} (h:(aeK.all fun x=>Po P x)=true):LM P:=fun t n f hf=>by
 unfold Oz at hf;rw [Option.map_eq_some_iff] at hf;obtain ⟨⟨t1,n1,f1⟩,hx,rfl⟩:=hf;have hm:=List.mem_of_find?_eq_some hx;have hp:=List.find?_some hx;rw [Bool.and_eq_true,decide_eq_true_eq,beq_iff_eq] at hp;obtain ⟨rfl,rfl⟩:=hp;have hc:=List.all_eq_true.1 h _ hm;unfold Po at hc;split at hc
 ·rename_i inf d h1 h2;split at hc
  ·rename_i m h3;rw [Bool.and_eq_true] at hc;obtain ⟨c1,c2⟩:=hc;split at c2
   ·rename_i g h4;refine ⟨inf,m,d,h1,h3,Array.toList_inj.1 (by rw [List.isEmpty_iff.1 c1]),?_,h2⟩;rw [h4,beq_iff_eq.1 c2]
   ·cases c2
  ·cases hc
 ·cases hc
def Pq (P:Program) (L:List Nat):Bool:=(aeK.all fun x=>Po P x)&&L.all fun t => !P.stoodInHeld t&&(P.fieldsOf t).toList.all fun f=>f.name != "_"
theorem aeR {P:Program} {L:List Nat} (h:Pq P L=true):Ov P (qOf L):=by
 unfold Pq at h;rw [Bool.and_eq_true] at h;refine ⟨fun t ht => ?_,XQ h.1⟩;have:=List.all_eq_true.1 h.2 t (by simpa [qOf] using ht);simp only [Bool.and_eq_true,Bool.not_eq_true',List.all_eq_true,bne_iff_ne,ne_eq] at this;exact ⟨this.1,this.2⟩
theorem aiS {P:Program} (h:(P.depth-30+30==P.depth)=true):30<=P.depth:=by
 have:P.depth-30+30=P.depth:=by simpa using h
 omega
structure Facts (P:Program) (L:List (List (Option TI))) (cs:List Nat):Prop where
 hq:Ov P (qOf cs)
 hdp:30<=P.depth
 hm:P.follows .mixedOrders=true
 hT:aO P=yP (aO P) L
theorem XR {P:Program} {L:List (List (Option TI))} {cs:List Nat} (h1:Pq P cs=true) (h2:(P.depth-30+30==P.depth)=true) (h3:P.follows .mixedOrders=true) (h4:(List.range (16*L.length)).map (aO P)=(List.range (16*L.length)).map (yP (aO P) L)):Facts P L cs:=⟨aeR h1,aiS h2,h3,abb h4⟩
section
variable {P:Program} {GL:Nat->Option (List DV)} {L:List (List (Option TI))} {cs:List Nat}
theorem XT (K:Facts P L cs) {f:FuncId} {fn:Func} {c:Code} (hf:P.funcs[f]? = some fn) (hb:fn.body=some c) {args:List AV} (hn:args.length<=fn.ntmps) {os:List (Nat×AO)} {v:AV} {us:List (Nat×AO)}
 (h:∀C F,C=Mc P GL fn.ntmps (aK os)->F=aO P->kF C (yP F L) GL (qOf cs) fn.ntmps c (aeP (yP F L) fn os v us) ⟨fn.ntmps,iT 0 args,os⟩):fZ P GL f args os v us :=
 H9 K.hq K.hdp K.hm K.hT hf hb hn (fun C hC=>h C _ hC rfl)
end
section
variable (hp:Nat->Option AO)
def TdD (y:DV) (x:AV):Prop :=
 match x with
 | .d z=>y=z\/y=nrm z
 | .sl r off n _=>match hp r with
   | some (.data _ s cs false)=>y = .dl ((cs.drop off).take (n*s)) n none\/y=nrm (.dl ((cs.drop off).take (n*s)) n none)
   | _=>False
 | _=>False
mutual
def JI:AV->AV->Prop
 | .d y,x=>TdD hp y x
 | .ptr r o,x=>x = .ptr r o
 | .sl r o n c,x=>x = .sl r o n c
 | .dptr cs o,x=>x = .dptr cs o
 | .agg ys,x=>∃xs,x = .agg xs/\Hq ys xs
 | .tup ys,x=>∃xs,x = .tup xs/\Hq ys xs
 | .clo f ys,x=>∃xs,x = .clo f xs/\Hq ys xs
 | .undef,x=>x = .undef
 | .ab,x=>x = .ab
 | .junk,_=>True
def Hq:List AV->List AV->Prop
 | [],xs=>xs=[]
 | y::ys,xs=>∃x xs',xs=x::xs'/\JI y x/\Hq ys xs'
end
end
section
variable {hp:Nat->Option AO} {GL:Nat->Option (List DV)} {E:En}
theorem aeS (hs:eX GL E) (hh:∀r o,hp r=some o->E.hp r=some o) {y:DV} {x:AV} {v:Value} (h:TdD hp y x) (hr:Rel E x v):Rel E (.d y) v:=by
 unfold TdD at h;split at h
 ·rename_i z;rw [Rel] at hr ⊢;rcases h with rfl | rfl
  ·exact hr
  ·exact Ad _ _ hr
 ·rename_i r off n c;split at h
  ·rename_i e s cs ho;have ho':=hh r _ ho;have key:bZ E.h E.X (.dl ((cs.drop off).take (n*s)) n none) v:=by
    rw [Rel,ho'] at hr;rw [bZ];rcases hr with ⟨rfl,hc2,_,A,rfl⟩ | ⟨b,z,c0,g1,rfl,g3,g4,g5,g6⟩
    ·exact ⟨A,0,rfl,Nat.le_refl _,Nat.zero_le _,fun k hk=>(by cases hk),.inl (by simp)⟩
    ·refine ⟨_,c0,rfl,g3,g4,fun k hk=>(by cases hk),?_⟩;rcases hs.ob r _ ho' with ⟨q1,_⟩ | ⟨b',cur,q1,q2,q3,q4,q5⟩
     ·rw [q1] at g1;cases g1
     ·have hbb:b=b':=by rw [q1] at g1;cases g1;rfl
      subst hbb;simp only [Bool.false_eq_true,if_false] at q4;have:=jf (n*s) _ _ _ (jR off _ _ _ q3);rw [Nat.zero_add] at this;exact .inr ⟨b,off,rfl,q4,this⟩
   rw [Rel];rcases h with rfl | rfl
   ·exact key
   ·exact Ad _ _ key
  ·exact h.elim
 ·exact h.elim
mutual
theorem XU (hs:eX GL E) (hh:∀r o,hp r=some o->E.hp r=some o):∀(y x:AV) (v:Value),JI hp y x->Rel E x v->Rel E y v
 | .d y,x,v,h,hr=>by rw [JI] at h;exact aeS hs hh h hr
 | .ptr r o,x,v,h,hr=>by rw [JI] at h;subst h;exact hr
 | .sl r o n c,x,v,h,hr=>by rw [JI] at h;subst h;exact hr
 | .dptr cs o,x,v,h,hr=>by rw [JI] at h;subst h;exact hr
 | .agg ys,x,v,h,hr=>by
   rw [JI] at h;obtain ⟨xs,rfl,h⟩:=h;rw [Rel] at hr ⊢;obtain ⟨vs,g1,g2⟩:=hr;exact ⟨vs,g1,qh hs hh ys xs _ h g2⟩
 | .tup ys,x,v,h,hr=>by
   rw [JI] at h;obtain ⟨xs,rfl,h⟩:=h;rw [Rel] at hr ⊢;obtain ⟨vs,g1,g2⟩:=hr;exact ⟨vs,g1,qh hs hh ys xs _ h g2⟩
 | .clo f ys,x,v,h,hr=>by
   rw [JI] at h;obtain ⟨xs,rfl,h⟩:=h;rw [Rel] at hr ⊢;obtain ⟨vs,g1,g2⟩:=hr;exact ⟨vs,g1,qh hs hh ys xs _ h g2⟩
 | .undef,x,v,h,hr=>by rw [JI] at h;subst h;exact hr
 | .ab,x,v,h,hr=>by rw [JI] at h;subst h;exact hr
 | .junk,x,v,_,_=>by rw [Rel];trivial
theorem qh (hs:eX GL E) (hh:∀r o,hp r=some o->E.hp r=some o):∀(ys xs:List AV) (vs:List Value),Hq hp ys xs->aG E xs vs->aG E ys vs
 | [],xs,vs,h,hr=>by rw [Hq] at h;subst h;exact hr
 | y::ys,xs,vs,h,hr=>by
   rw [Hq] at h;obtain ⟨x,xs',rfl,h1,h2⟩:=h;rw [aG] at hr ⊢;obtain ⟨v,vs',rfl,k1,k2⟩:=hr;exact ⟨v,vs',rfl,XU hs hh y x v h1 k1,qh hs hh ys xs' vs' h2 k2⟩
end
def Em (rds:List Nat) (hp:Nat->Option AO):List (Nat×AO)->Prop
 | []=>True
 | (r,o)::l=>r∈rds/\(∃e s cs wr,hp r=some (.data e s cs wr)/\o = .data e s cs false)/\Em rds hp l
theorem Pv {rds:List Nat}:∀ {F:List (Nat×AO)},Em rds hp F->∀r o,(r,o)∈F->r∈rds/\∃e s cs wr,hp r=some (.data e s cs wr)/\o = .data e s cs false
 | [],_,r,o,h=>by cases h
 | (r',o')::l,h,r,o,hm=>by
   rcases List.mem_cons.1 hm with e | hm
   ·cases e;exact ⟨h.1,h.2.1⟩
   ·exact Pv h.2.2 r o hm
theorem XV {rds:List Nat} {F:List (Nat×AO)} (h:Em rds hp F) (hr:∀r∈rds,E.hp r=hp r):Dx E.hp F:=fun r o hm=>by
 obtain ⟨h1,e,s,cs,wr,h2,h3⟩:=Pv h r o hm;exact ⟨e,s,cs,wr,by rw [hr r h1];exact h2,h3⟩
variable {P:Program}
theorem DN {f:FuncId} {args args':List AV} {rds:List Nat} {v:AV} {us F:List (Nat×AO)} (h:Does P GL f args' rds v us (dH hp F)) (hF:Em rds hp F) (ht:Hq (aK F) args' args):Does P GL f args rds v (us++F) hp:=fun E w vs hrd hw hs hrel=>by
 have g:=zW hw hs (XV hF hrd);refine (h (Ls E F) w vs (fun r hr => ?_) hw g.sim (qh g.sim (fun r o ho => ?_) args' args _ ht (aG.ext g.ext _ _ hrel))).mono ?_
 ·show dH E.hp F r=dH hp F r;unfold dH;rw [hrd r hr]
 ·show dH E.hp F r=some o;have ho':look r F=some o:=ho;unfold dH;rw [ho']
 ·rintro e w' ⟨u,E',rfl,h1,h2⟩;exact ⟨u,E',rfl,g.trans h1,h2⟩
mutual
def AV.flat:AV->Bool
 | .d (.val _)=>true
 | .d (.dl [] _ _)=>true
 | .agg cs=>nN cs
 | .tup cs=>nN cs
 | .undef=>true
 | .ab=>true
 | _=>false
def nN:List AV->Bool
 | []=>true
 | x::xs=>x.flat&&nN xs
end
mutual
theorem MC {E E':En}:∀(x:AV) (v:Value),x.flat=true->Rel E x v->Rel E' x v
 | .d (.val z),v,_,hr=>by rw [Rel,bZ] at hr ⊢;exact hr
 | .d (.dl [] n c),v,_,hr=>by
   rw [Rel,bZ] at hr ⊢;obtain ⟨A,c',g1,g2,g3,g4,_⟩:=hr;exact ⟨A,c',g1,g2,g3,g4,.inl rfl⟩
 | .d (.dl (x::xs) n c),v,h,_=>by rw [AV.flat] at h;cases h;all_goals simp
 | .ptr r o,v,h,_=>by rw [AV.flat] at h;cases h;all_goals simp
 | .sl r o n c,v,h,_=>by rw [AV.flat] at h;cases h;all_goals simp
 | .dptr cells off,v,h,_=>by rw [AV.flat] at h;cases h;all_goals simp
 | .agg cs,v,h,hr=>by
   rw [AV.flat] at h;rw [Rel] at hr ⊢;obtain ⟨vs,g1,g2⟩:=hr;exact ⟨vs,g1,BK cs _ h g2⟩
 | .tup cs,v,h,hr=>by
   rw [AV.flat] at h;rw [Rel] at hr ⊢;obtain ⟨vs,g1,g2⟩:=hr;exact ⟨vs,g1,BK cs _ h g2⟩
 | .clo f cs,v,h,_=>by rw [AV.flat] at h;cases h;all_goals simp
 | .undef,v,_,hr=>by rw [Rel] at hr ⊢;exact hr
 | .ab,v,_,hr=>by rw [Rel] at hr ⊢;exact hr
 | .junk,v,h,_=>by rw [Rel];trivial
theorem BK {E E':En}:∀(xs:List AV) (vs:List Value),nN xs=true->aG E xs vs->aG E' xs vs
 | [],vs,_,hr=>by rw [aG] at hr ⊢;exact hr
 | x::xs,vs,h,hr=>by
   rw [nN,Bool.and_eq_true] at h;rw [aG] at hr ⊢;obtain ⟨v,vs',rfl,g1,g2⟩:=hr;exact ⟨v,vs',rfl,MC x v h.1 g1,BK xs vs' h.2 g2⟩
end
theorem UZ {f:FuncId} {args args':List AV} {rds:List Nat} {v:AV} {F:List (Nat×AO)} (h:fZ P GL f args' [] v []) (hv:v.flat=true) (hF:Em rds hp F) (ht:Hq (aK F) args' args) (hra:AV.refs.refsL args'=[]):Does P GL f args rds v [] hp:=fun E w vs hrd hw hs hrel=>by
 have g:=zW hw hs (XV hF hrd);have r1:=qh g.sim (fun r o (ho:look r F=some o)=>(show dH E.hp F r=some o by unfold dH;rw [ho])) args' args _ ht (aG.ext g.ext _ _ hrel);have hemp:∀r o,look r ([]:List (Nat×AO))=some o->(Ls E F).hp r=some o:=fun r o ho=>by cases ho
 refine (h (mG (Ls E F) []) w vs rfl hw (Ag hemp (fun r o ho=>by cases ho) g.sim) (mF (E:=Ls E F) (E':=mG (Ls E F) []) rfl rfl args' _ (fun r hr=>by rw [hra] at hr;cases hr) r1)).mono ?_;rintro e w' ⟨u,E2,rfl,h1,h2,h3,h4,h5,h6⟩;have hnm:∀k,¬zV (mG (Ls E F) []) k:=fun k ⟨r,o,z,ho,_⟩=>by cases ho
 have hblk:∀k,k<w.heap.size->w'.heap[k]? = w.heap[k]? := fun k hk=>h5.blk k hk (hnm k)
 let E':En:={E with X:=fun k=>E.X k\/(w.heap.size<=k/\E2.X k),h:=E2.h}
 have hsub:Sub E.h E.X E'.h E'.X:=fun b o u hx hc=>by
  have hb:=zH hc;rw [<-hw] at hb;refine ⟨fun hx' => ?_,?_⟩
  ·rcases hx' with hx' | hx'
   ·exact hx hx'
   ·omega
  ·show je E2.h b o=some u;rw [<-h1,qx (hblk b hb),hw];exact hc
 have hex:Ext E E':=⟨hsub,fun r o ho=>⟨o,ho,o.like_refl,.inr rfl⟩⟩
 have hlt:∀r o b z,E.hp r=some o->o ≠ .dead->E.m r=some (b,z)->b<w.heap.size:=fun r o b z he hd hb=>by
  rw [hw];have:=hs.ob r o he;cases o with
  | dead=>exact (hd rfl).elim
  | mix cs=>obtain ⟨b',cur',t',g1,g2,_⟩:=this;rw [hb] at g1;cases g1;exact (Array.getElem?_eq_some_iff.1 g2).1
  | mp kk ks vs=>obtain ⟨b',es,cl,g1,g2,_⟩:=this;rw [hb] at g1;cases g1;exact (Array.getElem?_eq_some_iff.1 g2).1
  | data e s cs wr =>
    rcases this with ⟨g1,_⟩ | ⟨b',cur',g1,g2,_⟩
    ·rw [hb] at g1;cases g1
    ·rw [hb] at g1;cases g1;exact (Array.getElem?_eq_some_iff.1 g2).1
 refine ⟨u,E',rfl,⟨h1,rfl,hex,⟨fun r o ho => ?_,hs.inj,fun g' cells hg => ?_⟩,⟨h5.os,h5.tape,h5.output,h5.size,fun k hk _=>hblk k hk,fun k hk => .inl hk,fun k hk => ?_,fun k _ hx _ => .inl hx⟩⟩,MC _ _ hv h6⟩
 ·by_cases hd:o = .dead
  ·subst hd;exact trivial
  ·refine qY.ext hex (hs.ob r o ho) (.inr rfl) (fun b z hb => ?_) (fun b z hb => ?_)
   ·show E2.h[b]? = E.h[b]?;rw [<-h1,<-hw];exact hblk b (hlt r o b z ho hd hb)
   ·have:=hlt r o b z ho hd hb;exact ⟨fun h=>h.elim id (fun h=>by omega),.inl⟩
 ·rcases hs.gl g' cells hg with k | ⟨k1,k2⟩
  ·exact .inl k
  ·exact jQ (E:=E) (E':=E') hsub cells g' 0 k1 k2
 ·rcases hk with hk | hk
  ·exact .inl hk
  ·exact .inr hk.1
end
structure Pr where
 ar:BinOp->IntKind->Int->Int->Int
 un:UnOp->IntKind->Int->Int
 wr:IntKind->Int->Int
 cmp:BinOp->Int->Int->Bool
 nz:Int->Bool
 nn:Int->Bool
 ix:Int->Nat->Option Nat
 ixle:Int->Nat->Option Nat
 mn:Int->Int->Int
 mx:Int->Int->Int
 na:Nat->Nat->Nat
 nm:Nat->Nat->Nat
 ns:Nat->Nat->Nat
 nmin:Nat->Nat->Nat
 nle:Nat->Nat->Bool
 neq:Nat->Nat->Bool
 fit:Nat->Nat->Nat->Bool
 zi:Nat->Int
 tn:Int->Nat
 mks:Int->Int->Nat->Bool
 cell:List DV->Nat->Option DV
 cells:List DV->Nat->Nat->Option (List AV)
 cut:List DV->Nat->Nat->List DV
 spl:List DV->Nat->List DV->List DV
 app:List DV->List DV->List DV
 len:List DV->Nat
 rep:Nat->List DV->List DV
 emp:List DV->Bool
 ssz:ByteArray->Nat
 sbin:BinOp->ByteArray->ByteArray->Option Value
 seq:ByteArray->ByteArray->Bool
 sext:ByteArray->Nat->Nat->ByteArray
 sat:ByteArray->Int->Option AV
 sby:ByteArray->List DV
 sof:List DV->Option (List UInt8)
def real:Pr where
 ar op k a b:=match op with
  | .shl=>k.wrap (a*2 ^ min b.toNat k.bits)
  | .shr=>a.fdiv (2 ^ min b.toNat k.bits)
  | .add=>k.wrap (a+b)
  | .sub=>k.wrap (a-b)
  | .mul=>k.wrap (a*b)
  | .quo=>k.wrap (a.tdiv b)
  | .rem=>a.tmod b
  | .and=>k.wrap (BitVec.ofInt k.bits a &&& BitVec.ofInt k.bits b).toNat
  | .or=>k.wrap (BitVec.ofInt k.bits a ||| BitVec.ofInt k.bits b).toNat
  | .xor=>k.wrap (BitVec.ofInt k.bits a ^^^ BitVec.ofInt k.bits b).toNat
  | .andNot=>k.wrap (BitVec.ofInt k.bits a &&& ~~~BitVec.ofInt k.bits b).toNat
  | _=>0
 un op k n:=match op with
  | .neg=>k.wrap (0-n)
  | .xor=>k.wrap (BitVec.ofInt k.bits (if k.signed then -1 else k.max) ^^^ BitVec.ofInt k.bits n).toNat
  | _=>0
 wr k n:=k.wrap n
 cmp op a b:=match op with
  | .eql=>a==b
  | .neq=>a != b
  | .lss=>decide (a<b)
  | .leq=>decide (a<=b)
  | .gtr=>decide (a > b)
  | .geq=>decide (a>=b)
  | _=>false
 nz b:=decide (b=0)
 nn b:=decide (0<=b)
 ix i n:=if 0<=i/\i<n then some i.toNat else none
 ixle i n:=if 0<=i/\i<=n then some i.toNat else none
 mn:=eU
 mx:=bf
 na a b:=a+b
 nm a b:=a*b
 ns a b:=a-b
 nmin:=Nat.min
 nle a b:=decide (a<=b)
 neq a b:=decide (a=b)
 fit n m bytes:=decide ((n+m)*bytes<=140737488355328/\n+m<=maxLen)
 zi n:=n
 tn i:=i.toNat
 mks n k bytes:=decide (0<=n/\n<=k/\k*bytes<=140737488355328/\k<=maxLen)
 cell cs o:=cs[o]?
 cells:=takeD
 cut cs a b:=(cs.drop a).take b
 spl:=splice
 app a b:=a++b
 len cs:=cs.length
 rep:=nO
 emp cs:=cs.isEmpty
 ssz s:=s.size
 sbin op a b:=match op with
  | .lss=>some (.bool (Op.bytesLess a.toList b.toList))
  | .leq=>some (.bool (Op.bytesLess a.toList b.toList||a.toList==b.toList))
  | .gtr=>some (.bool !(Op.bytesLess a.toList b.toList||a.toList==b.toList))
  | .geq=>some (.bool !(Op.bytesLess a.toList b.toList))
  | .add=>if ((a.size+b.size:Nat):Int)<=IntKind.i64.max then some (.string (a++b)) else none
  | _=>none
 seq a b:=a.toList==b.toList
 sext s l h:=s.extract l h
 sat s j:=if 0<=j then (match s.data.toList[j.toNat]? with
        | some b=>some (dG .u8 b.toNat)
        | none=>none) else none
 sby s:=bytesD s.data.toList
 sof:=lq
section
variable (p:Pr)
def aeT (op:BinOp) (x y:Value):Option Value :=
 match op,x,y with
 | .shl,.int k a,.int _ b=>bif p.nn b then some (.int k (p.ar .shl k a b)) else none
 | .shr,.int k a,.int _ b=>bif p.nn b then some (.int k (p.ar .shr k a b)) else none
 | .add,.int k a,.int k' b=>if k=k' then some (.int k (p.ar .add k a b)) else none
 | .sub,.int k a,.int k' b=>if k=k' then some (.int k (p.ar .sub k a b)) else none
 | .mul,.int k a,.int k' b=>if k=k' then some (.int k (p.ar .mul k a b)) else none
 | .quo,.int k a,.int k' b=>if k=k' then (bif p.nz b then none else some (.int k (p.ar .quo k a b))) else none
 | .rem,.int k a,.int k' b=>if k=k' then (bif p.nz b then none else some (.int k (p.ar .rem k a b))) else none
 | .and,.int k a,.int k' b=>if k=k' then some (.int k (p.ar .and k a b)) else none
 | .or,.int k a,.int k' b=>if k=k' then some (.int k (p.ar .or k a b)) else none
 | .xor,.int k a,.int k' b=>if k=k' then some (.int k (p.ar .xor k a b)) else none
 | .andNot,.int k a,.int k' b=>if k=k' then some (.int k (p.ar .andNot k a b)) else none
 | .eql,.int k a,.int k' b=>if k=k' then some (.bool (p.cmp .eql a b)) else none
 | .neq,.int k a,.int k' b=>if k=k' then some (.bool (p.cmp .neq a b)) else none
 | .lss,.int k a,.int k' b=>if k=k' then some (.bool (p.cmp .lss a b)) else none
 | .leq,.int k a,.int k' b=>if k=k' then some (.bool (p.cmp .leq a b)) else none
 | .gtr,.int k a,.int k' b=>if k=k' then some (.bool (p.cmp .gtr a b)) else none
 | .geq,.int k a,.int k' b=>if k=k' then some (.bool (p.cmp .geq a b)) else none
 | .eql,.string a,.string b=>some (.bool (p.seq a b))
 | .neq,.string a,.string b=>some (.bool !(p.seq a b))
 | .lss,.string a,.string b=>p.sbin .lss a b
 | .leq,.string a,.string b=>p.sbin .leq a b
 | .gtr,.string a,.string b=>p.sbin .gtr a b
 | .geq,.string a,.string b=>p.sbin .geq a b
 | .add,.string a,.string b=>p.sbin .add a b
 | _,_,_=>none
def unP (op:UnOp) (x:Value):Option Value :=
 match op,x with
 | .neg,.int k n=>some (.int k (p.un .neg k n))
 | .not,.bool b=>some (.bool !b)
 | .xor,.int k n=>some (.int k (p.un .xor k n))
 | _,_=>none
def RJ (k:AT) (x y:AV):Option Bool :=
 match k,x,y with
 | .int _,.d (.val (.int k a)),.d (.val (.int k' b))=>if k=k' then some (p.cmp .eql a b) else none
 | .bool,.d (.val (.bool a)),.d (.val (.bool b))=>some (a==b)
 | .str,.d (.val (.string a)),.d (.val (.string b))=>some (p.seq a b)
 | _,_,_=>none
def Px (T:Ty) (q:Nat->Bool):Nat->Nat->List AV->List AV->Option Bool
 | 0,_,_,_=>none
 | n+1,t,xs,ys=>match T t with
   | none=>none
   | some i=>match i.k with
     | .agg fs=>if q t then eqFP T q (Px T q n) fs xs ys else none
     | _=>none
where eqFP (T:Ty) (q:Nat->Bool) (sub:Nat->List AV->List AV->Option Bool):List (Nat×Nat)->List AV->List AV->Option Bool
 | [],_,_=>some true
 | (o,ft)::fs,xs,ys=>match T ft with
   | none=>none
   | some fi=>match (if fi.k.leaf then (match xs[o]?,ys[o]? with
      | some x,some y=>RJ p fi.k x y
      | _,_=>none) else sub ft ((xs.drop o).take fi.size) ((ys.drop o).take fi.size)),eqFP T q sub fs xs ys with
     | some a,some b=>some (a&&b)
     | _,_=>none
def XW (x:AV) (n:Nat):Option Nat :=
 match x with
 | .d (.val (.int _ i))=>p.ix i n
 | _=>none
def Py (x:AV) (n:Nat):Option Nat :=
 match x with
 | .d (.val (.int _ i))=>p.ixle i n
 | _=>none
def XY (x:Option AV) (dflt n:Nat):Option Nat :=
 match x with
 | none=>some dflt
 | some v=>Py p v n
def adG (T:Ty) (b:Builtin) (ts:List Nat) (args:List AV):Option AV :=
 match b,args with
 | .len,[x]=>match ts with
   | t::_=>match T t with
     | some i=>match i.k,x with
       | .str,.d (.val (.string s))=>some (dG .i64 (p.zi (p.ssz s)))
       | .slice _,.d (.dl _ n _)=>some (dG .i64 (p.zi n))
       | .slice _,.d (.val (.slice none 0 0))=>some (dG .i64 0)
       | .slice _,.sl _ _ n _=>some (dG .i64 (p.zi n))
       | _,_=>none
     | none=>none
   | []=>none
 | .min,.d (.val (.int k a))::l=>(wo p.mn k a l).map (dG k)
 | .max,.d (.val (.int k a))::l=>(wo p.mx k a l).map (dG k)
 | .cap,[x]=>match ts with
   | t::_=>match T t with
     | some i=>match i.k,x with
       | .slice _,.d (.val (.slice none 0 0))=>some (dG .i64 0)
       | .slice _,.sl _ _ _ (some c)=>some (dG .i64 (p.zi c))
       | _,_=>none
     | none=>none
   | []=>none
 | _,_=>none
def RN (n:Nat) (lo hi mx:Option AV):Option (Nat×Nat×Option Nat) :=
 match mx with
 | none=>match XY p hi n n with
   | none=>none
   | some h=>match XY p lo 0 h with
     | none=>none
     | some l=>some (l,h,none)
 | some mv=>match hi with
   | none=>none
   | some hv=>match Py p mv n with
     | none=>none
     | some m=>match Py p hv m with
       | none=>none
       | some h=>match XY p lo 0 h with
         | none=>none
         | some l=>some (l,h,some m)
def akO (cap m:Option Nat) (l:Nat):Option Nat :=
 match m with
 | none=>cap.map fun c=>p.ns c l
 | some m=>some (p.ns m l)
def aiT (cap m:Option Nat) (l:Nat):Option Nat :=
 match m with
 | none=>cap.map fun c=>p.ns c l
 | some _=>none
def FK (size:Nat) (x:AV) (lo hi mx:Option AV):Option AV :=
 match x with
 | .d (.val (.string s))=>match mx with
   | some _=>none
   | none=>match RN p (p.ssz s) lo hi none with
     | some (l,h,_)=>some (.d (.val (.string (p.sext s l h))))
     | none=>none
 | .d (.val (.slice none 0 0))=>match RN p 0 lo hi mx with
   | some _=>some (.d (.val (.slice none 0 0)))
   | none=>none
 | .d (.dl cells n cap)=>match RN p n lo hi mx with
   | some (l,h,m)=>some (.d (.dl (p.cut cells (p.nm l size) (p.nm (p.ns h l) size)) (p.ns h l) (aiT p cap m l)))
   | none=>none
 | .sl r off n cap=>match RN p n lo hi mx with
   | some (l,h,m)=>some (.sl r (p.na off (p.nm l size)) (p.ns h l) (akO p cap m l))
   | none=>match cap,hi,mx with
     | some c,some hv,none=>match XY p (some hv) c c with
       | none=>none
       | some h=>match XY p lo 0 h with
         | none=>none
         | some l=>some (.sl r (p.na off (p.nm l size)) (p.ns h l) (some (p.ns c l)))
     | _,_,_=>none
 | _=>none
def aeU (lk:Nat->Option AK):AV->Option (Option Bool)
 | .d (.val (.slice none 0 0))=>some (some true)
 | .d (.dl cells _ _)=>bif p.emp cells then some none else some (some false)
 | .sl r _ n _=>match lk r with
   | some (.data _)=>bif p.neq n 0 then some none else some (some false)
   | _=>none
 | _=>none
def JJ (lk:Nat->Option AK) (r a b:Nat):Option AV:=match lk r with | some (.data _)=>some (.ptr r a) | some .mix=>some (.ptr r b) | _=>none
def XZ (T:Ty) (q:Nat->Bool) (lk:Nat->Option AK) (o:Oper) (ρ:Operand->AV):Option AV :=
 match o.op with
 | .move x=>some (ρ x)
 | .assign x=>some (ρ x)
 | .pick c a b=>match ρ c with
   | .d (.val (.bool c))=>match ρ a,ρ b with
     | .d (.val (.bool a)),.d (.val (.bool b))=>some (bJ (bif c then a else b))
     | _,_=>some (bif c then ρ a else ρ b)
   | _=>none
 | .build t parts=>match T t with
   | none=>none
   | some i=>if (parts.toList.all fun (_,x)=>sS lk (ρ x))=false then none else match i.k with
     | .agg fs=>match rD T fs with
       | some pl=>(l7 (fun j=>pl[j]?) (i.zero.map .d) (parts.toList.map fun (j,x)=>(j,ρ x))).map .agg
       | none=>none
     | .arr n e=>match T e with
       | some ei=>(l7 (fun j=>some (j*ei.size,ei.size)) (i.zero.map .d) (parts.toList.map fun (j,x)=>(j,ρ x))).map .agg
       | none=>none
     | _=>none
 | .nilCheck x=>match ρ x with
   | .ptr r off=>if fV lk r then some (.ptr r off) else none
   | .dptr cells off=>some (.dptr cells off)
   | .clo f caps=>some (.clo f caps)
   | .d (.val v)=>if invV v=true then some (.d (.val v)) else none
   | _=>none
 | .makeInterface t x=>ifA T t (ρ x)
 | .binOp op t x y _=>match ρ x,ρ y with
   | .d (.val (.bool a)),.d (.val (.bool b))=>match T t with
     | some i=>match i.k,op with
       | .bool,.eql=>some (bJ (a==b))
       | .bool,.neq=>some (bJ (a != b))
       | _,_=>none
     | none=>none
   | v,.d (.val (.slice none 0 0))=>match aeU p lk v,T t with
     | some b,some i=>match i.k,op with
       | .slice _,.eql=>some (Xt b)
       | .slice _,.neq=>some (Xt (b.map fun b => !b))
       | _,_=>none
     | _,_=>none
   | v,.d (.val (.pointer none))=>match Dl lk v,T t with
     | some b,some i=>match i.k,op with
       | .ptr _,.eql=>some (bJ b)
       | .ptr _,.neq=>some (bJ (!b))
       | _,_=>none
     | _,_=>none
   | .d (.val a),.d (.val b)=>(aeT p op a b).map fun v => .d (.val v)
   | .agg xs,.agg ys=>match op with
     | .eql=>(Px p T q 20 t xs ys).map bJ
     | .neq=>(Px p T q 20 t xs ys).map fun b=>bJ !b
     | _=>none
   | _,_=>none
 | .unOp op _ x=>match ρ x with
   | .d (.val a)=>(unP p op a).map fun v => .d (.val v)
   | _=>none
 | .convert src dst x=>match T src,T dst with
   | some si,some di=>match si.k,di.k,ρ x with
     | .int _,.int k,.d (.val (.int _ n))=>some (dG k (p.wr k n))
     | .str,.str,.d (.val (.string s))=>some (.d (.val (.string s)))
     | _,_,_=>none
   | _,_=>none
 | .makeFunc fn first caps=>match fn with
   | .func f=>if Nat.blt f 1048576=true then some (.clo (f+1048576*first.size) (first.toList.map ρ++caps.toList.map ρ)) else none
   | .method n=>if caps.toList.isEmpty=true then Xz n (first.toList.map ρ) else none
   | _=>none
 | .fieldAddr t x j=>match T t with
   | some i=>match i.k with
     | .agg fs=>match fs[j]? with
       | some (fo,ft)=>match T ft with
         | some fi=>if fi.size=0 then none else match ρ x with
           | .ptr r off=>JJ lk r (p.na off fo) (off+fo)
           | .dptr cells off=>some (.dptr cells (p.na off fo))
           | _=>none
         | none=>none
       | none=>none
     | _=>none
   | none=>none
 | .field t x j=>match T t with
   | some i=>match i.k with
     | .agg fs=>match fs[j]? with
       | some (fo,ft)=>match T ft with
         | some fi=>match ρ x with
           | .agg cs=>fQ fi cs fo
           | _=>none
         | none=>none
       | none=>none
     | _=>none
   | none=>none
 | .indexAddr t x ix=>match T t with
   | some i=>match i.k with
     | .arr n e=>match T e with
       | some ei=>match XW p (ρ ix) n with
         | some j=>match ρ x with
           | .ptr r off=>JJ lk r (p.na off (p.nm j ei.size)) (off+j*ei.size)
           | .dptr cells off=>some (.dptr cells (p.na off (p.nm j ei.size)))
           | _=>none
         | none=>none
       | none=>none
     | .slice e=>match T e with
       | some ei=>match ρ x with
         | .sl r off n cap=>match XW p (ρ ix) n with
           | some j=>if fV lk r then some (.ptr r (p.na off (p.nm j ei.size))) else none
           | none=>none
         | .d (.dl cells n cap)=>match XW p (ρ ix) n with
           | some j=>bif p.emp cells then none else some (.dptr cells (p.nm j ei.size))
           | none=>none
         | _=>none
       | none=>none
     | _=>none
   | none=>none
 | .index t x ix=>match T t with
   | some i=>match i.k with
     | .arr n e=>match T e with
       | some ei=>match XW p (ρ ix) n,ρ x with
         | some j,.agg cs=>fQ ei cs (j*ei.size)
         | _,_=>none
       | none=>none
     | .str=>match ρ x,ρ ix with
       | .d (.val (.string s)),.d (.val (.int _ j))=>p.sat s j
       | _,_=>none
     | _=>none
   | none=>none
 | .slice t x lo hi mx=>match T t with
   | some i=>match i.k with
     | .slice e=>match T e with
       | some ei=>match ρ x with
         | .sl r off n cap=>match lk r with
           | some (.data s)=>if s=ei.size then FK p ei.size (.sl r off n cap) (lo.map ρ) (hi.map ρ) (mx.map ρ) else none
           | _=>none
         | .d (.val (.slice none 0 0))=>FK p ei.size (.d (.val (.slice none 0 0))) (lo.map ρ) (hi.map ρ) (mx.map ρ)
         | .d (.dl cells n cap)=>FK p ei.size (.d (.dl cells n cap)) (lo.map ρ) (hi.map ρ) (mx.map ρ)
         | _=>none
       | none=>none
     | .str=>match ρ x with
       | .d (.val (.string s))=>FK p 0 (.d (.val (.string s))) (lo.map ρ) (hi.map ρ) (mx.map ρ)
       | _=>none
     | _=>none
   | none=>none
 | .extract x j=>match ρ x with
   | .tup vs=>vs[j]?
   | _=>none
 | .call c=>match c.callee with
   | .builtin b=>if c.args.toList.all (fun x=>wu lk (ρ x)) then adG p T b c.argTypes.toList (c.args.toList.map ρ) else none
   | _=>none
 | _=>none
def aiU (rd:Nat->Option AO):AV->Option (DV×List (Nat×AO))
 | .d x=>some (sU x,[])
 | .sl r off n cap=>match rd r with
   | some (.data e s cs _)=>some (.dl (p.cut cs off (p.nm n s)) n none,[(r,.data e s cs false)])
   | _=>none
 | _=>none
def IG (rd:Nat->Option AO):List AV->Option (List DV×List (Nat×AO))
 | []=>some ([],[])
 | x::xs=>match aiU p rd x,IG rd xs with
   | some (y,u),some (ys,us)=>some (y::ys,u++us)
   | _,_=>none
def X0 (i:TI) (cs:List DV) (off:Nat):Option AV :=
 if i.k.isAgg then (p.cells cs off i.size).map .agg else (p.cell cs off).map .d
def U0 (rd:Nat->Option AO) (s:Nat):AV->Option (List DV×Nat)
 | .d (.val (.slice none 0 0))=>some ([],0)
 | .d (.dl cells n _)=>bif p.neq (p.len cells) (p.nm n s) then some (cells,n) else none
 | .sl r off n _=>match rd r with
   | some (.data _ s' cs _)=>if s'=s then (bif p.nle (p.na off (p.nm n s)) (p.len cs) then some (p.cut cs off (p.nm n s),n) else none) else none
   | _=>none
 | .d (.val (.string b))=>if s=1 then some (p.sby b,p.ssz b) else none
 | _=>none
def newP (rd:Nat->Option AO) (slot e s bytes m:Nat) (cells:List DV) (n:Nat) (old:List DV):Option (AV×List (Nat×AO)) :=
 if (rd slot).isSome then none else bif p.fit n m bytes then some (.sl slot 0 (p.na n m) none,[(slot,.data e s (p.app old cells) true)]) else none
def y7 (rd:Nat->Option AO) (slot e s bytes:Nat) (x:AV) (cells:List DV) (m:Nat):Option (AV×List (Nat×AO)) :=
 match x with
 | .d (.val (.slice none 0 0))=>newP p rd slot e s bytes m cells 0 []
 | .d (.dl cs n (some c))=>bif p.neq c n then (bif p.neq n 0 then newP p rd slot e s bytes m cells 0 [] else bif p.neq m 0 then some (x,[]) else bif p.neq (p.len cs) (p.nm n s) then newP p rd slot e s bytes m cells n cs else none) else none
 | .sl r off n (some c)=>match rd r with
   | some (.data e' s' cs wr)=>if e'=e/\s'=s then
      (bif p.neq c n then (bif p.neq n 0 then newP p rd slot e s bytes m cells 0 [] else bif p.neq m 0 then some (x,[]) else bif p.nle (p.na off (p.nm n s)) (p.len cs) then newP p rd slot e s bytes m cells n (p.cut cs off (p.nm n s)) else none)
 else if wr=true then (bif p.neq off 0 then bif p.nle (p.na n m) c then bif p.nle (p.nm (p.na n m) s) (p.len cs) then some (.sl r 0 (p.na n m) (some c),[(r,.data e s (p.spl cs (p.nm n s) cells) true)]) else none else none else none) else none) else none
   | _=>none
 | .sl r off n none=>match rd r with
   | some (.data e' s' cs wr)=>if e'=e/\s'=s then
      (bif p.neq off 0 then if wr=true then (bif p.neq (p.nm n s) (p.len cs) then (match newP p rd slot e s bytes m cells n cs with | some (v,u)=>some (v,u++[(r,.dead)]) | none=>none)
 else bif p.nle (p.nm n s) (p.len cs) then (match newP p rd slot e s bytes m cells n (p.cut cs 0 (p.nm n s)) with | some (v,u)=>some (v,u++[(r,.dead)]) | none=>none) else none) else none else none) else none
   | _=>none
 | _=>none
def X3 (T:Ty) (rd:Nat->Option AO) (slot:Nat) (o:Oper) (ρ:Operand->AV):Option (AV×List (Nat×AO)) :=
 match o.op with
 | .alloc t=>match T t with
   | some i=>if (rd slot).isSome then none else some (.ptr slot 0,[(slot,.mix (i.zero.map .d))])
   | none=>none
 | .box t x=>if (rd slot).isSome then none else if sS (kinds rd) (ρ x) then some (.ptr slot 0,[(slot,.mix (ρ x).cellsOf)]) else none
 | .buildSlice t n parts=>match T t with
   | some i=>match i.k with
     | .slice e=>match T e with
       | some ei=>if (rd slot).isSome\/n*ei.size > 1000\/ei.size=0\/(parts.toList.all fun (_,x)=>sS (kinds rd) (ρ x))=false then none else
         match l7 (fun j=>some (j*ei.size,ei.size)) ((nO n ei.zero).map .d) (parts.toList.map fun (j,x)=>(j,ρ x)) with
         | some cells=>match IG p rd cells with
           | some (cs,us)=>some (.sl slot 0 n (bsC t n),(slot,.data e ei.size cs true)::us)
           | none=>none
         | none=>none
       | none=>none
     | _=>none
   | none=>none
 | .load t x=>match T t with
   | some i=>match ρ x with
     | .ptr r off=>match rd r with
       | some (.data _ _ cs _)=>X0 p i cs off |>.map fun v=>(v,[])
       | some (.mix cs)=>fQ i cs off |>.map fun v=>(v,[])
       | _=>none
     | .dptr cells off=>bif p.emp cells then none else X0 p i cells off |>.map fun v=>(v,[])
     | _=>none
   | none=>none
 | .store t x y=>match T t with
   | some i=>match ρ x with
     | .ptr r off=>let new:=(ρ y).cellsOf
       match rd r with
       | some (.mix cs)=>if new.length=i.size/\off+i.size<=cs.length/\sS (kinds rd) (ρ y)/\new.all (mQ rd) then some (.undef,[(r,.mix (splice cs off new))]) else none
       | some (.data e s cs true)=>match IG p rd new with
         | some (ns,us)=>if new.length=i.size then (bif p.nle (p.na off i.size) (p.len cs) then (if sS (kinds rd) (ρ y)/\us.all (fun u=>u.1 != r) then some (.undef,(r,.data e s (p.spl cs off ns) true)::us) else none) else none) else none
         | none=>none
       | _=>none
     | _=>none
   | none=>none
 | .makeMap t none=>if (rd slot).isSome then none else match vW T t with | some (kk,_)=>some (.ptr slot 0,[(slot,.mp kk [] [])]) | none=>none
 | .lookup t x y ok=>match vW T t with
   | some (kk,ei)=>(match ρ x,ρ y,fQ ei (ei.zero.map .d) 0 with
     | .ptr r _,.d (.val (.int k n)),some z=>match rd r with
       | some (.mp kk' ks vs)=>if kk=kk'/\k=kk then some (Xu ok (pK n ks vs) z,[]) else none
       | _=>none
     | _,_,_=>none)
   | none=>none
 | .mapUpdate t x y z=>match vW T t with
   | some (kk,_)=>(match ρ x,ρ y with
     | .ptr r _,.d (.val (.int k n))=>match rd r with
       | some (.mp kk' ks vs)=>if kk=kk'/\k=kk/\sS (kinds rd) (ρ z)=true then some (.undef,[(r,.mp kk (uz ks n) (Eh ks n vs (ρ z)))]) else none
       | _=>none
     | _,_=>none)
   | none=>none
 | .insert t x y z=>match vW T t with
   | some (kk,_)=>(match ρ x,ρ y with
     | .ptr r _,.d (.val (.int k n))=>match rd r with
       | some (.mp kk' ks vs)=>if kk=kk'/\k=kk/\sS (kinds rd) (ρ z)=true then some (.undef,[(r,.mp kk (uz ks n) (Eh ks n vs (ρ z)))]) else none
       | _=>none
     | _,_=>none)
   | none=>none
 | .makeSlice t l c=>match T t with
   | some i=>match i.k with
     | .slice e=>match T e with
       | some ei=>match ρ l,ρ c with
         | .d (.val (.int _ n)),.d (.val (.int _ k))=>if (rd slot).isSome then none else
           bif p.mks n k ei.bytes then (if 0<ei.size then some (.sl slot 0 (p.tn n) (bif OB l c then some (p.tn k) else none),[(slot,.data e ei.size (p.rep (p.tn k) (ei.zero.map sU)) true)]) else none) else none
         | _,_=>none
       | none=>none
     | _=>none
   | none=>none
 | .convert src dst x=>match T src,T dst with
   | some si,some di=>match si.k,di.k with
     | .slice e,.str=>if isStr (ρ x) || !(Bq (T e)) then none else match U0 p rd 1 (ρ x) with
       | some (cells,_)=>match p.sof cells with
         | some l=>some (.d (.val (.string ⟨l.toArray⟩)),[])
         | none=>none
       | none=>none
     | .slice _,.slice e=>if src=dst/\Bq (T e)=true then (match ρ x with
       | .sl r off n cap=>match rd r with
         | some (.data _ s cs true)=>if s=1/\0<n then some (.d (.dl (p.cut cs off n) n cap),[(r,.dead)]) else none
         | _=>none
       | _=>none) else none
     | _,_=>none
   | _,_=>none
 | .call c=>match c.callee with
   | .builtin .append=>match c.args.toList.map ρ,(c.argTypes[0]?).bind T,(c.argTypes[1]?).bind T with
     | [x,y],some i,some j=>if j.k.srcOk then match i.k with
       | .slice e=>match T e with
         | some ei=>match U0 p rd ei.size y with
           | some (cells,m)=>if 0<ei.size then y7 p rd slot e ei.size ei.bytes x cells m else none
           | none=>none
         | none=>none
       | _=>none
       else none
     | _,_,_=>none
   | .builtin .copy=>match c.args.toList.map ρ,(c.argTypes[0]?).bind T with
     | [.sl r off n cap,y],some i=>match i.k with
       | .slice e=>match T e with
         | some ei=>match U0 p rd ei.size y,rd r with
           | some (cells,m),some (.data e' s cs true)=>if s=ei.size then (bif p.nle (p.na off (p.nm n s)) (p.len cs) then some (dG .i64 (p.zi (p.nmin m n)),[(r,.data e' s (p.spl cs off (p.cut cells 0 (p.nm (p.nmin m n) s))) true)]) else none) else none
           | _,_=>none
         | none=>none
       | _=>none
     | _,_=>none
   | _=>none
 | _=>none
def RP (rd:Nat->Option AO) (slot e s bytes:Nat) (x:AV) (cells:List DV) (m:Nat):Option (AV×List (Nat×AO)) :=
 match x with
 | .d (.val (.slice none 0 0))=>bif p.nle 1 m then newP p rd slot e s bytes m cells 0 [] else none
 | .sl r off n (some c)=>match rd r with
   | some (.data e' s' cs _)=>if e'=e/\s'=s then (bif p.nle (p.na n m) c then none else bif p.nle (p.na off (p.nm n s)) (p.len cs) then newP p rd slot e s bytes m cells n (p.cut cs off (p.nm n s)) else none) else none
   | _=>none
 | _=>none
def X4 (T:Ty) (rd:Nat->Option AO) (slot:Nat) (o:Oper) (ρ:Operand->AV):Option (AV×List (Nat×AO)) :=
 match o.op with
 | .convert src dst x=>match T src,T dst with
   | some si,some di=>match si.k,di.k with
     | .str,.slice e=>if Bq (T e)=true then (match ρ x with
       | .d (.val (.string b))=>bif p.nle (p.ssz b) 140737488355328 then some (.d (.dl (p.sby b) (p.ssz b) none),[]) else none
       | _=>none) else none
     | _,_=>none
   | _,_=>none
 | .call c=>match c.callee with
   | .builtin .append=>match c.args.toList.map ρ,(c.argTypes[0]?).bind T,(c.argTypes[1]?).bind T with
     | [x,y],some i,some j=>match i.k with
       | .slice e=>match T e with
         | some ei=>if 0<ei.size then (match j.k with
           | .int _=>match y with
             | .d (.val (.int _ m))=>bif p.cmp .lss 0 m then (bif p.cmp .leq m 140737488355328 then RP p rd slot e ei.size ei.bytes x (p.rep (p.tn m) (ei.zero.map sU)) (p.tn m) else none) else none
             | _=>none
           | .slice _=>match U0 p rd ei.size y with
             | some (cells,m)=>RP p rd slot e ei.size ei.bytes x cells m
             | none=>none
           | _=>none) else none
         | none=>none
       | _=>none
     | _,_,_=>none
   | .builtin .copy=>match c.args.toList.map ρ,(c.argTypes[0]?).bind T with
     | [.sl r off n _,.sl r2 off2 m _],some i=>match i.k with
       | .slice e=>match T e with
         | some ei=>match rd r,rd r2 with
           | some (.data e' s cs true),some (.data _ s2 cs2 _)=>if s=ei.size/\s2=s/\0<s then (bif p.nle 1 n then bif p.nle 1 m then bif p.nle off (p.len cs) then bif p.nle (p.na off2 (p.nm (p.nmin m n) s)) (p.len cs2) then
 some (dG .i64 (p.zi (p.nmin m n)),[(r,.data e' s (p.app (p.cut cs 0 off) (p.cut cs2 off2 (p.nm (p.nmin m n) s))) true)]) else none else none else none else none) else none
           | _,_=>none
         | none=>none
       | _=>none
     | _,_=>none
   | .builtin .clear=>match c.args.toList.map ρ,(c.argTypes[0]?).bind T with
     | [.sl r off n _],some i=>match i.k with
       | .slice e=>match T e with
         | some ei=>match rd r with
           | some (.data e' s cs true)=>if s=ei.size/\0<s then (bif p.nle 1 n then bif p.nle off (p.len cs) then some (.undef,[(r,.data e' s (p.cut cs 0 off) true)]) else none else none) else none
           | _=>none
         | none=>none
       | _=>none
     | _,_=>none
   | _=>none
 | _=>none
def abe (T:Ty) (q:Nat->Bool) (rd:Nat->Option AO) (slot:Nat) (o:Oper) (ρ:Operand->AV):Option Eff :=
 let rs:=o.op.operands.toList.flatMap fun x=>(ρ x).refs
 match XZ p T q (kinds (restrict rs rd)) o ρ with
 | some v=>some ⟨v,[],[],rs⟩
 | none=>match X3 p T (restrict (slot::rs) rd) slot o ρ with
   | some (v,u)=>some ⟨v,u,slot::rs,[]⟩
   | none=>match X4 p T (restrict (slot::rs) rd) slot o ρ with
     | some (v,u)=>some ⟨v,u,slot::rs,[]⟩
     | none=>none
end
theorem U1:aeT real=sF:=by
 funext op x y;cases x<;>cases y<;>cases op<;>first | rfl | (simp only [aeT,sF,real,Bool.cond_decide])
theorem X5:unP real=unV:=by
 funext op x;cases x<;>cases op<;>rfl
theorem JK:RJ real=vZ:=rfl
theorem II (T:Ty) (q:Nat->Bool) (sub:Nat->List AV->List AV->Option Bool):∀(fs:List (Nat×Nat)) (xs ys:List AV),Px.eqFP real T q sub fs xs ys=zG.eqF T q sub fs xs ys
 | [],_,_=>rfl
 | (o,ft)::fs,xs,ys=>by
   unfold Px.eqFP zG.eqF;simp only [JK,II T q sub fs xs ys];rfl
theorem IJ (T:Ty) (q:Nat->Bool):∀n,Px real T q n=zG T q n
 | 0=>rfl
 | n+1=>by
   funext t xs ys;unfold Px zG;simp only [IJ T q n,II];rfl
theorem U2:XW real=idx? := rfl
theorem Pz:adG real=Um:=rfl
theorem MF:FK real=jU:=rfl
theorem U3:aiU real=zK:=rfl
theorem FM (rd:Nat->Option AO):∀l,IG real rd l=fG rd l
 | []=>rfl
 | x::xs=>by unfold IG fG;rw [U3,FM rd xs];rfl
theorem PD:X0 real=wz:=rfl
theorem Ai (a b:Prop) [Decidable a] [Decidable b] {α:Type} (x y:α):(if a/\b then x else y)=if a then (if b then x else y) else y:=by
 by_cases h:a<;>by_cases k:b<;>simp [h,k]
theorem IK:U0 real=uy:=by
 funext rd s x;unfold U0 uy;simp only [real,Bool.cond_decide,Ai];rfl
theorem IL:newP real=wB:=by
 funext rd slot e s bytes m cells n old;unfold newP wB;simp only [real,Bool.cond_decide,Ai]
theorem Eo:y7 real=iM:=by
 funext rd slot e s bytes x cells m;unfold y7 iM;simp only [IL,Ai];simp only [real,Bool.cond_decide];rfl
theorem U4 (lk:Nat->Option AK) (r a:Nat):JJ lk r a a=if fV lk r=true then some (.ptr r a) else none:=by
 unfold JJ fV;cases lk r with
 | none=>rfl
 | some k=>cases k<;>rfl
theorem U5:aeU real=Ht:=by
 funext lk x;unfold aeU Ht;simp only [real,Bool.cond_decide];simp only [Bool.cond_eq_ite];rfl
theorem PE (T:Ty) (q:Nat->Bool) (lk:Nat->Option AK) (o:Oper) (ρ:Operand->AV):XZ real T q lk o ρ=zJ T q lk o ρ:=by
 unfold XZ zJ;simp only [U5,U1,X5,IJ,U2,MF,Pz];simp only [real,U4];simp only [Bool.cond_eq_ite];cases o.op<;>first | rfl | skip
theorem PG (T:Ty) (rd:Nat->Option AO) (slot:Nat) (o:Oper) (ρ:Operand->AV):X3 real T rd slot o ρ=zL T rd slot o ρ:=by
 have e1:IG real rd=fG rd:=funext (FM rd);unfold X3 zL;simp only [e1,PD,IK,Eo];simp only [real,Bool.cond_decide,Ai];simp only [Bool.cond_eq_ite];cases o.op<;>first | rfl | skip
theorem PI:RP real=Ik:=by
 funext rd slot e s bytes x cells m;unfold RP Ik;simp only [IL];simp only [real,Bool.cond_decide];rfl
theorem PN (T:Ty) (rd:Nat->Option AO) (slot:Nat) (o:Oper) (ρ:Operand->AV):X4 real T rd slot o ρ=Hu T rd slot o ρ:=by
 unfold X4 Hu;simp only [PI,IK];simp only [real,Bool.cond_decide,Ai];cases o.op<;>first | rfl | skip
theorem IQ (T:Ty) (q:Nat->Bool) (rd:Nat->Option AO) (slot:Nat) (o:Oper) (ρ:Operand->AV):abe real T q rd slot o ρ=eff T q rd slot o ρ:=by
 unfold abe eff;simp only [PE,PG,PN];rfl
section
variable (p:Pr) (C:Cxt) (T:Ty) (GL:Nat->Option (List DV)) (q:Nat->Bool) (N base:Nat) (ops:Array Oper) (draw:Bool) (anc:List (List Nat))
def IU (K:SL->Prop):List Nat->SL->List (Nat×Ef)->Prop
 | [],s,_=>K s
 | i::is,s,log=>match ops[i]? with
   | none=>False
   | some o=>match UU N o.dst with
     | false=>False
     | true=>match oz ops s o with
       | none=>False
       | some b=>match b with
         | true=>match rF (s.ev GL) o with
           | some (f,args)=>∃v us rds,C.D f args rds v us s.rd/\(!draw||qC ops (anc.getD i []) o ⟨v,us,rds,[],lT s.rd us⟩ log)=true/\IU K is (s.app o.dst v us) ((i,⟨v,us,rds,[],lT s.rd us⟩)::log)
           | none=>match abe p T q s.rd (base+i) o (s.ev GL) with
             | some f=>match !draw||qC ops (anc.getD i []) o ⟨f.v,f.upd,f.rds,f.lvs,lT s.rd f.upd⟩ log with
               | true=>IU K is (s.app o.dst f.v f.upd) ((i,⟨f.v,f.upd,f.rds,f.lvs,lT s.rd f.upd⟩)::log)
               | false=>False
             | none=>False
         | false=>match !draw||qC ops (anc.getD i []) o pG log with
           | true=>IU K is (s.put o.dst .undef) ((i,pG)::log)
           | false=>False
end
theorem FN {C:Cxt} {T:Ty} {GL:Nat->Option (List DV)} {q:Nat->Bool} {N base:Nat} {ops:Array Oper} {draw:Bool} {anc:List (List Nat)} {K:SL->Prop}:∀(is:List Nat) (s:SL) (log:List (Nat×Ef)),IU real C T GL q N base ops draw anc K is s log=JH C T GL q N base ops draw anc K is s log
 | [],s,log=>rfl
 | i::is,s,log=>by
   unfold IU JH;simp only [IQ,FN is]
   try rfl
section
variable (p:Pr) (C:Cxt) (T:Ty) (GL:Nat->Option (List DV)) (q:Nat->Bool) (N:Nat)
def lW:Code->(Exit->SL->Prop)->SL->Prop
 | .skip,Q,s=>Q .normal s
 | .region id ops draw,Q,s=>match !draw||Fp ops with
   | true=>IU p C T GL q N (FB id) ops draw (if draw then qB ops ops.size else []) (fun s'=>Q .normal s') (List.range ops.size) s []
   | false=>False
 | .seq a b,Q,s=>lW a (aeN (fun s'=>lW b Q s') Q) s
 | .cond c t e,Q,s=>match s.ev GL c with
   | .d (.val (.bool b))=>match b with
     | true=>lW t Q s
     | false=>lW e Q s
   | .ab=>lW t Q s/\lW e Q s
   | _=>False
 | .scope c,Q,s=>lW c (aa9 Q) s
 | .block id c,Q,s=>lW c (O8 id Q) s
 | .exit id,Q,s=>Q (.exit id) s
 | .ret,Q,s=>Q .ret s
 | .label _,Q,s=>Q .normal s
 | .loop c,Q,s=>C.L (.loop c) Q s
 | _,_,_=>False
end
theorem kG {C:Cxt} {T:Ty} {GL:Nat->Option (List DV)} {q:Nat->Bool} {N:Nat}:∀(c:Code) (Q:Exit->SL->Prop) (s:SL),lW real C T GL q N c Q s=kF C T GL q N c Q s
 | .skip,Q,s=>rfl
 | .region id ops draw,Q,s=>by
   rw [lW,kF];simp only [FN]
   try rfl
 | .seq a b,Q,s=>by
   rw [lW,kF,kG a];simp only [kG b]
 | .cond c t e,Q,s=>by
   rw [lW,kF];simp only [kG t,kG e]
   try rfl
 | .block id c,Q,s=>by rw [lW,kF,kG c]
 | .exit id,Q,s=>rfl
 | .ret,Q,s=>rfl
 | .label l,Q,s=>rfl
 | .loop c,Q,s=>rfl
 | .rangeFunc _ _ _ _,Q,s=>rfl
 | .scope c,Q,s=>by rw [lW,kF,kG c]
 | .goto _,Q,s=>rfl
 | .refuse _,Q,s=>rfl
section
variable {P:Program} {GL:Nat->Option (List DV)} {L:List (List (Option TI))} {cs:List Nat}
theorem y8 (K:Facts P L cs) {f:FuncId} {fn:Func} {c:Code} (hf:P.funcs[f]? = some fn) (hb:fn.body=some c) {args:List AV} (hn:args.length<=fn.ntmps) {os:List (Nat×AO)} {v:AV} {us:List (Nat×AO)}
 (h:∀C F p,C=Mc P GL fn.ntmps (aK os)->F=aO P->p=real->lW p C (yP F L) GL (qOf cs) fn.ntmps c (aeP (yP F L) fn os v us) ⟨fn.ntmps,iT 0 args,os⟩):fZ P GL f args os v us :=
 XT K hf hb hn (fun C F hC hF=>by rw [<-kG];exact h C F real hC hF rfl)
end
section
variable {p:Pr} (hp:p=real)
include hp
theorem U6 {a b:Int}:p.cmp .lss a b=decide (a<b):=by rw [hp];rfl
theorem U7 {a b:Int}:p.cmp .leq a b=decide (a<=b):=by rw [hp];rfl
theorem IV {a b:Int}:p.cmp .gtr a b=decide (a > b):=by rw [hp];rfl
theorem qj {a b:Int}:p.cmp .eql a b=decide (a=b):=by rw [hp];rfl
theorem aeV {i:Int} {n j:Nat} (h:i=j) (hj:j<=n):p.ixle i n=some j:=by
 subst hp h;show (if 0<=(j:Int)/\(j:Int)<=n then some (j:Int).toNat else none)=some j;rw [if_pos (by omega)];rfl
omit hp in
theorem wrap_i64 {n:Int} (h1 : -9223372036854775808<=n) (h2:n<=9223372036854775807):IntKind.wrap .i64 n=n:=by
 show (if (true&&decide (n % 18446744073709551616>=9223372036854775808))=true then n % 18446744073709551616-18446744073709551616 else n % 18446744073709551616)=n;simp only [Bool.true_and,decide_eq_true_eq];split<;>omega
theorem RQ {a b:Int} (h1 : -9223372036854775808<=a+b) (h2:a+b<=9223372036854775807):p.ar .add .i64 a b=a+b:=by rw [hp];exact wrap_i64 h1 h2
theorem aiV {a b:Int} (h1 : -9223372036854775808<=a-b) (h2:a-b<=9223372036854775807):p.ar .sub .i64 a b=a-b:=by rw [hp];exact wrap_i64 h1 h2
end
section
variable {p:Pr} (hp:p=real)
include hp
theorem abf {n:Nat}:p.zi n=(n:Int):=by rw [hp];rfl
theorem yQ {a b:Nat}:p.nm a b=a*b:=by rw [hp];rfl
theorem wW {a b:Nat}:p.na a b=a+b:=by rw [hp];rfl
theorem Ia {a b:Nat}:p.ns a b=a-b:=by rw [hp];rfl
theorem aiW {cs:List DV} (h:cs≠[]):p.emp cs=false:=by rw [hp];cases cs with | nil=>exact absurd rfl h | cons _ _=>rfl
end
section
variable {p:Pr} (hp:p=real)
include hp
end
mutual
def jZ (σ:Nat->Nat):AV->AV
 | .d x => .d x
 | .ptr r o => .ptr (σ r) o
 | .sl r o n c => .sl (σ r) o n c
 | .dptr cs o => .dptr cs o
 | .agg cs => .agg (wX σ cs)
 | .tup cs => .tup (wX σ cs)
 | .clo f cs => .clo f (wX σ cs)
 | .undef => .undef
 | .ab => .ab
 | .junk => .junk
def wX (σ:Nat->Nat):List AV->List AV
 | []=>[]
 | x::xs=>jZ σ x::wX σ xs
end
def qZ (σ:Nat->Nat):AO->AO
 | .data e s cs w => .data e s cs w
 | .mix cs => .mix (wX σ cs)
 | .mp kk ks vs => .mp kk ks (wX σ vs)
 | .dead => .dead
def yR (σ:Nat->Nat):List (Nat×AO)->List (Nat×AO)
 | []=>[]
 | (r,o)::l=>(σ r,qZ σ o)::yR σ l
theorem wY (σ:Nat->Nat) (o:AO):(qZ σ o).mutB=o.mutB:=by cases o<;>rfl
theorem U8 (σ:Nat->Nat) {a b:AO} (h:a.like b):(qZ σ a).like (qZ σ b):=by cases a<;>cases b<;>simp_all [qZ,AO.like]
section
variable {σ τ:Nat->Nat} (hi:∀r,τ (σ r)=r)
include hi
theorem RS {r r':Nat} (h:σ r=σ r'):r=r':=by rw [<-hi r,<-hi r',h]
theorem tJ (r:Nat):∀us:List (Nat×AO),look (σ r) (yR σ us)=(look r us).map (qZ σ)
 | []=>rfl
 | (k,o)::l=>by
   rw [yR,look,look];by_cases h:k=r
   ·subst h;rw [if_pos rfl,if_pos rfl];rfl
   ·rw [if_neg h,if_neg (fun e=>h (RS hi e)),tJ r l]
omit hi in
theorem pV {k:Nat} {o':AO}:∀ {us:List (Nat×AO)},look k (yR σ us)=some o'->∃r,k=σ r
 | [],h=>by cases h
 | (r,o)::l,h=>by
   rw [yR,look] at h;by_cases hk:σ r=k
   ·exact ⟨r,hk.symm⟩
   ·rw [if_neg hk] at h;exact pV h
end
structure RnE (σ:Nat->Nat) (E1 E:En):Prop where
 h:E.h=E1.h
 x:E.X=E1.X
 hp:∀r,E.hp (σ r)=(E1.hp r).map (qZ σ)
 m:∀r o,E1.hp r=some o->E.m (σ r)=E1.m r
section
variable {σ:Nat->Nat} {E1 E:En}
mutual
theorem JL (R:RnE σ E1 E):∀(x:AV) (u:Value),Rel E (jZ σ x) u↔Rel E1 x u
 | .d x,u=>by rw [jZ,Rel,Rel,R.h,R.x]
 | .ptr r o,u=>by
   rw [jZ,Rel,Rel,R.hp r];cases hr:E1.hp r with
   | none=>exact Iff.rfl
   | some ob=>cases ob<;>simp only [Option.map_some,qZ,R.m r _ hr]
 | .sl r o n c,u=>by
   rw [jZ,Rel,Rel,R.hp r];cases hr:E1.hp r with
   | none=>exact Iff.rfl
   | some ob=>cases ob<;>simp only [Option.map_some,qZ,R.m r _ hr]
 | .dptr cs o,u=>by rw [jZ,Rel,Rel,R.h,R.x]
 | .agg cs,u=>by
   rw [jZ,Rel,Rel];exact ⟨fun ⟨vs,h1,h2⟩=>⟨vs,h1,(kH R cs _).1 h2⟩,fun ⟨vs,h1,h2⟩=>⟨vs,h1,(kH R cs _).2 h2⟩⟩
 | .tup cs,u=>by
   rw [jZ,Rel,Rel];exact ⟨fun ⟨vs,h1,h2⟩=>⟨vs,h1,(kH R cs _).1 h2⟩,fun ⟨vs,h1,h2⟩=>⟨vs,h1,(kH R cs _).2 h2⟩⟩
 | .clo f cs,u=>by
   rw [jZ,Rel,Rel];exact ⟨fun ⟨vs,h1,h2⟩=>⟨vs,h1,(kH R cs _).1 h2⟩,fun ⟨vs,h1,h2⟩=>⟨vs,h1,(kH R cs _).2 h2⟩⟩
 | .undef,u=>by rw [jZ,Rel,Rel]
 | .ab,u=>by rw [jZ,Rel,Rel]
 | .junk,u=>by rw [jZ,Rel,Rel]
theorem kH (R:RnE σ E1 E):∀(xs:List AV) (vs:List Value),aG E (wX σ xs) vs↔aG E1 xs vs
 | [],vs=>by rw [wX,aG,aG]
 | x::xs,vs=>by
   rw [wX,aG,aG];exact ⟨fun ⟨v,vs',h1,h2,h3⟩=>⟨v,vs',h1,(JL R x v).1 h2,(kH R xs vs').1 h3⟩,fun ⟨v,vs',h1,h2,h3⟩=>⟨v,vs',h1,(JL R x v).2 h2,(kH R xs vs').2 h3⟩⟩
end
theorem MG (R:RnE σ E1 E) {r:Nat} {o:AO} (ho:E1.hp r=some o):qY E (σ r) (qZ σ o)↔qY E1 r o:=by
 have hm:=R.m r o ho;cases o with
 | dead=>exact Iff.rfl
 | data e s cs w=>simp only [qZ,qY,hm,R.h,R.x]
 | mix cs=>simp only [qZ,qY,hm,R.h,R.x,kH R]
 | mp kk ks vs=>simp only [qZ,qY,Dk,hm,R.h,R.x,kH R]
theorem JM (R:RnE σ E1 E) {k:Nat} (h:zV E1 k):zV E k:=by
 obtain ⟨r,o,z,h1,h2,h3⟩:=h;exact ⟨σ r,qZ σ o,z,by rw [R.hp,h1];rfl,by rw [wY];exact h2,by rw [R.m r o h1];exact h3⟩
end
theorem X6 {σ τ:Nat->Nat} (hi:∀r,τ (σ r)=r) {E1 E:En} {us:List (Nat×AO)} (R:RnE σ E1 E) (h1:E1.hp=aK us) (h2:E.hp=aK (yR σ us)) {k:Nat} (h:zV E k):zV E1 k:=by
 obtain ⟨r',o',z,k1,k2,k3⟩:=h;rw [h2] at k1;obtain ⟨r,rfl⟩:=pV k1;have k1':look (σ r) (yR σ us)=some o':=k1;rw [tJ hi] at k1';cases hl:look r us with
 | none=>rw [hl] at k1';cases k1'
 | some o =>
   rw [hl] at k1';cases k1';have ho:E1.hp r=some o:=by rw [h1];exact hl
   exact ⟨r,o,z,ho,by rw [<-wY σ];exact k2,by rw [<-R.m r o ho];exact k3⟩
theorem X7 {P:Program} {GL:Nat->Option (List DV)} {f:FuncId} {args:List AV} {os:List (Nat×AO)} {v:AV} {us:List (Nat×AO)} (h:fZ P GL f args os v us) (σ τ:Nat->Nat) (hi:∀r,τ (σ r)=r):fZ P GL f (wX σ args) (yR σ os) (jZ σ v) (yR σ us):=fun E w vs hE hw hs hrel=>by
 let E1:En:={m:=fun r=>E.m (σ r),hp:=aK os,X:=E.X,h:=E.h}
 have R1:RnE σ E1 E:=⟨rfl,rfl,fun r=>by rw [hE];exact tJ hi r os,fun r o _=>rfl⟩
 have s1:eX GL E1:=by
  refine ⟨fun r o ho=>(MG R1 ho).1 (hs.ob (σ r) (qZ σ o) (by rw [R1.hp,ho];rfl)),fun r r' o o' b z z' h1 h2 h3 h4 h5 h6 => ?_,hs.gl⟩;exact RS hi (hs.inj (σ r) (σ r') (qZ σ o) (qZ σ o') b z z' (by rw [R1.hp,h1];rfl) (by rw [R1.hp,h2];rfl) (by rw [wY];exact h3) (by rw [wY];exact h4) h5 h6)
 refine (h E1 w vs rfl hw s1 ((kH R1 args _).1 hrel)).mono ?_;rintro e w' ⟨u,E2,rfl,g1,g2,g3,g4,g5,g6⟩
 let E':En:={m:=fun k=>E2.m (τ k),hp:=aK (yR σ us),X:=E2.X,h:=E2.h}
 have R2:RnE σ E2 E':=⟨rfl,rfl,fun r=>by rw [g2];exact tJ hi r us,fun r o _=>by show E2.m (τ (σ r))=_;rw [hi]⟩
 have inv:∀k o',E'.hp k=some o'->∃r o,k=σ r/\E2.hp r=some o/\o'=qZ σ o:=fun k o' hk=>by
  obtain ⟨r,rfl⟩:=pV hk;have hk':look (σ r) (yR σ us)=some o':=hk;rw [tJ hi] at hk';cases hl:look r us with
  | none=>rw [hl] at hk';cases hk'
  | some o=>rw [hl] at hk';cases hk';exact ⟨r,o,rfl,by rw [g2];exact hl,rfl⟩
 refine ⟨u,E',rfl,g1,rfl,⟨fun k o' ho => ?_,fun k k' o o' b z z' h1 h2 h3 h4 h5 h6 => ?_,g3.gl⟩,⟨g4.sub,fun k o ho => ?_⟩,⟨g5.os,g5.tape,g5.output,g5.size,fun k hk hm=>g5.blk k hk (fun hm'=>hm (JM R1 hm')),fun k hk => ?_,g5.xs,fun k hk hx hm=>g5.xk k hk hx (fun hm'=>hm (JM R1 hm'))⟩,(JL R2 v u).2 g6⟩
 ·obtain ⟨r,ob,rfl,k1,rfl⟩:=inv k o' ho;exact (MG R2 k1).2 (g3.ob r ob k1)
 ·obtain ⟨r,ob,rfl,k1,rfl⟩:=inv k o h1;obtain ⟨r',ob',rfl,k2,rfl⟩:=inv k' o' h2;rw [wY] at h3 h4;have h5':E2.m r=some (b,z):=by rw [<-R2.m r ob k1];exact h5
  have h6':E2.m r'=some (b,z'):=by rw [<-R2.m r' ob' k2];exact h6
  rw [g3.inj r r' ob ob' b z z' k1 k2 h3 h4 h5' h6']
 ·have ho':aK (yR σ os) k=some o:=by rw [<-hE];exact ho
  obtain ⟨r,rfl⟩:=pV ho';have k1:=tJ hi r os;have ho2:look (σ r) (yR σ os)=some o:=ho';rw [k1] at ho2;cases hl:look r os with
  | none=>rw [hl] at ho2;cases ho2
  | some ob =>
    rw [hl] at ho2;cases ho2;obtain ⟨o2,p1,p2,p3⟩:=g4.ob r ob hl;refine ⟨qZ σ o2,by rw [R2.hp,p1];rfl,U8 σ p2,?_⟩;rcases p3 with rfl | p3
    ·exact .inl rfl
    ·exact .inr ((R2.m r o2 p1).trans p3)
 ·exact (g5.mb k (X6 hi R2 g2 rfl hk)).imp (JM R1) id
def sw:List (Nat×Nat)->Nat->Nat
 | [],r=>r
 | (a,b)::l,r=>sw l (if r=a then b else if r=b then a else r)
def ws:List (Nat×Nat)->Nat->Nat
 | [],r=>r
 | (a,b)::l,r=>let k:=ws l r;if k=a then b else if k=b then a else k
theorem adH:∀(l:List (Nat×Nat)) (r:Nat),ws l (sw l r)=r
 | [],r=>rfl
 | (a,b)::l,r=>by
   rw [sw,ws,adH l];by_cases h1:r=a
   ·subst h1;simp only [if_true];by_cases h3:b=r<;>simp [h3]
   ·by_cases h2:r=b
    ·subst h2;simp [h1]
    ·simp [h1,h2]
theorem abg {P:Program} {GL:Nat->Option (List DV)} {f:FuncId} {args:List AV} {os:List (Nat×AO)} {v:AV} {us:List (Nat×AO)} (l:List (Nat×Nat)) (h:fZ P GL f args os v us):fZ P GL f (wX (sw l) args) (yR (sw l) os) (jZ (sw l) v) (yR (sw l) us):=X7 h (sw l) (ws l) (adH l)
def old (tl:List (Nat×Nat)) (r:Nat):Nat:=match look r tl with | some k=>k | none=>r
def okR (tl:List (Nat×Nat)) (hp2:List (Nat×AO)) (rs:List Nat):Bool:=rs.all fun r=>(look r tl).isSome&&(look r hp2).isSome
section
variable {tl:List (Nat×Nat)} {hp1:Nat->Option AO} {hp2:List (Nat×AO)}
theorem X8 {rs:List Nat} (h:okR tl hp2 rs=true) {r:Nat} (hr:r∈rs):look r tl=some (old tl r)/\(aK hp2 r).isSome=true:=by
 have:=List.all_eq_true.1 h r hr;rw [Bool.and_eq_true] at this;refine ⟨?_,this.2⟩;unfold old;cases hl:look r tl with
 | none=>rw [hl] at this;cases this.1
 | some k=>rfl
mutual
theorem RU:∀(v:AV),okR tl hp2 v.refs=true->eY (fun r=>look r tl) hp1 (aK hp2) v (jZ (old tl) v)
 | .d x,_=>by rw [jZ,eY];exact ⟨x,.inl rfl,.inl rfl⟩
 | .ptr r o,h=>by
   have:=X8 h (by rw [AV.refs];exact List.mem_singleton.2 rfl);rw [jZ,eY];exact ⟨_,this.1,this.2,rfl⟩
 | .sl r o n c,h=>by
   have:=X8 h (by rw [AV.refs];exact List.mem_singleton.2 rfl);rw [jZ,eY];exact ⟨this.2,.inl ⟨_,this.1,rfl⟩⟩
 | .dptr cs o,_=>by rw [jZ,eY]
 | .agg cs,h=>by rw [jZ,eY];exact ⟨_,rfl,yu cs (by rw [AV.refs] at h;exact h)⟩
 | .tup cs,h=>by rw [jZ,eY];exact ⟨_,rfl,yu cs (by rw [AV.refs] at h;exact h)⟩
 | .clo f cs,h=>by rw [jZ,eY];exact ⟨_,rfl,yu cs (by rw [AV.refs] at h;exact h)⟩
 | .undef,_=>by rw [jZ,eY]
 | .ab,_=>by rw [jZ,eY]
 | .junk,_=>by rw [jZ,eY];trivial
theorem yu:∀(vs:List AV),okR tl hp2 (AV.refs.refsL vs)=true->gJ (fun r=>look r tl) hp1 (aK hp2) vs (wX (old tl) vs)
 | [],_=>by rw [wX,gJ]
 | v::vs,h=>by
   rw [AV.refs.refsL] at h;unfold okR at h;rw [List.all_append,Bool.and_eq_true] at h;rw [wX,gJ];exact ⟨_,_,rfl,RU v h.1,yu vs h.2⟩
end
end
def ObO (hp1:List (Nat×AO)) (tl:List (Nat×Nat)) (hp2:List (Nat×AO)):List (Nat×AO)->Prop
 | []=>True
 | (r,o)::l=>(match o with | .dead=>True | o=>(look r tl).isSome=true/\look (old tl r) hp1=some (qZ (old tl) o)/\okR tl hp2 (wV o)=true)/\ObO hp1 tl hp2 l
def X9 (tl:List (Nat×Nat)):List (Nat×AO)->Bool
 | []=>true
 | (r,o)::l=>(!o.mutB||l.all fun p => !p.2.mutB||(look r tl != look p.1 tl)||(r==p.1))&&X9 tl l
theorem RV {tl:List (Nat×Nat)}:∀ {l:List (Nat×AO)},X9 tl l=true->∀r o r' o',(r,o)∈l->(r',o')∈l->o.mutB=true->o'.mutB=true->look r tl=look r' tl->r=r'
 | [],_,r,o,r',o',h,_,_,_,_=>by cases h
 | (k,x)::l,hi,r,o,r',o',h,h',hm,hm',he=>by
   rw [X9,Bool.and_eq_true] at hi;have key:∀q y,(q,y)∈l->x.mutB=true->y.mutB=true->look k tl=look q tl->k=q:=fun q y hq hx hy e=>by
    have:=hi.1;rw [hx] at this;simp only [Bool.not_true,Bool.false_or,List.all_eq_true] at this;have:=this (q,y) hq;simpa [hy,e] using this
   rcases List.mem_cons.1 h with e1 | h
   ·cases e1;rcases List.mem_cons.1 h' with e2 | h'
    ·cases e2;rfl
    ·exact key r' o' h' hm hm' he
   ·rcases List.mem_cons.1 h' with e2 | h'
    ·cases e2;exact (key r o h hm' hm he.symm).symm
    ·exact RV hi.2 r o r' o' h h' hm hm' he
theorem RX {hp1:List (Nat×AO)} {tl:List (Nat×Nat)} {hp2:List (Nat×AO)}:∀ {l:List (Nat×AO)},ObO hp1 tl hp2 l->∀r o,(r,o)∈l->o ≠ .dead->(look r tl).isSome=true/\look (old tl r) hp1=some (qZ (old tl) o)/\okR tl hp2 (wV o)=true
 | [],_,r,o,hx,_=>by cases hx
 | (t,v)::l,h,r,o,hx,hd=>by
   rcases List.mem_cons.1 hx with e | hx
   ·cases e;have:=h.1;cases v with
    | dead=>exact (hd rfl).elim
    | _=>exact this
   ·exact RX h.2 r o hx hd
theorem abh {hp1 hp2:List (Nat×AO)} {tl:List (Nat×Nat)} (hi:X9 tl hp2=true) (ho:ObO hp1 tl hp2 hp2):JE (fun r=>look r tl) (aK hp1) (aK hp2):=by
 refine ⟨fun r o h => ?_,fun r r' o o' k h h' hm hm' e e'=>RV hi r o r' o' (aU h) (aU h') hm hm' (e.trans e'.symm)⟩;have hk:=RX ho r o (aU h);unfold rJ;dsimp only;cases o with
 | dead=>cases look r tl<;>trivial
 | data e s cs wr =>
   obtain ⟨k1,k2,k3⟩:=hk (by simp);unfold old at k2;cases hl:look r tl with
   | none=>rw [hl] at k1;cases k1
   | some k =>
     rw [hl] at k2;exact ⟨wr,cs,k2,.inl rfl,id,.inl⟩
 | mix cs =>
   obtain ⟨k1,k2,k3⟩:=hk (by simp);have k2':=k2;unfold old at k2;cases hl:look r tl with
   | none=>rw [hl] at k1;cases k1
   | some k =>
     rw [hl] at k2;exact ⟨_,k2,yu cs k3⟩
 | mp kk ks vs =>
   obtain ⟨k1,k2,k3⟩:=hk (by simp);have k2':=k2;unfold old at k2;cases hl:look r tl with
   | none=>rw [hl] at k1;cases k1
   | some k =>
     rw [hl] at k2;exact ⟨_,k2,yu vs k3⟩
theorem qE {os hp us:List (Nat×AO)} {v x:AV} (tl:List (Nat×Nat)) (hk:(os.all fun p=>look p.1 tl==some p.1&&(look p.1 us).isSome)=true) (hi:X9 tl us=true) (ho:ObO hp tl us us) (hv:x=jZ (old tl) v) (hr:okR tl us v.refs=true):Back os hp us v x :=
 ⟨fun r=>look r tl,fun r o h=>by
   have:=List.all_eq_true.1 hk _ (aU h);simp only [Bool.and_eq_true,beq_iff_eq] at this;exact this,abh hi ho,by rw [hv];exact RU v hr⟩
section
variable {p:Pr} (hp:p=real)
include hp
theorem vS {a b:Nat} (h:a=b):p.neq a b=true:=by rw [hp];exact decide_eq_true h
theorem IW {n m b:Nat} (h1:(n+m)*b<=140737488355328) (h2:n+m<=maxLen):p.fit n m b=true:=by rw [hp];exact decide_eq_true ⟨h1,h2⟩
theorem wZ {cs:List DV}:p.len cs=cs.length:=by rw [hp];rfl
theorem FP {a b:List DV}:p.app a b=a++b:=by rw [hp];rfl
end
section
variable {p:Pr} (hp:p=real)
include hp
end
theorem abj {hp1 hp2:Nat->Option AO} {x y:AV} (h:y=x) (hp:x.plain=true):eY (fun _=>none) hp1 hp2 x y:=by subst h;exact MB y hp
theorem aeX {hp1:Nat->Option AO} {r e sz off n:Nat} {c:Option Nat} {cs cells:List DV} {wr:Bool} (h:hp1 r=some (.data e sz cs wr)) (hc:(cs.drop off).take (n*sz)=cells):eY (fun _=>none) hp1 (aK []) (.d (.dl cells n none)) (.sl r off n c):=by
 rw [eY];refine ⟨_,?_,.inl rfl⟩;unfold XO;dsimp only;rw [h];exact ⟨fun r' hr=>(by cases hr),none,by rw [hc],.inr rfl⟩
section
variable {p:Pr} (hp:p=real)
include hp
end
theorem MH {α:Type} (l new:List α):splice l 0 new=new++l.drop new.length:=by cases l<;>rfl
section
variable {p:Pr} (hp:p=real)
include hp
theorem vT {a b:Nat} (h:a<=b):p.nle a b=true:=by rw [hp];exact decide_eq_true h
theorem tK {cs:List DV} {n:Nat} (h:cs.length<=n):p.cut cs 0 n=cs:=by
 rw [hp];show (cs.drop 0).take n=cs;rw [List.drop_zero,List.take_of_length_le h]
theorem Ya {cs new:List DV} {o:Nat}:p.spl cs o new=splice cs o new:=by rw [hp];rfl
theorem JO {a b:Nat}:p.nmin a b=min a b:=by rw [hp];rfl
theorem aiX {n:Nat} {l:List DV}:p.rep n l=nO n l:=by rw [hp];rfl
end
section
variable {θ:Nat->Option Nat} {hp1 hp2:Nat->Option AO}
theorem abk {y x:AV} {ys xs:List AV} (h:eY θ hp1 hp2 y x) (k:gJ θ hp1 hp2 ys xs):gJ θ hp1 hp2 (y::ys) (x::xs):=by rw [gJ];exact ⟨x,xs,rfl,h,k⟩
theorem aeY:gJ θ hp1 hp2 [] []:=by rw [gJ]
theorem aeZ {ys xs:List AV} (k:gJ θ hp1 hp2 ys xs):eY θ hp1 hp2 (.tup ys) (.tup xs):=by rw [eY];exact ⟨xs,rfl,k⟩
theorem ae0 {ys xs:List AV} (k:gJ θ hp1 hp2 ys xs):eY θ hp1 hp2 (.agg ys) (.agg xs):=by rw [eY];exact ⟨xs,rfl,k⟩
end
def gV {α:Type} (k:Nat):List (Nat×α)->Option α
 | []=>none
 | (i,x)::l=>match decide (i=k) with
   | true=>some x
   | false=>gV k l
theorem gW {α:Type} (k:Nat):∀l:List (Nat×α),gV k l=look k l
 | []=>rfl
 | (i,x)::l=>by
   rw [gV,look,gW k l];split
   ·rename_i h;rw [if_pos (of_decide_eq_true h)]
   ·rename_i h;rw [if_neg (of_decide_eq_false h)]
def PO (s:SL) (r:Nat):Option AO:=gV r s.hp
theorem BL (s:SL):PO s=s.rd:=funext fun r=>gW r s.hp
def evQ (GL:Nat->Option (List DV)) (s:SL):Operand->AV
 | .tmp t=>match gV t s.tm with | some x=>x | none => .junk
 | .const v=>y5 v
 | .global g=>match GL g with | some cells => .dptr cells 0 | none => .junk
 | .func f=>match Nat.blt f 1048576 with | true => .clo f [] | false => .junk
theorem PS (GL:Nat->Option (List DV)) (s:SL):evQ GL s=s.ev GL:=by
 funext x;cases x with
 | tmp t=>show (match gV t s.tm with | some x=>x | none => .junk)=s.get t;rw [gW];rfl
 | _=>rfl
def U9 {α:Type}:Nat->List α->List (Nat×α)
 | _,[]=>[]
 | n,x::l=>(n,x)::U9 (n+1) l
theorem FQ {α:Type}:∀(n:Nat) (l:List α),(U9 n l).map (·.1)=List.range' n l.length
 | _,[]=>rfl
 | n,x::l=>by rw [U9,List.map_cons,FQ (n+1) l,List.length_cons,List.range'_succ]
theorem FU {α:Type}:∀(n:Nat) (l:List α) (x:Nat×α),x∈U9 n l->n<=x.1/\l[x.1-n]? = some x.2
 | _,[],x,h=>by cases h
 | n,y::l,x,h=>by
   rcases List.mem_cons.1 h with rfl | h
   ·simp
   ·obtain ⟨h1,h2⟩:=FU (n+1) l x h;refine ⟨by omega,?_⟩;rw [show x.1-n=(x.1-(n+1))+1 from by omega,List.getElem?_cons_succ];exact h2
def ae1 (N:Nat):Option Nat->Bool
 | none=>true
 | some t=>decide (t<N)
theorem RY (N:Nat) (d:Option Nat):ae1 N d=UU N d:=by
 cases d with
 | none=>rfl
 | some t=>rfl
def reach (rd:Nat->Option AO):Nat->List Nat->List Nat->List Nat
 | 0,_,seen=>seen
 | _+1,[],seen=>seen
 | n+1,r::work,seen=>match seen.contains r with
   | true=>reach rd n work seen
   | false=>match rd r with
     | some o=>reach rd n (wV o++work) (r::seen)
     | none=>reach rd n work seen
def yV (rd:Nat->Option AO):List Nat->List (Nat×AO)
 | []=>[]
 | r::l=>match rd r with
   | some o=>(r,o)::yV rd l
   | none=>yV rd l
theorem yw {rd:Nat->Option AO}:∀ {l:List Nat} {x:Nat×AO},x∈yV rd l->rd x.1=some x.2
 | [],x,h=>by cases h
 | r::l,x,h=>by
   rw [yV] at h;split at h
   ·rename_i o ho;rcases List.mem_cons.1 h with rfl | h
    ·exact ho
    ·exact yw h
   ·exact yw h
theorem FW {rd:Nat->Option AO} {l:List Nat} {r:Nat} {o:AO} (h:look r (yV rd l)=some o):rd r=some o:=yw (aU h)
def dedup:List (Nat×AV)->Nat->List (Nat×AV)
 | [],_=>[]
 | (t,x)::l,m=>match Nat.testBit m t with
   | true=>dedup l m
   | false=>(t,x)::dedup l (m ||| 1 <<< t)
theorem abl (m t k:Nat):Nat.testBit (m ||| 1 <<< t) k=(Nat.testBit m k||decide (k=t)):=by
 rw [Nat.testBit_or,Nat.one_shiftLeft,Nat.testBit_two_pow];by_cases h:k=t
 ·subst h;simp
 ·simp [h,Ne.symm h]
theorem BM:∀(l:List (Nat×AV)) (m t:Nat),Nat.testBit m t=true->look t (dedup l m)=none
 | [],m,t,h=>rfl
 | (k,x)::l,m,t,h=>by
   rw [dedup];split
   ·exact BM l m t h
   ·rename_i hk;rw [look,if_neg (fun e=>by subst e;rw [h] at hk;cases hk)];exact BM l _ t (by rw [abl,h];rfl)
theorem y9:∀ {l:List (Nat×AV)} {m t:Nat} {x:AV},look t (dedup l m)=some x->look t l=some x
 | [],m,t,x,h=>by cases h
 | (k,y)::l,m,t,x,h=>by
   rw [dedup] at h;split at h
   ·rename_i hk;rw [look];split
    ·rename_i e;subst e;rw [BM l m k hk] at h;cases h
    ·exact y9 h
   ·rw [look] at h ⊢;split at h
    ·rename_i e;rw [if_pos e];exact h
    ·rename_i e;rw [if_neg e];exact y9 h
def ED (hp:List (Nat×AO)):Bool:=hp.all fun x=>rM hp (wV x.2)
def gcS (ks:List Nat) (s:SL):SL :=
 ⟨s.n,dedup s.tm 0,yV (PO s) (reach (PO s) 1000 (ks++(dedup s.tm 0).flatMap fun x=>x.2.refs) [])⟩
def abm (ks:List Nat) (s:SL):Bool:=ED s.hp&&((s.tm.all fun x=>rM s.hp x.2.refs)&&ks.all fun r=>(look r s.hp).isSome)
section
variable {P:Program} {GL:Nat->Option (List DV)} {q:Nat->Bool} {N:Nat} {hp0:Nat->Option AO}
theorem FX {E0 E:En} {w0 w:World} {os:List (Nat×AO)} (hA:iE E0 w0 E w) (hos:∀r o,look r os=some o->E.hp r=some o) (hk:∀r,(E0.hp r).isSome=true->(look r os).isSome=true):iE E0 w0 (mG E os) w:=by
 refine ⟨⟨hA.ext.sub,fun r o ho => ?_⟩,⟨hA.fr.os,hA.fr.tape,hA.fr.output,hA.fr.size,hA.fr.blk,fun k ⟨r,o,z,h1,h2,h3⟩=>hA.fr.mb k ⟨r,o,z,hos r o h1,h2,h3⟩,hA.fr.xs,hA.fr.xk⟩⟩;obtain ⟨o',h1,h2,h3⟩:=hA.ext.ob r o ho;have:=hk r (by rw [ho];rfl);cases hl:look r os with
 | none=>rw [hl] at this;cases this
 | some o2 =>
   have h4:=hos r o2 hl;rw [h1] at h4;cases h4;exact ⟨o',hl,h2,h3⟩
theorem IX {E:En} {os:List (Nat×AO)} (hos:∀r o,look r os=some o->E.hp r=some o) {x:AV} {v:Value} (h:rM os x.refs=true) (hr:Rel E x v):Rel (mG E os) x v :=
 Me (E:=E) (E':=mG E os) rfl rfl x v (Af hos h) hr
theorem MI {ks:List Nat} {s:SL} (hk:∀r,(hp0 r).isSome=true->r∈ks) (h:abm ks (gcS ks s)=true):vP GL N hp0 s.S (gcS ks s).S:=fun E0 w0 E a w he hS hA=>by
 unfold abm at h;simp only [Bool.and_eq_true] at h;obtain ⟨h1,h2,h3⟩:=h;have hos:∀r o,look r (gcS ks s).hp=some o->E.hp r=some o:=fun r o ho=>by
  rw [hS.hp];exact FW (rd:=s.rd) (by rw [<-BL];exact ho)
 refine ⟨mG E (gcS ks s).hp,⟨hS.h,rfl,Ag hos (fun r o ho=>List.all_eq_true.1 h1 _ (aU ho)) hS.sim,hS.n,hS.df,fun t => ?_⟩,FX hA hos fun r hr => ?_⟩
 ·show Rel _ (match look t (gcS ks s).tm with | some x=>x | none => .junk) _;cases hl:look t (gcS ks s).tm with
  | none=>simp only;rw [Rel];trivial
  | some x =>
    have h5:=y9 (l:=s.tm) (m:=0) hl;have h6:=hS.tm t;have h7:s.S.tm t=x:=by show (match look t s.tm with | some x=>x | none => .junk)=x;rw [h5]
    rw [h7] at h6;exact IX hos (List.all_eq_true.1 h2 _ (aU hl)) h6
 ·rw [he] at hr;exact List.all_eq_true.1 h3 r (hk r hr)
theorem Yb (hq:Ov P q) (hdp:30<=P.depth) (hm:P.follows .mixedOrders=true) {id base:Nat} {ops:Array Oper} {draw:Bool} {s s':SL} (hback:draw=true->Fp ops=true) {L:List (Nat×Ef)} (g1:L.map (·.1)=List.range ops.size) (g2:Run P GL q N base ops L s.S s'.S)
 (g5:draw=true->L.Pairwise (fun x y=>x.1∈(qB ops ops.size).getD y.1 []\/∃ox oy,ops[x.1]? = some ox/\ops[y.1]? = some oy/\ox.apart ops oy=true/\UN x.2 y.2=true)):AW P GL N hp0 (.region id ops draw) (fun e1 s1=>e1 = .normal/\s1=s'.S) s.S:=fun E0 w0 E a w h0 hS hA=>by
 have hQ:∀E' a' w',vO GL N E' a' w' s'.S->iE E0 w0 E' w'->(fun (x:Exit) (a':Act) (w':World)=>∃s1 E',(x = .normal/\s1=s'.S)/\vO GL N E' a' w' s1/\iE E0 w0 E' w') .normal a' w':=fun E' a' w' h1 h2=>⟨s'.S,E',⟨rfl,rfl⟩,h1,h2⟩
 cases draw with
 | false =>
   refine wp_region ?_;rw [<-g1];exact O6 (P:=P) (Q:=fun (x:Exit) (a':Act) (w':World)=>∃s1 E',(x = .normal/\s1=s'.S)/\vO GL N E' a' w' s1/\iE E0 w0 E' w') hq hdp hQ L E a w s.S g2 hS hA
 | true =>
   refine wp_region_any hm ?_;have hlen:L.length=ops.size:=by
    have:=congrArg List.length g1;simpa using this
   have:=O7 (P:=P) (Q:=fun (x:Exit) (a':Act) (w':World)=>∃s1 E',(x = .normal/\s1=s'.S)/\vO GL N E' a' w' s1/\iE E0 w0 E' w') hq hdp (hback rfl) hQ ops.size L (Array.replicate ops.size false) E a {w with drawn:=w.drawn+1} s.S hlen
    (fun j hj=>by
      exfalso;rw [Array.getD_eq_getD_getElem?] at hj;rcases Nat.lt_or_ge j ops.size with hlt | hge
      ·rw [Array.getElem?_replicate,if_pos hlt] at hj;simp at hj
      ·rw [Array.getElem?_replicate,if_neg (by omega)] at hj;simp at hj)
    (fun i=>by
      rw [g1,List.mem_range];constructor
      ·exact fun h=>h.2
      ·intro hi;refine ⟨?_,hi⟩;rw [Array.getD_eq_getD_getElem?,Array.getElem?_replicate,if_pos hi];rfl)
    (by rw [g1];exact List.pairwise_lt_range) (g5 rfl) g2 hS.drew hA.drew
   exact this
end
abbrev Yc:=FuncId->List AV->SL->Nat->(AV->List (Nat×AO)->List Nat->Nat->Prop)->Prop
section
variable (p:Pr) (call:Yc) (T:Ty) (GL:Nat->Option (List DV)) (q:Nat->Bool) (N base:Nat) (ops:Array Oper) (draw:Bool) (anc:List (List Nat))
def Va (K:SL->Nat->Prop):List (Nat×Oper)->SL->List (Nat×Ef)->Nat->Prop
 | [],s,_,F=>K s F
 | (i,o)::is,s,log,F=>match ae1 N o.dst with
 | false=>False
 | true=>match oz ops s o with
   | none=>False
   | some b=>match b with
     | true=>match rF (evQ GL s) o with
       | some (f,args)=>call f args s F (fun v us rds F'=>match !draw||qC ops (anc.getD i []) o ⟨v,us,rds,[],lT (PO s) us⟩ log with
         | true=>Va K is (s.app o.dst v us) ((i,⟨v,us,rds,[],lT (PO s) us⟩)::log) F'
         | false=>False)
       | none=>match abe p T q (PO s) (base+i) o (evQ GL s) with
         | some f=>match !draw||qC ops (anc.getD i []) o ⟨f.v,f.upd,f.rds,f.lvs,lT (PO s) f.upd⟩ log with
           | true=>Va K is (s.app o.dst f.v f.upd) ((i,⟨f.v,f.upd,f.rds,f.lvs,lT (PO s) f.upd⟩)::log) F
           | false=>False
         | none=>False
     | false=>match !draw||qC ops (anc.getD i []) o pG log with
       | true=>Va K is (s.put o.dst .undef) ((i,pG)::log) F
       | false=>False
end
def MJ:Exit->Bool
 | .normal=>true
 | .ret=>true
 | _=>false
abbrev akP:=Nat->List Nat->Code->(Exit->SL->Nat->Prop)->SL->Nat->Prop
def Yd (fn:Func) (args:List AV) (os:List (Nat×AO)):Bool:=decide (args.length<=fn.ntmps)&&(ED os&&rM os (AV.refs.refsL args))
def backOk (s:SL) (os us:List (Nat×AO)) (x:AV):Bool:=ED us&&(rM us x.refs&&((os.all fun y=>(look y.1 us).isSome)&&us.all fun y=>(PO s y.1).isNone||(look y.1 os).isSome))
def aiY (T:Ty) (fn:Func) (s:SL) (os:List (Nat×AO)) (K:AV->List (Nat×AO)->List Nat->Nat->Prop) (e:Exit) (s':SL) (F:Nat):Prop :=
 match MJ e with
 | false=>False
 | true=>match BI T fn s' with
   | none=>False
   | some x=>(fun us=>match backOk s os us x with
     | false=>False
     | true=>K x us (us.map (·.1)) F) (yV (PO s') (reach (PO s') 1000 (x.refs++os.map (·.1)) []))
abbrev Vb:=FuncId->List AV->(Nat->Option AO)->Option (AV×List (Nat×AO)×List Nat)
abbrev DoK:=FuncId->List AV->List Nat->AV->List (Nat×AO)->(Nat->Option AO)->Prop
def Ye (D:DoK) (con:Vb) (tab:FuncId->Option Func) (T:Ty) (rec:akP):Yc:=fun f args s F K =>
 match con f args (PO s) with
 | some (v,us,rds)=>K v us rds F
 | none=>match tab f with
   | none=>∃v us rds,D f args rds v us s.rd/\K v us rds F
   | some fn=>match fn.body with
     | none=>False
     | some c=>(fun os=>match Yd fn args os with
       | false=>False
       | true=>rec fn.ntmps (os.map (·.1)) c (fun e s' F'=>aiY T fn s os K e s' F') ⟨fn.ntmps,iT 0 args,os⟩ F) (yV (PO s) (reach (PO s) 1000 (AV.refs.refsL args) []))
section
variable (p:Pr) (D:DoK) (con:Vb) (tab:FuncId->Option Func) (T:Ty) (GL:Nat->Option (List DV)) (q:Nat->Bool)
def iU:Nat->Nat->List Nat->Code->(Exit->SL->Nat->Prop)->SL->Nat->Prop
 | 0,_,_,_,_,_,_=>False
 | n+1,N,ks,c,Q,s,F=>match c with
   | .skip=>Q .normal s F
   | .label _=>Q .normal s F
   | .exit id=>Q (.exit id) s F
   | .ret=>Q .ret s F
   | .region _ ops draw=>match !draw||Fp ops with
     | true=>Va p (Ye D con tab T (fun N ks c Q s F=>iU n N ks c Q s F)) T GL q N F ops draw (if draw then qB ops ops.size else []) (fun s' F'=>Q .normal s' F') (U9 0 ops.toList) s [] (F+ops.size)
     | false=>False
   | .seq a b=>iU n N ks a (fun e s' F'=>match e with
     | .normal=>match decide (F' / 256=F / 256) with
       | true=>iU n N ks b Q s' F'
       | false=>match abm ks (gcS ks s') with
         | true=>iU n N ks b Q (gcS ks s') F'
         | false=>False
     | e=>Q e s' F') s F
   | .cond x a b=>match evQ GL s x with
     | .d (.val (.bool t))=>match t with
       | true=>iU n N ks a Q s F
       | false=>iU n N ks b Q s F
     | _=>False
   | .block id a=>iU n N ks a (fun e s' F'=>O8 id (fun e s'=>Q e s' F') e s') s F
   | .scope a=>iU n N ks a (fun e s' F'=>aa9 (fun e s'=>Q e s' F') e s') s F
   | .loop a=>iU n N ks a (fun e s' F'=>match e with
     | .normal=>match decide (F' / 256=F / 256) with
       | true=>iU n N ks (.loop a) Q s' F'
       | false=>match abm ks (gcS ks s') with
         | true=>iU n N ks (.loop a) Q (gcS ks s') F'
         | false=>False
     | e=>Q e s' F') s F
   | _=>False
end
section
variable {P:Program} {GL:Nat->Option (List DV)} {q:Nat->Bool}
def To (P:Program) (GL:Nat->Option (List DV)) (N:Nat) (hp0:Nat->Option AO) (c:Code) (s:SL) (e:Exit) (s':SL):Prop :=
 AW P GL N hp0 c (fun e1 s1=>e1=e/\s1=s'.S) s.S
theorem Aj {N base:Nat} {ops:Array Oper} {draw:Bool} {anc:List (List Nat)} (hanc:draw=true->anc=qB ops ops.size) {call:Yc}
 (hcall:∀f args s F K,call f args s F K->∃v us rds F',DX P GL f args rds v us s.rd/\K v us rds F') {K:SL->Nat->Prop} :
 ∀(is:List (Nat×Oper)) (s:SL) (log:List (Nat×Ef)) (F:Nat),(∀x∈is,ops[x.1]? = some x.2)->Va real call (aO P) GL q N base ops draw anc K is s log F->lU P GL q N base ops draw (fun s'=>∃F',K s' F') (is.map (·.1)) s log
 | [],s,log,F,_,h=>⟨[],s,rfl,rfl,⟨F,h⟩,fun _ y hy=>(by cases hy),fun _=>List.Pairwise.nil⟩
 | (i,o)::is,s,log,F,hall,h=>by
   have ho:ops[i]? = some o:=hall (i,o) List.mem_cons_self;have hall':∀x∈is,ops[x.1]? = some x.2:=fun x hx=>hall x (List.mem_cons_of_mem _ hx);rw [List.map_cons];unfold Va at h;simp only [PS,BL,RY] at h
   ·skip
    split at h
    ·exact h.elim
    ·rename_i hdst;have hd:∀t,o.dst=some t->t<N:=fun t e=>by
      unfold UU at hdst;rw [e] at hdst;simpa using hdst
     split at h
     ·exact h.elim
     ·rename_i b hb;cases b with
      | true =>
        try simp only at h
        split at h
        ·rename_i f args hc;obtain ⟨v,us,rds,F',k2,k4⟩:=hcall _ _ _ _ _ h;split at k4
         ·rename_i k3;refine jG hanc ho (SL.app_S s o.dst ⟨v,us,rds,[],lT s.rd us⟩) ?_ (pU k3) (Aj hanc hcall is _ _ _ hall' k4);unfold kD;rw [ho];refine ⟨hd,.inl ⟨hb,rfl,?_⟩⟩;rw [SL.ev_S,hc];exact ⟨rfl,k2⟩
         ·exact k4.elim
        ·rename_i hc;split at h
         ·rename_i f hf;rw [IQ] at hf;split at h
          ·rename_i hn;refine jG hanc ho (SL.app_S s o.dst ⟨f.v,f.upd,f.rds,f.lvs,lT s.rd f.upd⟩) ?_ (pU hn) (Aj hanc hcall is _ _ _ hall' h);unfold kD;rw [ho];refine ⟨hd,.inl ⟨hb,rfl,?_⟩⟩;rw [SL.ev_S,hc];exact ⟨f,hf,rfl,rfl,rfl,rfl⟩
          ·exact h.elim
         ·exact h.elim
      | false =>
        try simp only at h
        split at h
        ·rename_i hn;refine jG hanc ho (SL.put_S s o.dst) ?_ (pU hn) (Aj hanc hcall is _ _ _ hall' h);unfold kD;rw [ho];exact ⟨hd,.inr ⟨hb,rfl⟩⟩
        ·exact h.elim
theorem DR {f:FuncId} {fn:Func} {c:Code} (hf:P.funcs[f]? = some fn) (hb:fn.body=some c) {args:List AV} (hn:args.length<=fn.ntmps) {os us:List (Nat×AO)} {x:AV} {e:Exit} {s':SL}
 (h:To P GL fn.ntmps (aK os) c ⟨fn.ntmps,iT 0 args,os⟩ e s') (he:MJ e=true) (hx:BI (aO P) fn s'=some x)
 (hus:∀r o,look r us=some o->s'.rd r=some o) (hcl:ED us=true) (hxr:rM us x.refs=true) (hin:(os.all fun y=>(look y.1 us).isSome)=true):fZ P GL f args os x us:=fun E w vs hE hw hs hrel=>by
 have hlen:=fH _ _ hrel;have hvs:vs.size=args.length:=by rw [<-Array.length_toList];exact hlen
 refine calls_of_wp hf hb ?_;have hS:vO GL fn.ntmps E {tmps:=vs++Array.replicate (fn.ntmps-vs.size) undef,defers:=[]} w (⟨fn.ntmps,iT 0 args,os⟩:SL).S:=by
  refine ⟨hw,hE,hs,?_,rfl,fun t => ?_⟩
  ·simp only [Array.size_append,Array.size_replicate];omega
  ·show Rel _ (match look t (iT 0 args) with | some x=>x | none => .junk) _;rw [lV];simp only [Nat.zero_le,if_true,Nat.sub_zero];cases hx:args[t]? with
   | none=>simp only;rw [Rel];trivial
   | some x =>
     obtain ⟨u,h1,h2⟩:=qp _ _ t x hrel hx;have ht:t<vs.size:=by
      have:=(List.getElem?_eq_some_iff.1 h1).1;simpa using this
     rw [Array.getD_eq_getD_getElem?,Array.getElem?_append_left ht];have h1':vs[t]? = some u:=by simpa using h1
     rw [h1'];exact h2
 refine wp_mono (h E w E _ w hE hS (iE.refl _ _)) fun e1 a' w' ⟨s1,E',⟨h1,h2⟩,h3,h4⟩ => ?_;subst h1 h2;have hos:∀r o,look r us=some o->E'.hp r=some o:=fun r o ho=>by rw [h3.hp];exact hus r o ho
 have fin:a'.defers=[]/\∃y,(results fn a'.tmps).run P w' = .ok y w'/\∃u E'',Ending.returned y = .returned u/\w'.heap=E''.h/\E''.hp=aK us/\eX GL E''/\Ext E E''/\mX E w E'' w'/\Rel E'' x u:=by
  obtain ⟨y,g1,g2⟩:=FH h3 hx;have hA:=FX h4 hos (fun r hr=>by
   rw [hE] at hr;have hr':(look r os).isSome=true:=hr;cases hl:look r os with
   | none=>rw [hl] at hr';cases hr'
   | some o=>exact List.all_eq_true.1 hin _ (aU hl))
  exact ⟨h3.df,y,g1,y,mG E' us,rfl,h3.h,rfl,Ag hos (fun r o ho=>List.all_eq_true.1 hcl _ (aU ho)) h3.sim,hA.ext,hA.fr,IX hos hxr g2⟩
 cases e1 with
 | normal=>exact fin
 | ret=>exact fin
 | exit i=>cases he
 | goto l=>cases he
 | panic ch=>cases he
 | outgrown=>cases he
def Rounds (P:Program) (GL:Nat->Option (List DV)) (N:Nat) (hp0:Nat->Option AO) (c:Code) (e:Exit) (s2:SL):Nat->SL->Prop
 | 0,s=>e ≠ .normal/\To P GL N hp0 c s e s2
 | m+1,s=>∃s1 s1',To P GL N hp0 c s .normal s1/\vP GL N hp0 s1.S s1'.S/\Rounds P GL N hp0 c e s2 m s1'
theorem EF {N:Nat} {hp0:Nat->Option AO} {c:Code} {e:Exit} {s s2:SL} {m:Nat} (h:Rounds P GL N hp0 c e s2 m s):To P GL N hp0 (.loop c) s e s2:=fun E0 w0 E a w he hS hA=>by
 refine XP (fun n a w=>∃s E,Rounds P GL N hp0 c e s2 n s/\vO GL N E a w s.S/\iE E0 w0 E w) ?_ ⟨s,E,h,hS,hA⟩;rintro n a w ⟨s,E,g1,g2,g3⟩;cases n with
 | zero =>
   obtain ⟨k1,k2⟩:=g1;refine wp_mono (k2 E0 w0 E a w he g2 g3) fun e1 a' w' ⟨s1,E',⟨h1,h2⟩,h3,h4⟩ => ?_;subst h1 h2;cases e1 with
   | normal=>exact (k1 rfl).elim
   | _=>exact ⟨s2.S,E',⟨rfl,rfl⟩,h3,h4⟩
 | succ n =>
   obtain ⟨s1,s1',k1,k2,k3⟩:=g1;refine wp_mono (k1 E0 w0 E a w he g2 g3) fun e1 a' w' ⟨s3,E',⟨h1,h2⟩,h3,h4⟩ => ?_;subst h1 h2;obtain ⟨E'',q1,q2⟩:=k2 E0 w0 E' a' w' he h3 h4;exact ⟨n,Nat.lt_succ_self n,s1',E'',k3,q1,q2⟩
variable {D:DoK} {con:Vb} {tab:FuncId->Option Func}
def Sound (P:Program) (GL:Nat->Option (List DV)) (q:Nat->Bool) (D:DoK) (con:Vb) (tab:FuncId->Option Func) (n:Nat):Prop :=
 ∀(N:Nat) (ks:List Nat) (hp0:Nat->Option AO) (c:Code) (Q:Exit->SL->Nat->Prop) (s:SL) (F:Nat),(∀r,(hp0 r).isSome=true->r∈ks)->iU real D con tab (aO P) GL q n N ks c Q s F->∃e s' F',Q e s' F'/\To P GL N hp0 c s e s'
theorem MK (hD:∀f args rds v us rd,D f args rds v us rd->DX P GL f args rds v us rd) (hcon:∀f args rd v us rds,con f args rd=some (v,us,rds)->qA P f=true/\Does P GL f args rds v us rd) (htab:∀f fn,tab f=some fn->P.funcs[f]? = some fn/\qA P f=true) {n:Nat} (hn:Sound P GL q D con tab n) (f:FuncId) (args:List AV) (s:SL) (F:Nat) (K:AV->List (Nat×AO)->List Nat->Nat->Prop)
 (h:Ye D con tab (aO P) (iU real D con tab (aO P) GL q n) f args s F K):∃v us rds F',DX P GL f args rds v us s.rd/\K v us rds F':=by
 unfold Ye at h;simp only [BL] at h;split at h
 ·rename_i v us rds hc;exact ⟨v,us,rds,F,.inl (hcon _ _ _ _ _ _ hc),h⟩
 split at h
 ·obtain ⟨v,us,rds,h1,h2⟩:=h;exact ⟨v,us,rds,F,hD _ _ _ _ _ _ h1,h2⟩
 ·rename_i fn hfn;obtain ⟨t1,t2⟩:=htab f fn hfn;split at h
  ·exact h.elim
  ·rename_i c hb
   try simp only at h
   generalize hos:yV s.rd (reach s.rd 1000 (AV.refs.refsL args) [])=os at h;split at h
   ·exact h.elim
   ·rename_i hok;unfold Yd at hok;simp only [Bool.and_eq_true,decide_eq_true_eq] at hok;obtain ⟨k1,k2,k3⟩:=hok;obtain ⟨e,s',F',hq,hto⟩:=hn fn.ntmps (os.map (·.1)) (aK os) c _ _ F (fun r hr=>by
     have hr':(look r os).isSome=true:=hr;cases hl:look r os with
     | none=>rw [hl] at hr';cases hr'
     | some o=>exact List.mem_map.2 ⟨_,aU hl,rfl⟩) h
    unfold aiY at hq;split at hq
    ·exact hq.elim
    ·rename_i he;split at hq
     ·exact hq.elim
     ·rename_i x hx;simp only [BL] at hq;generalize hus:yV s'.rd (reach s'.rd 1000 (x.refs++os.map (·.1)) [])=us at hq;split at hq
      ·exact hq.elim
      ·rename_i hbk;unfold backOk at hbk;rw [BL] at hbk;simp only [Bool.and_eq_true] at hbk;obtain ⟨b1,b2,b3,b4⟩:=hbk;refine ⟨x,us,us.map (·.1),F',.inl ⟨t2,?_⟩,hq⟩;have hD:=DR t1 hb k1 hto he hx (us:=us) (fun r o ho=>by rw [<-hus] at ho;exact FW ho) b1 b2 b3;refine qg hD (fun y hy => ?_) k2 k3 (fun y hy=>⟨List.mem_map.2 ⟨y,hy,rfl⟩,?_⟩) b3
       ·refine ⟨?_,yw (by rw [hos];exact hy)⟩;have:=List.all_eq_true.1 b3 y hy;cases hl:look y.1 us with
        | none=>rw [hl] at this;cases this
        | some o=>exact List.mem_map.2 ⟨_,aU hl,rfl⟩
       ·have:=List.all_eq_true.1 b4 y hy;rcases (Bool.or_eq_true _ _).mp this with h1 | h1
        ·exact .inl (by simpa using h1)
        ·exact .inr h1
theorem PU {n:Nat} (ih:∀m,m<n->Sound P GL q D con tab m):∀m,m<n->∀(N:Nat) (ks:List Nat) (hp0:Nat->Option AO) (c:Code) (Q:Exit->SL->Nat->Prop) (s:SL) (F:Nat),(∀r,(hp0 r).isSome=true->r∈ks) ->
 iU real D con tab (aO P) GL q (m+1) N ks (.loop c) Q s F->∃e s' F' k,Q e s' F'/\Rounds P GL N hp0 c e s' k s:=by
 intro m
 induction m with
 | zero =>
   intro hm N ks hp0 c Q s F hk h;rw [iU] at h
   try simp only at h
   obtain ⟨e,s',F',h1,h2⟩:=ih 0 hm N ks hp0 c _ s F hk h;rw [iU] at h;exact h.elim
 | succ m ihm =>
   intro hm N ks hp0 c Q s F hk h;rw [iU] at h
   try simp only at h
   obtain ⟨e,s',F',h1,h2⟩:=ih (m+1) hm N ks hp0 c _ s F hk h;cases e with
   | normal =>
     simp only at h1;split at h1
     ·obtain ⟨e,s2,F2,k,g1,g2⟩:=ihm (by omega) N ks hp0 c Q _ F' hk h1;exact ⟨e,s2,F2,k+1,g1,s',_,h2,vP.refl _,g2⟩
     ·split at h1
      ·rename_i hg;obtain ⟨e,s2,F2,k,g1,g2⟩:=ihm (by omega) N ks hp0 c Q _ F' hk h1;exact ⟨e,s2,F2,k+1,g1,s',_,h2,MI hk hg,g2⟩
      ·exact h1.elim
   | exit i=>exact ⟨_,s',F',0,h1,by simp,h2⟩
   | goto l=>exact ⟨_,s',F',0,h1,by simp,h2⟩
   | ret=>exact ⟨_,s',F',0,h1,by simp,h2⟩
   | panic ch=>exact ⟨_,s',F',0,h1,by simp,h2⟩
   | outgrown=>exact ⟨_,s',F',0,h1,by simp,h2⟩
theorem dX {N:Nat} {hp0:Nat->Option AO} {c:Code} {s s':SL} {e:Exit} (h:To P GL N hp0 c s e s') {Q:Exit->S->Prop} (hq:Q e s'.S):AW P GL N hp0 c Q s.S:=AW.mono h fun e1 s1 ⟨h1,h2⟩=>by rw [h1,h2];exact hq
theorem ML (hq:Ov P q) (hdp:30<=P.depth) (hm:P.follows .mixedOrders=true) (hD:∀f args rds v us rd,D f args rds v us rd->DX P GL f args rds v us rd) (hcon:∀f args rd v us rds,con f args rd=some (v,us,rds)->qA P f=true/\Does P GL f args rds v us rd) (htab:∀f fn,tab f=some fn->P.funcs[f]? = some fn/\qA P f=true) (n:Nat):Sound P GL q D con tab n:=by
 induction n using Nat.strongRecOn with
 | _ n ih =>
   intro N ks hp0 c Q s F hk h;cases n with
   | zero=>rw [iU] at h;exact h.elim
   | succ n =>
     have ihn:=ih n (Nat.lt_succ_self n);cases c with
     | skip=>rw [iU] at h;exact ⟨_,s,F,h,JF ⟨rfl,rfl⟩⟩
     | label l=>rw [iU] at h;exact ⟨_,s,F,h,Fv ⟨rfl,rfl⟩⟩
     | exit id=>rw [iU] at h;exact ⟨_,s,F,h,JG ⟨rfl,rfl⟩⟩
     | ret=>rw [iU] at h;exact ⟨_,s,F,h,O9 ⟨rfl,rfl⟩⟩
     | region id ops draw =>
       rw [iU] at h
       try simp only at h
       split at h
       ·rename_i hb;obtain ⟨L,s',g1,g2,⟨F',g3⟩,g4,g5⟩:=Aj (fun hd=>by rw [hd];rfl) (MK hD hcon htab ihn) _ _ _ _ (fun x hx=>by have:=(FU 0 ops.toList x hx).2;rw [Nat.sub_zero,Array.getElem?_toList] at this;exact this) h;exact ⟨_,s',F',g3,Yb hq hdp hm (pU hb) (by rw [g1,FQ,List.range_eq_range',Array.length_toList]) g2 g5⟩
       ·exact h.elim
     | seq a b =>
       rw [iU] at h
       try simp only at h
       obtain ⟨e,s',F',h1,h2⟩:=ihn N ks hp0 a _ s F hk h;have other:∀e1,e1 ≠ .normal->To P GL N hp0 a s e1 s'->To P GL N hp0 (.seq a b) s e1 s':=fun e1 hne h3=>BG (dX h3 (by cases e1<;>first | exact (hne rfl).elim | exact ⟨rfl,rfl⟩));cases e with
       | normal =>
         simp only at h1;split at h1
         ·obtain ⟨e2,s2,F2,h3,h4⟩:=ihn N ks hp0 b _ s' F' hk h1;exact ⟨e2,s2,F2,h3,BG (dX h2 h4)⟩
         ·split at h1
          ·rename_i hg;obtain ⟨e2,s2,F2,h3,h4⟩:=ihn N ks hp0 b _ _ F' hk h1;exact ⟨e2,s2,F2,h3,BG (dX h2 (Fz (MI hk hg) h4))⟩
          ·exact h1.elim
       | exit i=>exact ⟨_,s',F',h1,other _ (by simp) h2⟩
       | goto l=>exact ⟨_,s',F',h1,other _ (by simp) h2⟩
       | ret=>exact ⟨_,s',F',h1,other _ (by simp) h2⟩
       | panic ch=>exact ⟨_,s',F',h1,other _ (by simp) h2⟩
       | outgrown=>exact ⟨_,s',F',h1,other _ (by simp) h2⟩
     | cond x a b =>
       rw [iU] at h
       try simp only at h
       split at h
       ·rename_i t ht;cases t with
        | true =>
          obtain ⟨e,s',F',h1,h2⟩:=ihn N ks hp0 a _ s F hk h;exact ⟨e,s',F',h1,pR (by rw [SL.ev_S,<-PS];exact ht) (fun _=>h2) (fun hf=>by cases hf)⟩
        | false =>
          obtain ⟨e,s',F',h1,h2⟩:=ihn N ks hp0 b _ s F hk h;exact ⟨e,s',F',h1,pR (by rw [SL.ev_S,<-PS];exact ht) (fun hf=>by cases hf) (fun _=>h2)⟩
       ·exact h.elim
     | block id a =>
       rw [iU] at h
       try simp only at h
       obtain ⟨e,s',F',h1,h2⟩:=ihn N ks hp0 a _ s F hk h;cases e with
       | exit i =>
         simp only [O8] at h1;by_cases hi:i=id
         ·rw [if_pos hi] at h1;exact ⟨_,s',F',h1,iQ (dX h2 (by show (if i=id then _ else _);rw [if_pos hi];exact ⟨rfl,rfl⟩))⟩
         ·rw [if_neg hi] at h1;exact ⟨_,s',F',h1,iQ (dX h2 (by show (if i=id then _ else _);rw [if_neg hi];exact ⟨rfl,rfl⟩))⟩
       | normal=>exact ⟨_,s',F',h1,iQ (dX h2 ⟨rfl,rfl⟩)⟩
       | goto l=>exact ⟨_,s',F',h1,iQ (dX h2 ⟨rfl,rfl⟩)⟩
       | ret=>exact ⟨_,s',F',h1,iQ (dX h2 ⟨rfl,rfl⟩)⟩
       | panic ch=>exact ⟨_,s',F',h1,iQ (dX h2 ⟨rfl,rfl⟩)⟩
       | outgrown=>exact ⟨_,s',F',h1,iQ (dX h2 ⟨rfl,rfl⟩)⟩
     | loop a =>
       obtain ⟨e,s',F',k,h1,h2⟩:=PU ih n (Nat.lt_succ_self n) N ks hp0 a Q s F hk h;exact ⟨e,s',F',h1,EF h2⟩
     | rangeFunc _ _ _ _=>simp only [iU] at h
     | scope a =>
       rw [iU] at h
       try simp only at h
       obtain ⟨e,s',F',h1,h2⟩:=ihn N ks hp0 a _ s F hk h;cases e with
       | goto l=>exact h1.elim
       | exit i=>exact ⟨_,s',F',h1,kE (dX h2 ⟨rfl,rfl⟩)⟩
       | normal=>exact ⟨_,s',F',h1,kE (dX h2 ⟨rfl,rfl⟩)⟩
       | ret=>exact ⟨_,s',F',h1,kE (dX h2 ⟨rfl,rfl⟩)⟩
       | panic ch=>exact ⟨_,s',F',h1,kE (dX h2 ⟨rfl,rfl⟩)⟩
       | outgrown=>exact ⟨_,s',F',h1,kE (dX h2 ⟨rfl,rfl⟩)⟩
     | goto _=>simp only [iU] at h
     | refuse _=>simp only [iU] at h
end
def IY (P:Program):List (Nat×Func)->Prop
 | []=>True
 | (f,fn)::l=>P.funcs[f]? = some fn/\qA P f=true/\IY P l
def IZ (l:List (Nat×Func)) (f:FuncId):Option Func:=look f l
theorem Ak {P:Program}:∀ {l:List (Nat×Func)},IY P l->∀f fn,IZ l f=some fn->P.funcs[f]? = some fn/\qA P f=true
 | [],_,f,fn,h=>by cases h
 | (g,gn)::l,hl,f,fn,h=>by
   unfold IZ look at h;split at h
   ·rename_i hg;subst hg;cases h;exact ⟨hl.1,hl.2.1⟩
   ·exact Ak hl.2.2 f fn h
section
variable {P:Program} {GL:Nat->Option (List DV)} {L:List (List (Option TI))} {cs:List Nat}
end
section
variable {p:Pr} (hp:p=real)
include hp
theorem Yf {a b:Nat} (h:b<a):p.nle a b=false:=by rw [hp];exact decide_eq_false (by omega)
theorem Yg {cs:List DV} (h:0<cs.length):p.emp cs=false:=aiW hp (fun e=>by subst e;simp at h)
theorem rP {i:Int} {n:Nat} (h1:0<=i) (h2:i<=n):∃j:Nat,(j:Int)=i/\j<=n/\p.ixle i n=some j :=
 ⟨i.toNat,by omega,by omega,aeV hp (by omega) (by omega)⟩
theorem akQ {i:Int}:p.tn i=i.toNat:=by rw [hp];rfl
end
theorem JQ {p:Pr} (hp:p=real) {cs:List DV} {a b:Nat}:p.cut cs a b=(cs.drop a).take b:=by rw [hp];rfl
theorem uN {α:Type}:∀(l:List α) (o:Nat) (new:List α),o+new.length<=l.length->(splice l o new).length=l.length
 | l,0,new,h=>by
   rw [MH,List.length_append,List.length_drop];omega
 | [],o+1,new,h=>by simp at h
 | x::l,o+1,new,h=>by
   rw [splice,List.length_cons,List.length_cons,uN l o new (by simp only [List.length_cons] at h;omega)]
theorem MN:∀(n:Nat) (l:List DV),(nO n l).length=n*l.length
 | 0,l=>by simp [nO]
 | n+1,l=>by rw [nO,List.length_append,MN n l,Nat.succ_mul,Nat.add_comm]
end Go.Proofs.YtigfeinnobfflaaGreat
namespace Go.Proofs.YtigfeinnobfflaaGreat
open Go.ChangeShapes Go.WideShapes Go.Deep Go.RowKit
def oV (T:Ty):Nat->List (Nat×Nat)->Nat->Bool
 | o,[],tot=>o==tot
 | o,(fo,ft)::l,tot=>fo==o&&match T ft with
   | some fi=>oV T (o+fi.size) l tot
   | none=>false
def Vd (n e sz:Nat):List (Nat×Nat):=(List.range n).map fun i=>(i*sz,e)
def vU (T:Ty):Nat->Nat->Bool
 | 0,_=>false
 | m+1,t=>match T t with
   | none=>false
   | some i=>match i.k with
     | .int _=>i.size==1
     | .bool=>i.size==1
     | .str=>i.size==1
     | .slice e=>match T e with
       | some ei=>i.size==1&&(Nat.blt 0 ei.size&&vU T m e)
       | none=>false
     | .agg fs=>oV T 0 fs i.size&&fs.all fun f=>vU T m f.2
     | .arr n e=>match T e with
       | some ei=>oV T 0 (Vd n e ei.size) i.size&&vU T m e
       | none=>false
     | _=>false
def Sh (T:Ty):Nat->Nat->List DV->Prop
 | 0,_,_=>False
 | m+1,t,ds=>match T t with
   | none=>False
   | some i=>ds.length=i.size/\match i.k with
     | .int k=>∃x,ds=[.val (.int k x)]/\(Lit.int k x).wf=true
     | .bool=>∃b,ds=[.val (.bool b)]
     | .str=>∃s:ByteArray,ds=[.val (.string s)]/\s.size<=maxLen
     | .slice e=>∃rows:List (List DV),ds=[.dl rows.flatten rows.length none]/\rows.length<=maxLen/\∀r∈rows,Sh T m e r
     | .agg fs=>∀f∈fs,∃fi,T f.2=some fi/\Sh T m f.2 ((ds.drop f.1).take fi.size)
     | .arr n e=>∃ei,T e=some ei/\∀f∈Vd n e ei.size,∃fi,T f.2=some fi/\Sh T m f.2 ((ds.drop f.1).take fi.size)
     | _=>False
theorem Sh.len {T:Ty} {m t:Nat} {ds:List DV} {i:TI} (h:Sh T m t ds) (hi:T t=some i):ds.length=i.size:=by
 cases m with
 | zero=>exact h.elim
 | succ m=>rw [Sh,hi] at h;exact h.1
theorem MO {T:Ty}:∀ {fs:List (Nat×Nat)} {o tot:Nat},oV T o fs tot=true->(∀f∈fs,o<=f.1)/\o<=tot
 | [],o,tot,h=>⟨fun f hf=>(by cases hf),(by rw [oV] at h;have:=eq_of_beq h;omega)⟩
 | (fo,ft)::l,o,tot,h=>by
   rw [oV,Bool.and_eq_true] at h;obtain ⟨h1,h2⟩:=h;have h1:=eq_of_beq h1;split at h2
   ·obtain ⟨k1,k2⟩:=MO h2;refine ⟨fun f hf => ?_,by omega⟩;rcases List.mem_cons.1 hf with rfl | hf
    ·exact Nat.le_of_eq h1.symm
    ·have:=k1 f hf;omega
   ·cases h2
section
variable {h:Array Obj} {X:Nat->Prop}
theorem zf {T:Ty} {m:Nat} {cs:List Value}:∀ {fs:List (Nat×Nat)} {o:Nat},oV T o fs cs.length=true ->
 (∀f∈fs,∃ds fi,T f.2=some fi/\dV h X ds ((cs.drop f.1).take fi.size)/\Sh T m f.2 ds) ->
 ∃D,dV h X D (cs.drop o)/\∀f∈fs,∃fi,T f.2=some fi/\Sh T m f.2 ((D.drop (f.1-o)).take fi.size)
 | [],o,hc,hf=>by
   rw [oV] at hc;have:=eq_of_beq hc;refine ⟨[],?_,fun f hf=>by cases hf⟩;rw [List.drop_eq_nil_of_le (by omega)];rw [dV]
 | (fo,ft)::l,o,hc,hf=>by
   rw [oV,Bool.and_eq_true] at hc;obtain ⟨h1,h2⟩:=hc;have h1:=eq_of_beq h1;subst h1;obtain ⟨ds,fi,k1,k2,k3⟩:=hf (fo,ft) List.mem_cons_self;simp only at k1 k2 k3;rw [k1] at h2;simp only at h2;have hle:=(MO h2)
   obtain ⟨D,g1,g2⟩:=zf h2 (fun f hfl=>hf f (List.mem_cons_of_mem _ hfl));have hlen:=Sh.len k3 k1;refine ⟨ds++D,?_,fun f hfl => ?_⟩
   ·have e:cs.drop fo=(cs.drop fo).take fi.size++cs.drop (fo+fi.size):=by
     rw [<-List.drop_drop,List.take_append_drop]
    rw [e];exact mY k2 g1
   ·rcases List.mem_cons.1 hfl with rfl | hfl
    ·refine ⟨fi,k1,?_⟩;rw [Nat.sub_self,List.drop_zero,List.take_append_of_le_length (by omega),List.take_of_length_le (by omega)];exact k3
    ·obtain ⟨fi2,q1,q2⟩:=g2 f hfl;have:=hle.1 f hfl;refine ⟨fi2,q1,?_⟩;rw [List.drop_append,List.drop_eq_nil_of_le (by omega),List.nil_append,show f.1-fo-ds.length=f.1-(fo+fi.size) from by omega];exact q2
theorem MP {b:Nat}:∀ {xs ys:List DV} {o:Nat},eu h X xs b o->eu h X ys b (o+xs.length)->eu h X (xs++ys) b o
 | [],ys,o,_,h2=>h2
 | x::xs,ys,o,h1,h2=>by
   rw [eu] at h1;rw [List.cons_append,eu];refine ⟨h1.1,MP h1.2 ?_⟩;rw [show o+1+xs.length=o+(x::xs).length from by rw [List.length_cons];omega];exact h2
theorem I4 {b C:Nat}:∀ {rows:List (List DV)} {o:Nat},(∀i r,rows[i]? = some r->r.length=C/\eu h X r b (o+i*C))->eu h X rows.flatten b o
 | [],o,_=>by rw [List.flatten_nil,eu];trivial
 | r::rows,o,hr=>by
   obtain ⟨h1,h2⟩:=hr 0 r rfl;rw [List.flatten_cons];refine MP (by simpa using h2) (I4 (C:=C) fun i r' hi => ?_);obtain ⟨k1,k2⟩:=hr (i+1) r' (by simpa using hi);refine ⟨k1,?_⟩;rw [h1,show o+C+i*C=o+(i+1)*C from by rw [Nat.succ_mul];omega];exact k2
theorem RZ {b:Nat}:∀ {xs:List DV} {vs:List Value} {o:Nat},dV h X xs vs->(∀j u,vs[j]? = some u->je h b (o+j)=some u)->eu h X xs b o
 | [],vs,o,_,_=>by rw [eu];trivial
 | x::xs,vs,o,hr,hc=>by
   rw [dV] at hr;obtain ⟨u,vs',rfl,h1,h2⟩:=hr;rw [eu];exact ⟨⟨u,by simpa using hc 0 u rfl,h1⟩,RZ h2 fun j u' hj=>by have:=hc (j+1) u' (by simpa using hj);rw [<-this];congr 1;omega⟩
end
section
variable {H:Type} {ec:TypeId×Value->H} {P:Program} {w:World} {base:Nat} {spare:Nat->Bool} {held:Bool}
theorem yx {t:Nat} {i:TI} (h:aO P t=some i):P.cellsOf t=i.size:=by
 unfold aO at h;unfold Program.cellsOf;split at h
 ·rename_i a d h1 h2;rw [h1];split at h
  ·split at h
   ·cases h;rfl
   ·cases h
  ·cases h
 ·cases h
theorem Am:∀(m:Nat) {t fuel:Nat} {cs:List Value} {x:DataW H×List MemPlace},vU (aO P) m t=true->DataW.trod ec P w base spare held fuel t cs=some x->∃ds,dV w.heap (fun _=>False) ds cs/\Sh (aO P) m t ds
 | 0,t,fuel,cs,x,hd,_=>by cases hd
 | m+1,t,fuel,cs,x,hd,h=>by
   rw [vU] at hd;split at hd
   ·cases hd
   ·rename_i i hi;obtain ⟨d,h1,h2⟩:=aP hi;have hsz:=yx hi;split at hd
    ·rename_i k hk;rw [hk] at h2;cases d<;>simp only [fF] at h2<;>try (cases h2;done)
     cases h2;obtain ⟨n,rfl,_,hwf⟩:=DataW.trod_int h1 h;refine ⟨[.val (.int k n)],?_,?_⟩
     ·rw [dV];refine ⟨_,_,rfl,?_,by rw [dV]⟩;rw [bZ];exact ⟨rfl,rfl⟩
     ·rw [Sh,hi];refine ⟨by rw [eq_of_beq hd];rfl,?_⟩;rw [hk];exact ⟨n,rfl,hwf⟩
    ·rename_i hk;rw [hk] at h2;cases d<;>simp only [fF] at h2<;>try (cases h2;done)
     obtain ⟨b,rfl,_⟩:=DataW.trod_bool h1 h;refine ⟨[.val (.bool b)],?_,?_⟩
     ·rw [dV];refine ⟨_,_,rfl,?_,by rw [dV]⟩;rw [bZ];exact ⟨rfl,rfl⟩
     ·rw [Sh,hi];refine ⟨by rw [eq_of_beq hd];rfl,?_⟩;rw [hk];exact ⟨b,rfl⟩
    ·rename_i hk;rw [hk] at h2;cases d<;>simp only [fF] at h2<;>try (cases h2;done)
     obtain ⟨b,rfl,_,hl⟩:=DataW.trod_string h1 h;refine ⟨[.val (.string b)],?_,?_⟩
     ·rw [dV];refine ⟨_,_,rfl,?_,by rw [dV]⟩;rw [bZ];exact ⟨rfl,rfl⟩
     ·rw [Sh,hi];refine ⟨by rw [eq_of_beq hd];rfl,?_⟩;rw [hk];exact ⟨b,rfl,hl⟩
    ·rename_i e hk;rw [hk] at h2;cases d<;>simp only [fF] at h2<;>try (cases h2;done)
     cases h2;split at hd
     ·rename_i ei hei;simp only [Bool.and_eq_true] at hd;obtain ⟨hd1,hd2,hd3⟩:=hd;have hpos:0<ei.size:=Nat.le_of_ble_eq_true hd2;have hC:=yx hei;have fin:∀(v:Value) (rows:List (List DV)),bZ w.heap (fun _=>False) (.dl rows.flatten rows.length none) v->rows.length<=maxLen->(∀r∈rows,Sh (aO P) m e r)->∃ds,dV w.heap (fun _=>False) ds [v]/\Sh (aO P) (m+1) t ds:=fun v rows g1 g2 g3=>by
       refine ⟨[.dl rows.flatten rows.length none],?_,?_⟩
       ·rw [dV];exact ⟨_,_,rfl,g1,by rw [dV]⟩
       ·rw [Sh,hi];refine ⟨by rw [eq_of_beq hd1];rfl,?_⟩;rw [hk];exact ⟨rows,rfl,g2,g3⟩
      rcases open_slice h1 h with ⟨rfl,_⟩ | ⟨a,len,cap,k,nf,D,Pl,rfl,_,hl,hm,hmm,_,hel⟩
      ·refine fin _ [] ?_ (Nat.zero_le _) (fun r hr=>by cases hr);rw [bZ];exact ⟨none,0,rfl,Nat.le_refl _,Nat.zero_le _,fun k hk=>(by cases hk),.inl rfl⟩
      ·have hlk:len<=k:=by rw [hmm];split<;>omega
       have hex:∀i,∃r:List DV,i<len->r.length=ei.size/\Sh (aO P) m e r/\∃cs',w.cells? base (a.add (i*ei.size)) ei.size=some cs'/\dV w.heap (fun _=>False) r cs':=fun i=>by
        by_cases hil:i<len
        ·obtain ⟨cs',q1,q2⟩:=hel i (by omega);obtain ⟨r,q3,q4⟩:=Am m hd3 q2;rw [hC] at q1;exact ⟨r,fun _=>⟨Sh.len q4 hei,q4,cs',q1,q3⟩⟩
        ·exact ⟨[],fun hh=>(hil hh).elim⟩
       obtain ⟨f,hf⟩:=Classical.axiomOfChoice hex;have hrl:((List.range len).map f).length=len:=by rw [List.length_map,List.length_range]
       refine fin _ ((List.range len).map f) ?_ (by rw [hrl];omega) (fun r hr => ?_)
       ·rw [bZ,hrl];refine ⟨some a,cap,rfl,hl,hm,fun k hk=>(by cases hk),?_⟩;rcases Nat.eq_zero_or_pos len with h0 | h0
        ·left;rw [h0];rfl
        ·right;obtain ⟨_,_,cs0,q1,_⟩:=hf 0 h0;obtain ⟨_,hcl,hat⟩:=World.cells?_some q1;have h3:=hat 0 hpos;have hs:a.spot=none:=by
          cases hsp:a.spot with
          | none=>rfl
          | some s =>
            have h4:cs0[0]? = some (cs0[0]'(by omega)):=List.getElem?_eq_getElem (by omega);rw [h4] at h3;simp only [Nat.zero_mul] at h3;unfold Addr.add at h3;simp only [if_true] at h3;unfold World.cell? at h3;rw [hsp] at h3;split at h3<;>simp at h3
         obtain ⟨b,o,sp⟩:=a;simp only at hs;subst hs;refine ⟨b,o,rfl,fun hx=>hx,I4 (C:=ei.size) fun i r hir => ?_⟩;rw [List.getElem?_map] at hir;cases hri:(List.range len)[i]? with
         | none=>rw [hri] at hir;cases hir
         | some i' =>
           rw [hri] at hir;simp only [Option.map_some,Option.some.injEq] at hir;subst hir;obtain ⟨hlt,rfl⟩:i<len/\i=i':=by
            have hh:i<len:=by
             rcases Nat.lt_or_ge i len with hh | hh
             ·exact hh
             ·rw [List.getElem?_eq_none (by rw [List.length_range];exact hh)] at hri;cases hri
            rw [List.getElem?_range hh] at hri;cases hri;exact ⟨hh,rfl⟩
           obtain ⟨p1,p2,cs',p3,p4⟩:=hf i hlt;obtain ⟨_,pcl,pat⟩:=World.cells?_some p3;refine ⟨p1,RZ p4 fun j u hj => ?_⟩;have hjl:j<ei.size:=by rw [<-pcl];exact (List.getElem?_eq_some_iff.1 hj).1
           have:=pat j hjl;rw [hj,Addr.add_lit,Addr.add_lit,ou] at this;exact this
       ·obtain ⟨i,hi2,rfl⟩:=List.mem_map.1 hr;exact (hf i (List.mem_range.1 hi2)).2.1
     ·cases hd
    ·rename_i fs hk;rw [hk] at h2;cases d<;>simp only [fF] at h2<;>try (cases h2;done)
     rename_i flds;simp only [AT.agg.injEq] at h2;simp only [Bool.and_eq_true] at hd;obtain ⟨hd1,hd2⟩:=hd;obtain ⟨xs,n,_,_,hlen,hxl,hf⟩:=DataW.trod_struct h1 h;rw [hsz] at hlen;have hall:∀f∈fs,∃ds fi,aO P f.2=some fi/\dV w.heap (fun _=>False) ds ((cs.drop f.1).take fi.size)/\Sh (aO P) m f.2 ds:=fun f hfm=>by
      rw [h2] at hfm;obtain ⟨fld,hfl,rfl⟩:=List.mem_map.1 hfm;obtain ⟨i',hi',e'⟩:=List.getElem_of_mem hfl;have hgi:flds[i']? = some fld:=by rw [<-Array.getElem?_toList,List.getElem?_eq_getElem hi',e']
      have q:=hf i' fld hgi;have hxi:i'<xs.length:=by rw [hxl];simpa using hi'
      rw [List.getElem?_eq_getElem hxi] at q;have hdf:=List.all_eq_true.1 hd2 _ (by rw [h2];exact hfm);obtain ⟨ds,q1,q2⟩:=Am m hdf q;cases m with
      | zero=>exact q2.elim
      | succ m =>
        rw [Sh] at q2;split at q2
        ·exact q2.elim
        ·rename_i fi hfi;refine ⟨ds,fi,hfi,?_,?_⟩
         ·rw [yx hfi] at q1;exact q1
         ·rw [Sh,hfi];exact q2
     obtain ⟨D,g1,g2⟩:=zf (by rw [hlen];exact hd1) hall;rw [List.drop_zero] at g1;refine ⟨D,g1,?_⟩;rw [Sh,hi];refine ⟨by rw [<-dW _ _ g1,hlen],?_⟩;rw [hk];intro f hfm;obtain ⟨fi,q1,q2⟩:=g2 f hfm;exact ⟨fi,q1,by rw [Nat.sub_zero] at q2;exact q2⟩
    ·rename_i n e hk;rw [hk] at h2;cases d<;>simp only [fF] at h2<;>try (cases h2;done)
     cases h2;split at hd
     ·rename_i ei hei;simp only [Bool.and_eq_true] at hd;obtain ⟨hd1,hd2⟩:=hd;obtain ⟨xs,q,_,_,hlen,hxl,hf⟩:=DataW.trod_array h1 h;rw [hsz] at hlen;have hC:=yx hei;have hall:∀f∈Vd n e ei.size,∃ds fi,aO P f.2=some fi/\dV w.heap (fun _=>False) ds ((cs.drop f.1).take fi.size)/\Sh (aO P) m f.2 ds:=fun f hfm=>by
       obtain ⟨i',hi',rfl⟩:=List.mem_map.1 hfm;have hi':=List.mem_range.1 hi';have q:=hf i' hi';rw [List.getElem?_eq_getElem (by omega)] at q;obtain ⟨ds,q1,q2⟩:=Am m hd2 q;rw [hC] at q1;exact ⟨ds,ei,hei,q1,q2⟩
      obtain ⟨D,g1,g2⟩:=zf (by rw [hlen];exact hd1) hall;rw [List.drop_zero] at g1;refine ⟨D,g1,?_⟩;rw [Sh,hi];refine ⟨by rw [<-dW _ _ g1,hlen],?_⟩;rw [hk];refine ⟨ei,hei,?_⟩;intro f hfm;obtain ⟨fi,q1,q2⟩:=g2 f hfm;exact ⟨fi,q1,by rw [Nat.sub_zero] at q2;exact q2⟩
     ·cases hd
    ·cases hd
end
def E0 (W:World):En:={m:=fun _=>none,hp:=fun _=>none,X:=fun _=>False,h:=W.heap}
section
variable {H:Type} {ec:TypeId×Value->H} {P:Program} {W:World} {base:Nat} {spare:Nat->Bool} {held:Bool} {T:Ty} {m t:Nat} {v:Value} {d:DataW H} {ps:List MemPlace}
theorem Si {E:En}:∀ {ds:List DV} {vs:List Value},dV E.h E.X ds vs->aG E (ds.map .d) vs
 | [],vs,h=>by rw [dV] at h;rw [List.map_nil,aG];exact h
 | x::xs,vs,h=>by
   rw [dV] at h;obtain ⟨v,vs',rfl,h1,h2⟩:=h;rw [List.map_cons,aG];exact ⟨v,vs',rfl,by rw [Rel];exact h1,Si h2⟩
theorem Yh (hT:aO P=T) (hd:vU T m t=true) (ht:(match T t with | some i => !i.k.isAgg | none=>false)=true) {b0:Nat} (hv:v.okWide P W .any b0 t) (h:DataW.Trod ec P W base spare held t v d ps):∃x,Sh T m t [x]/\Rel (E0 W) (.d x) v:=by
 subst hT;split at ht
 ·rename_i i hi;obtain ⟨fuel,h⟩:=h;obtain ⟨ds,h1,h2⟩:=Am m hd h;obtain ⟨dd,g1,g2⟩:=aP hi;have hc:v.cells.toList=[v]:=by
   unfold Value.okWide at hv;rw [g1] at hv;rw [g2] at ht;have hone:v.oneCell'=true:=by
    cases dd<;>simp only [fF,AT.isAgg] at ht<;>first | (cases ht;done) | skip
    all_goals (cases v<;>first | rfl | (simp [Cell.okWide,Cell.ok,g1] at hv))
   cases v<;>first | rfl | (cases hone;done)
  rw [hc] at h1;cases ds with
  | nil=>rw [dV] at h1;cases h1
  | cons x xs =>
    rw [dV] at h1;obtain ⟨u,vs',e,q1,q2⟩:=h1;cases e;cases xs with
    | nil=>exact ⟨x,h2,by rw [Rel];exact q1⟩
    | cons y ys=>rw [dV] at q2;obtain ⟨_,_,e,_⟩:=q2;cases e
 ·cases ht
theorem MQ (hT:aO P=T) (hd:vU T m t=true) (ht:(match T t with | some i=>(match i.k with | .agg _=>true | .arr _ _=>true | _=>false) | none=>false)=true) {b0:Nat} (hv:v.okWide P W .any b0 t) (h:DataW.Trod ec P W base spare held t v d ps):∃ds,Sh T m t ds/\Rel (E0 W) (.agg (ds.map .d)) v:=by
 subst hT;split at ht
 ·rename_i i hi;obtain ⟨fuel,h⟩:=h;obtain ⟨ds,h1,h2⟩:=Am m hd h;obtain ⟨dd,g1,g2⟩:=aP hi;unfold Value.okWide at hv;rw [g1] at hv;rw [g2] at ht;cases dd<;>simp only [fF] at ht<;>try (cases ht;done)
  all_goals
   obtain ⟨cs,rfl,_⟩:=hv;refine ⟨ds,h2,?_⟩;rw [Rel];exact ⟨cs,rfl,Si h1⟩
 ·cases ht
end
section
variable {T:Ty} {m t:Nat} {i:TI}
theorem Sh.int {k:IntKind} {x:DV} (h:Sh T m t [x]) (hi:T t=some i) (hk:i.k = .int k):∃n,x = .val (.int k n)/\(Lit.int k n).wf=true:=by
 cases m with
 | zero=>exact h.elim
 | succ m =>
   rw [Sh,hi] at h;obtain ⟨_,h⟩:=h;rw [hk] at h;obtain ⟨n,e,q⟩:=h;exact ⟨n,by injection e,q⟩
theorem Sh.bool {x:DV} (h:Sh T m t [x]) (hi:T t=some i) (hk:i.k = .bool):∃b,x = .val (.bool b):=by
 cases m with
 | zero=>exact h.elim
 | succ m =>
   rw [Sh,hi] at h;obtain ⟨_,h⟩:=h;rw [hk] at h;obtain ⟨n,e⟩:=h;exact ⟨n,by injection e⟩
theorem Sh.str {x:DV} (h:Sh T m t [x]) (hi:T t=some i) (hk:i.k = .str):∃s:ByteArray,x = .val (.string s)/\s.size<=maxLen:=by
 cases m with
 | zero=>exact h.elim
 | succ m =>
   rw [Sh,hi] at h;obtain ⟨_,h⟩:=h;rw [hk] at h;obtain ⟨n,e,q⟩:=h;exact ⟨n,by injection e,q⟩
theorem Sh.list {α:Type} {e:Nat} {x:DV} (enc:α->List DV) (wf:α->Prop) (h:Sh T (m+1) t [x]) (hi:T t=some i) (hk:i.k = .slice e) (hel:∀r,Sh T m e r->∃a,r=enc a/\wf a):∃l:List α,x = .dl (l.flatMap enc) l.length none/\l.length<=maxLen/\∀a∈l,wf a:=by
 rw [Sh,hi] at h;obtain ⟨_,h⟩:=h;rw [hk] at h;obtain ⟨rows,e1,q1,q2⟩:=h;have key:∀rows:List (List DV),(∀r∈rows,Sh T m e r)->∃l:List α,rows.flatten=l.flatMap enc/\rows.length=l.length/\∀a∈l,wf a:=by
  intro rows
  induction rows with
  | nil=>intro _;exact ⟨[],rfl,rfl,fun a ha=>by cases ha⟩
  | cons r rows ih =>
    intro hr;obtain ⟨l,k1,k2,k3⟩:=ih fun r' h'=>hr r' (List.mem_cons_of_mem _ h');obtain ⟨a,rfl,ha⟩:=hel r (hr r List.mem_cons_self);refine ⟨a::l,by rw [List.flatten_cons,List.flatMap_cons,k1],by rw [List.length_cons,List.length_cons,k2],fun b hb => ?_⟩;rcases List.mem_cons.1 hb with rfl | hb
    ·exact ha
    ·exact k3 b hb
 obtain ⟨l,k1,k2,k3⟩:=key rows q2;refine ⟨l,?_,by omega,k3⟩;injection e1 with e1;rw [e1,k1,k2]
theorem Sh.fld {fs:List (Nat×Nat)} {ds:List DV} (h:Sh T (m+1) t ds) (hi:T t=some i) (hk:i.k = .agg fs):ds.length=i.size/\∀f∈fs,∃fi,T f.2=some fi/\Sh T m f.2 ((ds.drop f.1).take fi.size):=by
 rw [Sh,hi] at h;obtain ⟨h1,h⟩:=h;rw [hk] at h;exact ⟨h1,h⟩
theorem Sh.at {fs:List (Nat×Nat)} {ds:List DV} {o ft:Nat} {fi:TI} (h:∀f∈fs,∃fi,T f.2=some fi/\Sh T m f.2 ((ds.drop f.1).take fi.size)) (hm:(fs.any fun f=>f==(o,ft))=true) (hf:T ft=some fi):Sh T m ft ((ds.drop o).take fi.size):=by
 obtain ⟨f,h1,h2⟩:=List.any_eq_true.1 hm;have:=eq_of_beq h2;subst this;obtain ⟨fi',q1,q2⟩:=h _ h1;rw [hf] at q1;cases q1;exact q2
end
theorem MR (l:List UInt8):l.flatMap (fun b=>[DV.val (.int .u8 (b.toNat:Nat))])=bytesD l:=by
 unfold bytesD
 induction l with
 | nil=>rfl
 | cons b l ih=>rw [List.flatMap_cons,List.map_cons,ih];rfl
theorem aiZ {n:Int} (h:(Lit.int .u8 n).wf=true):∃b:UInt8,((b.toNat:Nat):Int)=n:=by
 simp [Lit.wf,IntKind.min,IntKind.max,IntKind.signed,IntKind.bits] at h;refine ⟨UInt8.ofNat n.toNat,?_⟩;rw [UInt8.toNat_ofNat'];omega
theorem Sh.bytes {T:Ty} {m t e:Nat} {i ei:TI} {x:DV} (h:Sh T (m+2) t [x]) (hi:T t=some i) (hk:i.k = .slice e) (hei:T e=some ei) (hek:ei.k = .int .u8) (hs:ei.size=1):∃l:List UInt8,x = .dl (bytesD l) l.length none/\l.length<=maxLen:=by
 obtain ⟨l,h1,h2,_⟩:=Sh.list (fun b:UInt8=>[DV.val (.int .u8 (b.toNat:Nat))]) (fun _=>True) h hi hk (fun r hr=>by
  have hl:=Sh.len hr hei;rw [hs] at hl
  match r,hl with
  | [y],_ =>
    obtain ⟨n,rfl,hn⟩:=Sh.int hr hei hek;obtain ⟨b,hb⟩:=aiZ hn;exact ⟨b,by rw [hb],trivial⟩)
 exact ⟨l,by rw [h1,MR],h2⟩
theorem wf_u8 {n:Int} (h:(Lit.int .u8 n).wf=true):0<=n/\n<=255:=by
 simp [Lit.wf,IntKind.min,IntKind.max,IntKind.signed,IntKind.bits] at h;omega
end Go.Proofs.YtigfeinnobfflaaGreat
