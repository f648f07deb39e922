import Derived.Test.YtkpijdndakljjaaV4p
import Derived.Test.YtkpijdndakljjaaU0p
import Derived.RangeFuncIn
import Derived.RangeFuncRecord
import Derived.Shelf.Abstract
import Derived.Test.YtkpijdndakljjaaXBp
set_option linter.unusedSimpArgs false
set_option linter.unusedVariables false
namespace Go.Proofs.Ytkpijdndakljjaa
open Go.RowKit
set_option maxRecDepth 100000
theorem relC_kp {h h':Array Obj} {X:Nat→Prop} (hc:∀b o u,cellH h b o=some u→cellH h' b o=some u):∀(cells:List DV) (b o:Nat),RelC h X cells b o→RelC h' X cells b o
 | [],b,o,_=>by rw [RelC];trivial
 | x::xs,b,o,hr=>by
   rw [RelC] at hr ⊢
   obtain ⟨⟨u,h1,h2⟩,h3⟩:=hr
   exact ⟨⟨u,hc _ _ _ h1,RelD.mono (fun b o u hx hu=>⟨hx,hc b o u hu⟩) x u h2⟩,relC_kp hc xs b (o+1) h3⟩
def NC (h:Array Obj) (k:Nat):Prop:=∃o,h[k]? = some o∧o.isCells=false∧o.isWalk=false
theorem rebase {N:Nat} {E0:En} {w0:World} {E:En} {a:Act} {w:World} {s:S} {w':World} (hS:Sim noG N E a w s) (hA:Along E0 w0 E w) (h1:w'.os=w.os) (h2:w'.tape=w.tape) (h3:w'.output=w.output) (h4:w.heap.size≤w'.heap.size)
 (hb:∀k,k<w.heap.size→w'.heap[k]? = w.heap[k]? ∨ (w0.heap.size≤k∧NC w.heap k)):Sim noG N {E with h:=w'.heap} a w' s∧Along E0 w0 {E with h:=w'.heap} w'∧Ext E {E with h:=w'.heap}:=by
 have hE:E.h=w.heap:=hS.h.symm
 have hc:∀b o u,cellH E.h b o=some u→cellH w'.heap b o=some u:=fun b o u hu=>by
  have hlt:=cellH_lt hu
  rw [hE] at hlt hu
  rcases hb b hlt with e | ⟨_,o',ho,hn,_⟩
  ·unfold cellH at hu ⊢;rw [e];exact hu
  ·unfold cellH at hu
   rw [ho] at hu
   cases o'<;>first | (simp [Obj.isCells] at hn;done) | (cases hu;done)
 have ho:∀(b:Nat) (o:Obj),E.h[b]? = some o→(o.isCells=true∨o.isWalk=true)→w'.heap[b]? = some o:=fun b o hbo hk=>by
  rw [hE] at hbo
  rcases hb b (Array.getElem?_eq_some_iff.1 hbo).1 with e | ⟨_,o',ho',k1,k2⟩
  ·rw [e];exact hbo
  ·rw [hbo] at ho';cases ho'
   rcases hk with k | k
   ·rw [k1] at k;cases k
   ·rw [k2] at k;cases k
 have hx:Ext E {E with h:=w'.heap}:=⟨fun b o u hx hu=>⟨hx,hc b o u hu⟩,fun r o h=>⟨o,h,o.like_refl,.inr rfl⟩⟩
 refine ⟨⟨rfl,hS.hp,⟨fun r o hr => ?_,hS.sim.inj,fun g cells hg=>by cases hg⟩,hS.n,hS.df,fun t=>Rel.ext hx _ _ (hS.tm t)⟩,⟨hA.ext.trans hx,?_⟩,hx⟩
 ·have:=hS.sim.ob r o hr
  cases o with
  | data e s cs mt =>
    rcases this with ⟨q1,q2⟩ | ⟨b,cur,q1,q2,q3,q4,q5,q6⟩
    ·exact .inl ⟨q1,q2⟩
    ·exact .inr ⟨b,cur,q1,ho b _ q2 (.inl rfl),relC_kp hc _ _ _ q3,q4,q5,q6⟩
  | mix cs =>
    obtain ⟨b,cur,t,q1,q2,q3,q4⟩:=this
    exact ⟨b,cur,t,q1,ho b _ q2 (.inl rfl),RelL.ext hx _ _ q3,q4⟩
  | mp ks =>
    obtain ⟨b,es,clock,q1,q2,q3,q4⟩:=this
    exact ⟨b,es,clock,q1,ho b _ q2 (.inr rfl),q3,q4⟩
  | dead=>trivial
 ·have f:=hA.fr
  refine ⟨h1.trans f.os,h2.trans f.tape,h3.trans f.output,Nat.le_trans f.size h4,fun k hk hm => ?_,f.mb,f.xs,f.xk⟩
  rcases hb k (Nat.lt_of_lt_of_le hk f.size) with e | ⟨ge,_⟩
  ·rw [e];exact f.blk k hk hm
  ·omega
theorem nc_mut {N:Nat} {E:En} {a:Act} {w:World} {s:S} (hS:Sim noG N E a w s) {k:Nat} (hn:NC w.heap k):¬MutB E k:=by
 rintro ⟨r,o,z,h1,h2,h3⟩
 obtain ⟨o',ho',k1,k2⟩:=hn
 have hE:E.h=w.heap:=hS.h.symm
 have:=hS.sim.ob r o h1
 cases o with
 | data e s cs mt =>
   rcases this with ⟨q1,q2⟩ | ⟨b,cur,q1,q2,_⟩
   ·rw [q1] at h3;cases h3
   ·rw [q1] at h3;cases h3
    rw [hE,ho'] at q2;cases q2;cases k1
 | mix cs =>
   obtain ⟨b,cur,t,q1,q2,_⟩:=this
   rw [q1] at h3;cases h3
   rw [hE,ho'] at q2;cases q2;cases k1
 | mp ks =>
   obtain ⟨b,es,clock,q1,q2,_⟩:=this
   rw [q1] at h3;cases h3
   rw [hE,ho'] at q2;cases q2;cases k2
 | dead=>cases h2
theorem Along.trans {E0 E1 E2:En} {w0 w1 w2:World} (h:Along E0 w0 E1 w1) (k:Along E1 w1 E2 w2):Along E0 w0 E2 w2:=⟨h.ext.trans k.ext,h.fr.trans k.fr⟩
theorem nc_keep {N:Nat} {E E':En} {a:Act} {w w':World} {s:S} (hS:Sim noG N E a w s) (hA:Along E w E' w') {k:Nat} {o:Obj} (h:w.heap[k]? = some o) (h1:o.isCells=false) (h2:o.isWalk=false):w'.heap[k]? = some o:=by
 rw [hA.fr.blk k (Array.getElem?_eq_some_iff.1 h).1 (nc_mut hS ⟨o,h,h1,h2⟩)];exact h
theorem put_keep {w0 w:World} {l:Nat} {o o':Obj} (h0:w0.heap.size≤l) (h:w.heap[l]? = some o) (h1:o.isCells=false) (h2:o.isWalk=false):∀k,k<w.heap.size→(w.putObj l o').heap[k]? = w.heap[k]? ∨ (w0.heap.size≤k∧NC w.heap k):=fun k hk=>by
 by_cases e:k=l
 ·subst e;exact .inr ⟨h0,o,h,h1,h2⟩
 ·exact .inl (World.putObj_heap_other e)
noncomputable def recL (fn:FuncId) (tm:Array Value) (D:Nat) (st:LoopState) (pe:Option Code):Loop:={state:=st,pending:=pe,fn:=fn,tmps:=tm,params := #[66,67],assign:=asgC,body:=bodC,defers:=D}
noncomputable def sumN (l:List Pr1) (rc:Int) (bg:Nat→Int):Nat→Option Int
 | 0=>some rc
 | k+1=>bindO (sumN l rc bg k) fun s=>bindO (rating_priceAt (l,bg k)) fun j =>
   bif decide (0≤j∧j<(l.length:Int)) then some (IntKind.wrap .i64 (s+(if (k:Int)=0 then (l.getD j.toNat ((0,(0,0)),(0,0))).2.1 else (l.getD j.toNat ((0,(0,0)),(0,0))).2.2))) else none
theorem sumN_succ {l:List Pr1} {rc:Int} {bg:Nat→Int} {k:Nat} {s':Int} (h:sumN l rc bg (k+1)=some s'):∃s j,sumN l rc bg k=some s∧rating_priceAt (l,bg k)=some j∧0≤j∧j<(l.length:Int) ∧
 s'=IntKind.wrap .i64 (s+(if (k:Int)=0 then (l.getD j.toNat ((0,(0,0)),(0,0))).2.1 else (l.getD j.toNat ((0,(0,0)),(0,0))).2.2)):=by
 unfold sumN at h
 cases h1:sumN l rc bg k with
 | none=>rw [h1] at h;cases h
 | some s =>
   rw [h1] at h
   simp only [bindO_some] at h
   cases h2:rating_priceAt (l,bg k) with
   | none=>rw [h2] at h;cases h
   | some j =>
     rw [h2] at h
     simp only [bindO_some] at h
     by_cases hj:0≤j∧j<(l.length:Int)
     ·rw [decide_eq_true hj] at h
      cases h
      exact ⟨s,j,rfl,rfl,hj.1,hj.2,rfl⟩
     ·rw [decide_eq_false hj] at h
      cases h
theorem sumN_le {l:List Pr1} {rc:Int} {bg:Nat→Int}:∀ {n:Nat} {s:Int},sumN l rc bg n=some s→∀k,k≤n→∃t,sumN l rc bg k=some t
 | 0,s,h,k,hk=>⟨s,by rw [show k=0 from by omega];exact h⟩
 | n+1,s,h,k,hk=>by
   by_cases e:k=n+1
   ·subst e;exact ⟨s,h⟩
   ·obtain ⟨t,_,ht,_⟩:=sumN_succ h
    exact sumN_le ht k (by omega)
section
variable {rb:ByteArray} {rc rf rst at0 np:Int} {pl:List Pr1} {pcells:List DV} {pn:Nat} {E0:En} {w0:World} {tm:Array Value} {D L:Nat} {fn:FuncId}
def InvR (rb:ByteArray) (rc rf rst at0 np:Int) (pl:List Pr1) (pcells:List DV) (pn:Nat) (E0:En) (w0:World) (tm:Array Value) (D L:Nat) (fn:FuncId) (k:Nat) (W:World):Prop :=
 ∃E s,sumN pl rc (begN at0 rf rst) k=some s∧Sim noG 87 E ⟨tm,[]⟩ W (stR rb rc rf rst at0 np pcells pn s).S∧Along E0 w0 E W∧W.heap[D]? = some (.deferred (some []))∧W.heap[L]? = some (.loop (recL fn tm D .ready none))
theorem rel_i {E:En} {k:IntKind} {v:Int}:Rel E (.d (.val (.int k v))) (.int k v):=by rw [Rel,RelD];exact ⟨rfl,rfl⟩
set_option maxHeartbeats 1000000 in
theorem round_in (h0:E0.hp=lookF []) (hcp:encL UP pl=pcells) (hnp:pl.length=pn) (hD:w0.heap.size≤D) (hL:w0.heap.size≤L) (hDL:D≠L) {k:Nat} {W:World} (hI:InvR rb rc rf rst at0 np pl pcells pn E0 w0 tm D L fn k W) {s':Int} (hs':sumN pl rc (begN at0 rf rst) (k+1)=some s') (m:Nat) :
 YieldAt Fence.wide m Try.prog L #[.int .i64 k,.int .i64 (begN at0 rf rst k)] W fun e W'=>e = .returned (.bool true)∧InvR rb rc rf rst at0 np pl pcells pn E0 w0 tm D L fn (k+1) W':=by
 obtain ⟨E,s,hs,hS,hA,hDo,hLo⟩:=hI
 obtain ⟨s1,j,hs1,hj,hj0,hj1,e1⟩:=sumN_succ hs'
 rw [hs] at hs1
 obtain rfl:s=s1:=by cases hs1;rfl
 have hy:=run_yield (P:=Try.prog) (args := #[.int .i64 k,.int .i64 (begN at0 rf rst k)]) hLo rfl
 refine ⟨_,_,_,_,hy,roundIn_of_wpIn trivial ?_⟩
 have q1:SimD [] noG 87 E ((⟨tm,[]⟩:Act).put (some 66) (.int .i64 k)) W ({stR rb rc rf rst at0 np pcells pn s with tm:=(66,.d (.val (.int .i64 k)))::(stR rb rc rf rst at0 np pcells pn s).tm}:SL).S:=by
  have:=(⟨hS,rfl⟩:SimD [] noG 87 E ⟨tm,[]⟩ W (stR rb rc rf rst at0 np pcells pn s).S).put (Goes.refl hS.h hS.sim) (d:=some 66) (fun t e=>by cases e;decide) (v := .d (.val (.int .i64 k))) (u := .int .i64 k) rel_i
  have e:=SL.app_S (stR rb rc rf rst at0 np pcells pn s) (some 66) ⟨.d (.val (.int .i64 k)),[],[],[],[]⟩
  exact e▸this
 have q2:SimD [] noG 87 E (((⟨tm,[]⟩:Act).put (some 66) (.int .i64 k)).put (some 67) (.int .i64 (begN at0 rf rst k))) W (stA rb rc rf rst at0 np pcells pn s k (begN at0 rf rst k)).S:=by
  have:=q1.put (Goes.refl hS.h hS.sim) (d:=some 67) (fun t e=>by cases e;decide) (v := .d (.val (.int .i64 (begN at0 rf rst k)))) (u := .int .i64 (begN at0 rf rst k)) rel_i
  have e:=SL.app_S ({stR rb rc rf rst at0 np pcells pn s with tm:=(66,.d (.val (.int .i64 k)))::(stR rb rc rf rst at0 np pcells pn s).tm}:SL) (some 67) ⟨.d (.val (.int .i64 (begN at0 rf rst k))),[],[],[],[]⟩
  exact e▸this
 have hA1:=acode_soundI (df:=[]) (hp0:=E.hp) (wideR Try.prog L) m KK.hq KK.hdp KK.hm KK.hT asgC (fun e t=>e = .normal∧t=stB rb rc rf rst at0 np pcells pn s k (begN at0 rf rst k)) (stA rb rc rf rst at0 np pcells pn s k (begN at0 rf rst k)) (by kernel_rfl) (by rw [←acodeP_real];exact asg_ok)
 have hact:({tmps:=((#[66,67]:Array Tmp).zip #[Value.int .i64 k,.int .i64 (begN at0 rf rst k)]).foldl (fun tmps (t,a)=>tmps.setIfInBounds t a) tm,defers:=[]}:Act)=((⟨tm,[]⟩:Act).put (some 66) (.int .i64 k)).put (some 67) (.int .i64 (begN at0 rf rst k)):=by simp [Act.put]
 rw [←hact] at q2
 refine wpIn_mono (hA1 E W E _ W rfl q2 (Along.refl _ _)) ?_
 rintro e a1 w1 ⟨_,E1,⟨sl,rfl,rfl,rfl⟩,hS2,hA2⟩
 have hD1:=nc_keep hS hA2 hDo rfl rfl
 have hL1:=nc_keep hS hA2 hLo rfl rfl
 have hL1lt:=(Array.getElem?_eq_some_iff.1 hL1).1
 refine ⟨_,run_beginRound hL1 rfl,?_⟩
 obtain ⟨hS3,hA3,hx3⟩:=rebase (w':=w1.putObj L (.loop {recL fn tm D .ready none with state := .busy})) hS2.sm (hA.trans hA2) rfl rfl rfl (by simp) (put_keep hL hL1 rfl rfl)
 have hD2:(w1.putObj L (.loop {recL fn tm D .ready none with state := .busy})).heap[D]? = some (.deferred (some [])):=(World.putObj_heap_other hDL).trans hD1
 have hL2:(w1.putObj L (.loop {recL fn tm D .ready none with state := .busy})).heap[L]? = some (.loop {recL fn tm D .ready none with state := .busy}):=World.putObj_heap_same hL1lt
 generalize w1.putObj L (.loop {recL fn tm D .ready none with state := .busy})=w2 at *
 obtain ⟨i,hi⟩:∃i:Nat,j=(i:Int):=⟨j.toNat,by omega⟩
 obtain ⟨⟨⟨d1,d2,d3⟩,d4,d5⟩,hrow⟩:∃x,pl.getD i ((0,(0,0)),(0,0))=x:=⟨_,rfl⟩
 have e2:s'=IntKind.wrap .i64 (s+(if (k:Int)=0 then d4 else d5)):=by rw [e1,hi,Int.toNat_natCast,hrow]
 have hA4:=acode_soundI (df:=[]) (hp0:=E1.hp) (wideR Try.prog L) m KK.hq KK.hdp KK.hm KK.hT bodC (fun e t=>e = .normal∧Tells noG 87 (lookF []) ({t with tm:=(stR rb rc rf rst at0 np pcells pn s).tm}:SL).S (stR rb rc rf rst at0 np pcells pn s').S) (stB rb rc rf rst at0 np pcells pn s k (begN at0 rf rst k)) (by kernel_rfl)
  (by rw [←acodeP_real];exact bod_ok hcp hnp hj hi (by omega) hrow (by omega) e2 rfl rfl rfl)
 refine wpIn_mono (hA4 {E1 with h:=w2.heap} w2 {E1 with h:=w2.heap} a1 w2 rfl ⟨hS3,hS2.dq⟩ (Along.refl _ _)) ?_
 rintro e a3 w3 ⟨_,E3,⟨sl,rfl,rfl,hT⟩,hS4,hA5⟩
 have hD3:=nc_keep hS3 hA5 hD2 rfl rfl
 have hL3:=nc_keep hS3 hA5 hL2 rfl rfl
 have hL3lt:=(Array.getElem?_eq_some_iff.1 hL3).1
 refine ⟨_,_,run_endRound none hL3,rfl,?_⟩
 have hS5:Sim noG 87 E3 ⟨tm,[]⟩ w3 ({sl with tm:=(stR rb rc rf rst at0 np pcells pn s).tm}:SL).S:=⟨hS4.sm.h,hS4.sm.hp,hS4.sm.sim,hS.n,rfl,fun t=>Rel.ext ((hA2.ext.trans hx3).trans hA5.ext) _ _ (hS.tm t)⟩
 obtain ⟨E4,hS6,hA6⟩:=hT E0 w0 E3 _ w3 h0 hS5 (hA3.trans hA5)
 obtain ⟨hS7,hA7,_⟩:=rebase (w':=w3.putObj L (.loop (recL fn tm D .ready none))) hS6 hA6 rfl rfl rfl (by simp) (put_keep hL hL3 rfl rfl)
 exact ⟨_,s',hs',hS7,hA7,(World.putObj_heap_other hDL).trans hD3,World.putObj_heap_same hL3lt⟩
end
end Go.Proofs.Ytkpijdndakljjaa

namespace Go.Proofs.Ytkpijdndakljjaa
open Go.RowKit
set_option maxRecDepth 100000
theorem rel_ptrQ {E:En} {r off:Nat} {cs:List AV} {v:Value} (h:E.hp r=some (.mix cs)) (hr:Rel E (.ptr r off) v):∃b z,E.m r=some (b,z)∧v = .pointer (some ⟨b,off,none⟩):=by
 rw [Rel,h] at hr
 exact hr
theorem rel_vi {E:En} {k:IntKind} {n:Int} {u:Value} (h:Rel E (.d (.val (.int k n))) u):u = .int k n:=by
 rw [Rel,RelD] at h
 exact h.1
theorem relL_consQ {E:En} {x:AV} {xs:List AV} {vs:List Value} (h:RelL E (x::xs) vs):∃v vs',vs=v::vs'∧Rel E x v∧RelL E xs vs':=by rw [RelL] at h;exact h
theorem relL_nilQ {E:En} {vs:List Value} (h:RelL E [] vs):vs=[]:=by rw [RelL] at h;exact h
theorem cell_cur {w:World} {b o:Nat} {cur:Array Value} {t:TypeId} {v:Value} (h:w.heap[b]? = some (.cells cur t (0,0))) (hv:cur.toList[o]? = some v):w.cell? ⟨b,o,none⟩=some v:=by
 rw [cell_eq]
 unfold cellH
 rw [h]
 simpa using hv
section
variable {rb:ByteArray} {rc rf rst at0 np:Int} {pl:List Pr1} {pcells:List DV} {pn:Nat}
theorem clo_of {E:En} {w:World} {tm:Array Value} {s:Int} (hS:Sim noG 87 E ⟨tm,[]⟩ w (stR rb rc rf rst at0 np pcells pn s).S):∃b7 b8 b9,tm.getD 65 undef = .func (.func 126) #[] #[.pointer (some ⟨b7,0,none⟩),.pointer (some ⟨b8,0,none⟩),.pointer (some ⟨b9,0,none⟩)] ∧
 w.cell? ⟨b7,0,none⟩=some (.int .i64 at0)∧w.cell? ⟨b8,0,none⟩=some (.int .i64 np)∧w.cell? ⟨b9,2,none⟩=some (.int .i64 rf)∧w.cell? ⟨b9,3,none⟩=some (.int .i64 rst):=by
 have hr:Rel E (.clo 126 [.ptr 7 0,.ptr 8 0,.ptr 9 0]) (tm.getD 65 undef):=hS.tm 65
 have hh:∀r,E.hp r=(stR rb rc rf rst at0 np pcells pn s).rd r:=fun r=>congrFun hS.hp r
 have hE:E.h=w.heap:=hS.h.symm
 rw [Rel] at hr
 obtain ⟨⟨v1,v2⟩,⟨hv,hsz⟩,hrl⟩:=hr
 have h1:v1 = #[]:=Array.eq_empty_of_size_eq_zero hsz
 subst h1
 obtain ⟨u7,l7,e7,g7,hrl⟩:=relL_consQ hrl
 obtain ⟨u8,l8,e8,g8,hrl⟩:=relL_consQ hrl
 obtain ⟨u9,l9,e9,g9,hrl⟩:=relL_consQ hrl
 have e10:=relL_nilQ hrl
 subst e10 e9 e8
 have e11:v2.toList=[u7,u8,u9]:=by simpa using e7
 have e12:v2 = #[u7,u8,u9]:=by rw [←Array.toList_inj];exact e11
 subst e12
 have k7:E.hp 7=some (.mix [.d (.val (.int .i64 at0))]):=hh 7
 have k8:E.hp 8=some (.mix [.d (.val (.int .i64 np))]):=hh 8
 have k9:E.hp 9=some (.mix [.d (.val (.string rb)),.d (.val (.int .i64 rc)),.d (.val (.int .i64 rf)),.d (.val (.int .i64 rst)),.d (.dl pcells pn none)]):=hh 9
 obtain ⟨b7,z7,m7,rfl⟩:=rel_ptrQ k7 g7
 obtain ⟨b8,z8,m8,rfl⟩:=rel_ptrQ k8 g8
 obtain ⟨b9,z9,m9,rfl⟩:=rel_ptrQ k9 g9
 refine ⟨b7,b8,b9,hv,?_,?_,?_,?_⟩
 ·obtain ⟨b,cur,t,q1,q2,q3,_⟩:=hS.sim.ob _ _ k7
  rw [m7] at q1;cases q1
  obtain ⟨x0,y0,c0,r0,q3⟩:=relL_consQ q3
  rw [rel_vi r0] at c0
  exact cell_cur (by rw [←hE];exact q2) (by rw [c0];rfl)
 ·obtain ⟨b,cur,t,q1,q2,q3,_⟩:=hS.sim.ob _ _ k8
  rw [m8] at q1;cases q1
  obtain ⟨x0,y0,c0,r0,q3⟩:=relL_consQ q3
  rw [rel_vi r0] at c0
  exact cell_cur (by rw [←hE];exact q2) (by rw [c0];rfl)
 all_goals
  obtain ⟨b,cur,t,q1,q2,q3,_⟩:=hS.sim.ob _ _ k9
  rw [m9] at q1;cases q1
  obtain ⟨x0,y0,c0,r0,q3⟩:=relL_consQ q3
  obtain ⟨x1,y1,c1,r1,q3⟩:=relL_consQ q3
  obtain ⟨x2,y2,c2,r2,q3⟩:=relL_consQ q3
  obtain ⟨x3,y3,c3,r3,q3⟩:=relL_consQ q3
  rw [rel_vi r2] at c2
  rw [rel_vi r3] at c3
  subst c3 c2 c1
  exact cell_cur (by rw [←hE];exact q2) (by rw [c0];rfl)
noncomputable abbrev blkC:Code:=match (spine 11 costC).2 with | .seq (.seq _ b) _=>b | _ => .skip
noncomputable abbrev r16C:Code:=match (spine 11 costC).2 with | .seq (.seq y _) _=>y | _ => .skip
theorem blk_eq:blkC = .block 0 (.rangeFunc (.tmp 65) #[66,67] asgC bodC):=by kernel_rfl
theorem tail_eq:(spine 11 costC).2 = .seq (.seq r16C blkC) posC:=by kernel_rfl
def FinR (E0:En) (w0:World) (v:AV):Ending→World→Prop:=fun e w'=>∃u E',e = .returned u∧w'.heap=E'.h∧E'.hp=lookF []∧SimH noG E'∧Ext E0 E'∧StepF E0 w0 E' w'∧Rel E' v u
theorem fin_leaves {E0 E:En} {w0 w:World} {a:Act} {D:Nat} {sl:SL} {v:AV} (h0:E0.hp=lookF []) (hS:SimD [{target := .collected D,args := #[]}] noG 87 E a w sl.S) (hA:Along E0 w0 E w) (hD:w0.heap.size≤D) (hDo:w.heap[D]? = some (.deferred (some [])))
 (hq:match resA (tabF (tiOf Try.prog) tyRows) Try.f77 sl with | some x=>Back [] sl.hp [] v x | none=>False):LeavesInM Fence.wide 9 Try.prog Try.f77 a.tmps (FinR E0 w0 v) a.defers .returning w:=by
 rw [hS.dq]
 refine ⟨by simp,.inl ⟨D,_,rfl,run_takeDeferred hDo,?_⟩⟩
 obtain ⟨hS1,hA1,_⟩:=rebase (w':=w.putObj D (.deferred none)) hS.sm hA rfl rfl rfl (by simp) (put_keep hD hDo rfl rfl)
 rw [←KK.hT] at hq
 obtain ⟨x,k1,θ,k0,k2,k3⟩:∃x,resA (tiOf Try.prog) Try.f77 sl=some x∧Back [] sl.hp [] v x:=by
  cases hx:resA (tiOf Try.prog) Try.f77 sl with
  | none=>rw [hx] at hq;exact hq.elim
  | some x=>rw [hx] at hq;exact ⟨x,rfl,hq⟩
 obtain ⟨y,g1,g2⟩:=resA_sim hS1 k1
 have hp:({E with h:=(w.putObj D (.deferred none)).heap}:En).hp=lookF sl.hp:=hS1.hp
 rw [←hp] at k2 k3
 exact ⟨y,g1,y,weakE {E with h:=(w.putObj D (.deferred none)).heap} θ (lookF []),rfl,hS1.h,rfl,weak_simH hS1.sim k2,weak_ext0 hA1 k2 (fun r o ho=>by rw [h0] at ho;exact k0 r o ho),weak_step k2 hA1.fr,weak_rel hS1.sim k2 _ _ _ k3 g2⟩
set_option maxHeartbeats 1000000 in
theorem loop_in {E0 E:En} {w0 w:World} {a:Act} (h0:E0.hp=lookF []) (hcp:encL UP pl=pcells) (hnp:pl.length=pn) {n:Nat} (hn:np=(n:Int)) (hn1:(n:Int)≤4000000000000000000) {S:Int} (hsum:sumN pl rc (begN at0 rf rst) n=some S) (hS:Sim noG 87 E a w (stR rb rc rf rst at0 np pcells pn rc).S) (hA:Along E0 w0 E w) :
 blkC.wpIn Fence.wide 9 Try.prog (Exit.then (posC.wpIn Fence.wide 9 Try.prog (bodyPostM Fence.wide 9 Try.prog Try.f77 (FinR E0 w0 (.tup [.d (.val (.int .i64 S)),.d (.val (.int .u8 0))])))) (bodyPostM Fence.wide 9 Try.prog Try.f77 (FinR E0 w0 (.tup [.d (.val (.int .i64 S)),.d (.val (.int .u8 0))])))) a w:=by
 obtain ⟨tm,df⟩:=a
 have hdf:df=[]:=hS.df
 subst hdf
 rw [blk_eq]
 refine wpIn_block (wpIn_rangeFunc ?_)
 intro fn _
 obtain ⟨b7,b8,b9,hv,_⟩:=clo_of hS
 have hg:(⟨tm,[]⟩:Act).eval (.tmp 65) = .func (.func 126) #[] #[.pointer (some ⟨b7,0,none⟩),.pointer (some ⟨b8,0,none⟩),.pointer (some ⟨b9,0,none⟩)]:=hv
 have hD0:w0.heap.size≤w.heap.size:=hA.fr.size
 obtain ⟨W1,hW1⟩:∃W1,(w.alloc (.deferred (some []))).alloc (.loop (recL fn tm w.heap.size .ready none))=W1:=⟨_,rfl⟩
 have hL1:W1.heap[w.heap.size+1]? = some (.loop (recL fn tm w.heap.size .ready none)):=by
  rw [←hW1];have:=World.alloc_heap_new (w.alloc (.deferred (some []))) (.loop (recL fn tm w.heap.size .ready none));rwa [World.size_alloc] at this
 have hK1:W1.heap[w.heap.size]? = some (.deferred (some [])):=by
  rw [←hW1];exact (Below.heap_alloc _ _ _ (by simp)).trans (World.alloc_heap_new w _)
 have hB1:Below w.heap.size w W1:=by
  rw [←hW1];exact (((Below.refl _ w).alloc (Nat.le_refl _) _).alloc (by simp) _)
 obtain ⟨hS1,hA1,_⟩:=rebase (w':=W1) hS hA hB1.os hB1.tape hB1.output hB1.size (fun k hk => .inl (hB1.block k hk))
 refine ⟨w.heap.size+1,[{target := .collected w.heap.size,args := #[]}],W1,{target := .fn (.func 126) #[.pointer (some ⟨b7,0,none⟩),.pointer (some ⟨b8,0,none⟩),.pointer (some ⟨b9,0,none⟩)],args := #[.func (.yield (w.heap.size+1)) #[] #[]]},W1,126,
  #[.func (.yield (w.heap.size+1)) #[] #[],.pointer (some ⟨b7,0,none⟩),.pointer (some ⟨b8,0,none⟩),.pointer (some ⟨b9,0,none⟩)],W1,?_,?_,fun _ _=>trivial,?_,fun g=>(by cases g),?_⟩
 ·rw [←hW1];exact run_enterLoop_outer _ _ _ _ _
 ·simp only [resolve,hg]
  simp [go_sem]
 ·have eg:=Go.Proofs.enters_of Try.func126 (by kernel_rfl) rfl
  simp [invoke,go_sem,eg]
 ·refine (iter_in 8 (w.heap.size+1) b7 b8 b9 at0 rf rst n hn1 (InvR rb rc rf rst at0 np pl pcells pn E0 w0 tm w.heap.size (w.heap.size+1) fn) ?_ ?_ W1 ⟨_,rc,rfl,hS1,hA1,hK1,hL1⟩).mono ?_
  ·rintro k W ⟨E',s,_,hS',_⟩
   obtain ⟨c7,c8,c9,hv',r1,r2,r3,r4⟩:=clo_of hS'
   rw [hv] at hv'
   cases hv'
   rw [hn] at r2
   exact ⟨r1,r2,r3,r4⟩
  ·intro k W hk hI
   obtain ⟨s',hs'⟩:=sumN_le hsum (k+1) (by omega)
   exact round_in h0 hcp hnp hD0 (by omega) (by omega) hI hs' 7
  ·rintro e W2 ⟨⟨v,rfl⟩,E2,s2,hs2,hS2,hA2,hD2,hL2⟩
   rw [hsum] at hs2
   cases hs2
   refine ⟨none,_,run_endLoop hL2 (by simp [recL]),?_⟩
   obtain ⟨hS3,hA3,_⟩:=rebase (w':=W2.putObj (w.heap.size+1) (.loop {recL fn tm w.heap.size .ready none with state := .exhausted})) hS2 hA2 rfl rfl rfl (by simp) (put_keep (by omega) hL2 rfl rfl)
   have hD3:(W2.putObj (w.heap.size+1) (.loop {recL fn tm w.heap.size .ready none with state := .exhausted})).heap[w.heap.size]? = some (.deferred (some [])):=(World.putObj_heap_other (by omega)).trans hD2
   generalize W2.putObj (w.heap.size+1) (.loop {recL fn tm w.heap.size .ready none with state := .exhausted})=w4 at *
   have hp:=acode_soundI (df:=[{target := .collected w.heap.size,args := #[]}]) (hp0:=E2.hp) (wideF Try.prog) 9 KK.hq KK.hdp KK.hm KK.hT posC _ (stR rb rc rf rst at0 np pcells pn S) (by kernel_rfl) (by rw [←acodeP_real];exact post_ok)
   refine wpIn_mono (hp {E2 with h:=w4.heap} w4 {E2 with h:=w4.heap} _ w4 rfl ⟨hS3,rfl⟩ (Along.refl _ _)) ?_
   rintro e a5 w5 ⟨_,E5,⟨sl,rfl,hq⟩,hS5,hA5⟩
   have hD5:=nc_keep hS3 hA5 hD3 rfl rfl
   cases e with
   | normal=>exact fin_leaves h0 hS5 (hA3.trans hA5) hD0 hD5 hq
   | ret=>exact fin_leaves h0 hS5 (hA3.trans hA5) hD0 hD5 hq
   | exit i=>exact hq.elim
   | goto l=>exact hq.elim
   | panic ch=>exact hq.elim
   | outgrown=>exact hq.elim
end
end Go.Proofs.Ytkpijdndakljjaa

namespace Go.Proofs.Ytkpijdndakljjaa
open Go.RowKit
set_option maxRecDepth 100000
theorem acodeNP_app {p:Pr} {C:Cxt} {T:Ty} {q:Nat→Bool} {N:Nat} {Z:SL→Prop} {Q:Exit→SL→Prop}:∀(xs ys:List Code) (s:SL),acodeNP p C T noG q N Z (xs++ys) Q s=acodeNP p C T noG q N (fun s'=>acodeNP p C T noG q N Z ys Q s') xs Q s
 | [],ys,s=>rfl
 | x::xs,ys,s=>by
   rw [List.cons_append,acodeNP,acodeNP]
   have:(fun s'=>acodeNP p C T noG q N Z (xs++ys) Q s')=fun s'=>acodeNP p C T noG q N (fun s'=>acodeNP p C T noG q N Z ys Q s') xs Q s':=funext fun s'=>acodeNP_app xs ys s'
   rw [this]
noncomputable def rating_Cost:((List Ra×Int)×(List UInt8×(Int×Int)))→Option (Int×Int) :=
 fun ((rs,fr),(num,(a,b))) =>
 bindO (rating_Valid (rs,fr)) fun v =>
 bif !v then some ((0:Int),(2:Int)) else
 bindO (rating_within (a,((0:Int),(281474976710656:Int)))) fun x =>
 bif !x then some ((0:Int),(3:Int)) else
 bindO (rating_within (b,(a,(281474976710656:Int)))) fun y =>
 bif !y then some ((0:Int),(3:Int)) else
 bindO (rating_Seconds (a,b)) fun se =>
 bif decide (se > (1000000:Int)) then some ((0:Int),(4:Int)) else
 bindO (rating_Find ((rs,fr),num)) fun (ix,ok) =>
 bif !ok then some ((0:Int),(8:Int)) else
 bif decide ((0:Int)≤ix∧ix<((rs.length:Nat):Int)) then
 bindO (rating_Pieces (rs.getD ix.toNat ([],(0,(0,(0,[])))),(fr,se))) fun np =>
 bif decide (np=(0:Int)) then some ((0:Int),(0:Int)) else
 bif decide ((0:Int)≤np∧np≤(4000000000000000000:Int)) then
 bindO (sumN (rs.getD ix.toNat ([],(0,(0,(0,[]))))).2.2.2.2 (rs.getD ix.toNat ([],(0,(0,(0,[]))))).2.1 (begN (IntKind.wrap .i64 (a+IntKind.wrap .i64 (1000*fr))) (rs.getD ix.toNat ([],(0,(0,(0,[]))))).2.2.1 (rs.getD ix.toNat ([],(0,(0,(0,[]))))).2.2.2.1) np.toNat) fun s =>
 some (s,(0:Int))
 else none
 else none
theorem bindO_inv {α β:Type} {x:Option α} {f:α→Option β} {r:β} (h:bindO x f=some r):∃a,x=some a∧f a=some r:=by
 cases x with
 | none=>cases h
 | some a=>exact ⟨a,rfl,h⟩
theorem cost_o {rs:List Ra} {fr:Int} {num:List UInt8} {a b:Int} {r:Int×Int} (hG:rating_Cost ((rs,fr),(num,(a,b)))=some r) :
 DoesO Try.prog noG 77 [.agg [.d (.dl (encL UR rs) rs.length none),.d (.val (.int .i64 fr))],.d (.val (.string ⟨num.toArray⟩)),.d (.val (.int .i64 a)),.d (.val (.int .i64 b))] [] (.tup [.d (.val (.int .i64 r.1)),.d (.val (.int .u8 r.2))]) []:=by
 unfold rating_Cost at hG
 obtain ⟨v,hV,hG⟩:=bindO_inv hG
 cases v with
 | false=>cases hG;exact cost_e1 rfl rfl rfl hV
 | true =>
 obtain ⟨x,h1,hG⟩:=bindO_inv hG
 cases x with
 | false=>cases hG;exact cost_e2 rfl rfl rfl hV h1
 | true =>
 obtain ⟨y,h2,hG⟩:=bindO_inv hG
 cases y with
 | false=>cases hG;exact cost_e3 rfl rfl rfl hV h1 h2
 | true =>
 obtain ⟨se,h3,hG⟩:=bindO_inv hG
 by_cases h4:se > 1000000
 ·simp only [Bool.not_true,cond_false] at hG
  rw [decide_eq_true h4] at hG
  cases hG
  exact cost_e4 rfl rfl rfl hV h1 h2 h3 h4
 simp only [Bool.not_true,cond_false] at hG
 rw [decide_eq_false h4] at hG
 obtain ⟨⟨ix,ok⟩,hF,hG⟩:=bindO_inv hG
 cases ok with
 | false=>cases hG;exact cost_e5 rfl rfl rfl hV h1 h2 h3 (by omega) hF
 | true =>
 by_cases h5:¬(0≤ix∧ix<((rs.length:Nat):Int))
 ·simp only [Bool.not_true,cond_false] at hG
  rw [decide_eq_false h5] at hG
  cases hG
 rw [Classical.not_not] at h5
 simp only [Bool.not_true,cond_false] at hG
 rw [decide_eq_true h5] at hG
 obtain ⟨i,hi⟩:∃i:Nat,ix=(i:Int):=⟨ix.toNat,by omega⟩
 obtain ⟨np,hPi,hG⟩:=bindO_inv hG
 rw [hi,Int.toNat_natCast] at hG hPi
 by_cases h6:np=0
 ·skip
  rw [decide_eq_true h6] at hG
  cases hG
  exact cost_e6 rfl rfl rfl hV h1 h2 h3 (by omega) hF hi (by omega) rfl rfl rfl rfl rfl rfl rfl hPi h6
 rw [decide_eq_false h6] at hG
 by_cases h7:¬(0≤np∧np≤4000000000000000000)
 ·rw [decide_eq_false h7] at hG
  cases hG
 rw [Classical.not_not] at h7
 simp only [cond_false] at hG
 rw [decide_eq_true h7] at hG
 obtain ⟨s,hsum,hG⟩:=bindO_inv hG
 cases hG
 obtain ⟨n,hn⟩:∃n:Nat,np=(n:Int):=⟨np.toNat,by omega⟩
 rw [hn,Int.toNat_natCast] at hsum
 intro E w vs hE hw hs hrel
 have hlen:=relL_length _ _ hrel
 have hvs:vs.size=4:=by rw [←Array.length_toList];exact hlen
 refine callsIn_wide.1 (callsIn_of_wp_marks (n:=9) Try.func77 (c:=costC) rfl trivial ?_ rfl)
 have hS:Sim noG 87 E {tmps:=vs++Array.replicate (87-vs.size) undef,defers:=[]} w (⟨87,argTm 0 [.agg [.d (.dl (encL UR rs) rs.length none),.d (.val (.int .i64 fr))],.d (.val (.string ⟨num.toArray⟩)),.d (.val (.int .i64 a)),.d (.val (.int .i64 b))],[]⟩:SL).S:=by
  refine ⟨hw,hE,hs,?_,rfl,fun t => ?_⟩
  ·simp only [Array.size_append,Array.size_replicate];omega
  ·show Rel _ (match look t (argTm 0 _) with | some x=>x | none => .junk) _
   rw [look_argTm]
   simp only [Nat.zero_le,if_true,Nat.sub_zero]
   generalize hargs:[AV.agg [.d (.dl (encL UR rs) rs.length none),.d (.val (.int .i64 fr))],.d (.val (.string ⟨num.toArray⟩)),.d (.val (.int .i64 a)),.d (.val (.int .i64 b))]=args at *
   cases hx:args[t]? with
   | none=>simp only;rw [Rel];trivial
   | some x =>
     obtain ⟨u,k1,k2⟩:=relL_get _ _ t x hrel hx
     have ht:t<vs.size:=by
      have:=(List.getElem?_eq_some_iff.1 k1).1
      simpa using this
     rw [Array.getD_eq_getD_getElem?,Array.getElem?_append_left ht]
     have k1':vs[t]? = some u:=by simpa using k1
     rw [k1']
     exact k2
 rw [←spine_nest 11 costC]
 have hpre:=pre_ok (pl:=[]) (at0:=IntKind.wrap .i64 (a+IntKind.wrap .i64 (1000*fr))) (hp:=rfl) (F:=tiOf Try.prog) (C:=cxtOf Try.prog noG 87 (lookF [])) rfl rfl rfl hV h1 h2 h3 (by omega) hF hi (by omega) rfl rfl rfl rfl rfl rfl rfl hPi h6 rfl rfl rfl
 have hpc:preC 11 costC=(spine 11 costC).1++[r16C]:=by
  unfold preC
  rw [tail_eq]
 rw [hpc,acodeNP_app] at hpre
 refine wpIn_wide.2 (acodeN_sound KK (E0:=E) (w0:=w) hE (fun s' E' a' w' hZ hS' hA' => ?_) (fun e s' E' a' w' _ hq _ _=>hq.elim) _ _ hpre E _ w hS (Along.refl _ _))
 rw [tail_eq]
 refine (wpIn_wide (n:=9)).1 (wpIn_seq (wpIn_seq (wpIn_wide.2 ?_)))
 unfold acodeNP at hZ
 rw [acodeP_real] at hZ
 refine wp_mono (acode_sound KK.hq KK.hdp KK.hm KK.hT r16C _ s' hZ E w E' a' w' hE hS' hA') fun e a2 w2 ⟨_,E2,⟨sl,h1,h2⟩,hS2,hA2⟩ => ?_
 subst h1
 cases e with
 | normal =>
   unfold seqQ acodeNP at h2
   obtain ⟨E3,hS3,hA3⟩:=h2 E w E2 a2 w2 hE hS2 hA2
   exact loop_in hE rfl rfl hn (by omega) hsum hS3 hA3
 | _=>exact h2.elim
theorem con77:ConOk Try.prog 77 ⟨[(.tmp 0 true [(.dat (.list UR)),(.dat (.int .i64))]),(.tmp 1 false [(.dat .str)]),(.tmp 2 false [(.dat (.int .i64))]),(.tmp 3 false [(.dat (.int .i64))])],[(.tmp 0 false [(.dat (.int .i64))]),(.tmp 1 false [(.dat (.int .u8))])],rating_Cost⟩ :=
 ConOk.mk (by kernel_rfl) rfl rfl (fun _ _ h=>cost_o h)
end Go.Proofs.Ytkpijdndakljjaa

set_option maxRecDepth 1000000
set_option maxHeartbeats 0
namespace Go.Proofs.Ytkpijdndakljjaa
open Go.RowKit
def plan41:List (Nat×PL):=[]
noncomputable def billing_within:(Int×(Int×Int))→Option Bool:=fun (a1,(a2,a3)) =>
 bif (decide (a1≥a2)) then
 some (decide (a1≤a3))
 else
 some Bool.false
noncomputable def cons41:List (Nat×CE):=[]
theorem cons41_ok:ConL Try.prog cons41:=trivial
noncomputable def ce41:CE:=⟨[(.tmp 0 false [dI]),(.tmp 1 false [dI]),(.tmp 2 false [dI])],[(.tmp 0 false [dO])],billing_within⟩
theorem con41:ConOk Try.prog 41 ce41 :=
 tree_ok (plan:=planOf plan41) (eg:=egNo) KK tabL_ok (conOf_ok cons41_ok) Try.func41 (by kernel_rfl) (by kernel_rfl) 10000 (fun a r h=>Eq.trans (show _=billing_within a from by kernel_rfl) h)
def plan43:List (Nat×PL):=[(134480385,(.carry [.tmp 3 false [dI]])),(35253225785350,(.carry [.tmp 3 false [dI]]))]
noncomputable def billing_openCount:(List (LU×(LU×(LU×(Int×(Int×(Int×(Int×(Int×(Int×Bool))))))))))→Option Int:=fun a1 =>
 joinO (loopO (fun v2 =>
 bif (decide (v2<(((List.length a1):Nat):Int))) then
 bif (decide (((0:Int)≤v2)∧(v2<(((List.length a1):Nat):Int)))) then
 bindO a1[(Int.toNat v2)]? fun x3 =>
 bif (decide (x3.2.2.2.2.2.2.1=(0:Int))) then
 some (Sum.inl (Go.IntKind.wrap .i64 (v2+(1:Int))))
 else
 outO (some (Sum.inl v2))
 else none
 else
 outO (some (Sum.inl v2))) (0:Int)) fun v5 =>
 some v5
noncomputable def cons43:List (Nat×CE):=[]
theorem cons43_ok:ConL Try.prog cons43:=trivial
noncomputable def ce43:CE:=⟨[(.tmp 0 false [(.dat (.list (.pair .str (.pair .str (.pair .str (.pair uI6 (.pair uI6 (.pair uI6 (.pair uI6 (.pair uI6 (.pair uI6 .bool)))))))))))])],[(.tmp 0 false [dI])],billing_openCount⟩
theorem con43:ConOk Try.prog 43 ce43 :=
 tree_ok (plan:=planOf plan43) (eg:=egNo) KK tabL_ok (conOf_ok cons43_ok) Try.func43 (by kernel_rfl) (by kernel_rfl) 10000 (fun a r h=>Eq.trans (show _=billing_openCount a from by kernel_rfl) h)
def plan55:List (Nat×PL):=[(262657,(.carry [])),(134480385,(.carry []))]
noncomputable def billing_validBill:((LU×(LU×(LU×(Int×(Int×(Int×(Int×(Int×(Int×Bool)))))))))×Int)→Option Bool:=fun ((a1,(a2,(a3,(a4,(a5,(a6,(a7,(a8,(a9,a10))))))))),a11) =>
 joinO (bindO (billing_within ((((List.length a1):Nat):Int),((1:Int),(200:Int)))) fun x12 =>
 bif (!x12) then
 outO (some Bool.false)
 else
 bif (decide ((((List.length a2):Nat):Int) > (200:Int))) then
 outO (some Bool.false)
 else
 bif (decide ((((List.length a3):Nat):Int) > (200:Int))) then
 outO (some Bool.false)
 else
 some (Sum.inl ())) fun _ =>
 joinO (bindO (billing_within (a4,((0:Int),a11))) fun x13 =>
 bif (!x13) then
 outO (some Bool.false)
 else
 bif (decide (a5≠(-1:Int))) then
 bindO (billing_within (a5,(a4,a11))) fun x14 =>
 bif (!x14) then
 outO (some Bool.false)
 else
 some (Sum.inl ())
 else
 some (Sum.inl ())) fun _ =>
 bindO (billing_within (a6,((maxA a4 a5),a11))) fun x15 =>
 bif (!x15) then
 some Bool.false
 else
 bif (decide (a7=(0:Int))) then
 bif (decide (a8=(0:Int))) then
 bif (decide (a9=(0:Int))) then
 some (!a10)
 else
 some Bool.false
 else
 some Bool.false
 else
 bif (decide (a5≠(-1:Int))) then
 bif (decide (a9≥(0:Int))) then
 bindO (rating_Seconds (a5,a6)) fun x16 =>
 some (decide (a8=x16))
 else
 some Bool.false
 else
 some Bool.false
noncomputable def ce76:CE:=⟨[(.tmp 0 false [dI]),(.tmp 1 false [dI])],[(.tmp 0 false [dI])],rating_Seconds⟩
noncomputable def cons55:List (Nat×CE):=[(76,ce76),(41,ce41)]
theorem cons55_ok:ConL Try.prog cons55:=⟨con76,con41,trivial⟩
noncomputable def ce55:CE:=⟨[(.tmp 0 true [dS,dS,dS,dI,dI,dI,dI,dI,dI,dO]),(.tmp 1 false [dI])],[(.tmp 0 false [dO])],billing_validBill⟩
theorem con55:ConOk Try.prog 55 ce55 :=
 tree_ok (plan:=planOf plan55) (eg:=egNo) KK tabL_ok (conOf_ok cons55_ok) Try.func55 (by kernel_rfl) (by kernel_rfl) 10000 (fun a r h=>Eq.trans (show _=billing_validBill a from by kernel_rfl) h)
def plan12:List (Nat×PL):=[(262657,(.carry [])),(18049651735527937,(.carry [.drop 4])),(2422583247133816450713606,(.carry [.tmp 31 false [dI],.tmp 4 false [dI]]))]
noncomputable def billing_Valid:(LN×(Int×(Int×((List (LU×(LU×(LU×(Int×(Int×(Int×(Int×(Int×(Int×Bool))))))))))×(Int×Int)))))→Option Bool:=fun (a1,(a2,(a3,(a4,(a5,a6))))) =>
 joinO (bindO (journal_Valid (a1,(a2,a3))) fun x7 =>
 bif (!x7) then
 outO (some Bool.false)
 else
 bindO (billing_within (a6,((0:Int),(1099511627776:Int)))) fun x8 =>
 bif (!x8) then
 outO (some Bool.false)
 else
 bindO (billing_within (a5,((0:Int),(1048576:Int)))) fun x9 =>
 bif (!x9) then
 outO (some Bool.false)
 else
 some (Sum.inl ())) fun _ =>
 bindO (billing_openCount a4) fun x10 =>
 bif (decide (x10 > (256:Int))) then
 some Bool.false
 else
 joinO (loopO (fun (v11,v12) =>
 bif (decide (v11<(((List.length a4):Nat):Int))) then
 bif (decide (((0:Int)≤v11)∧(v11<(((List.length a4):Nat):Int)))) then
 bindO a4[(Int.toNat v11)]? fun x13 =>
 bindO (billing_validBill ((x13.1,(x13.2.1,(x13.2.2.1,(x13.2.2.2.1,(x13.2.2.2.2.1,(x13.2.2.2.2.2.1,(x13.2.2.2.2.2.2.1,(x13.2.2.2.2.2.2.2.1,(x13.2.2.2.2.2.2.2.2.1,x13.2.2.2.2.2.2.2.2.2))))))))),a6)) fun x14 =>
 bif (!x14) then
 outO (outO (some Bool.false))
 else
 bif (decide (v11<x10)) then
 bif (decide (v11 > (0:Int))) then
 bindO (some (Go.IntKind.wrap .i64 (v11-(1:Int)))) fun x15 =>
 bif (decide (((0:Int)≤x15)∧(x15<(((List.length a4):Nat):Int)))) then
 bindO a4[(Int.toNat x15)]? fun x16 =>
 bif (!(Go.Op.bytesLess x16.1 x13.1)) then
 outO (outO (some Bool.false))
 else
 some (Sum.inl ((Go.IntKind.wrap .i64 (v11+(1:Int))),v12))
 else none
 else
 some (Sum.inl ((Go.IntKind.wrap .i64 (v11+(1:Int))),v12))
 else
 bindO (billing_within (x13.2.2.2.2.2.2.1,((Go.IntKind.wrap .i64 (v12+(1:Int))),a5))) fun x20 =>
 bif (!x20) then
 outO (outO (some Bool.false))
 else
 some (Sum.inl ((Go.IntKind.wrap .i64 (v11+(1:Int))),x13.2.2.2.2.2.2.1))
 else none
 else
 outO (some (Sum.inl ()))) ((0:Int),(0:Int))) fun _ =>
 some Bool.true
noncomputable def cej54:CE:=⟨[(.tmp 0 true [dY,dI,dI])],[(.tmp 0 false [dO])],journal_Valid⟩
noncomputable def cons12:List (Nat×CE):=[(54,cej54),(41,ce41),(43,ce43),(55,ce55)]
theorem cons12_ok:ConL Try.prog cons12:=⟨conj54,con41,con43,con55,trivial⟩
noncomputable def ce12:CE:=⟨[(.tmp 0 true [dY,dI,dI,(.dat (.list (.pair .str (.pair .str (.pair .str (.pair uI6 (.pair uI6 (.pair uI6 (.pair uI6 (.pair uI6 (.pair uI6 .bool))))))))))),dI,dI])],[(.tmp 0 false [dO])],billing_Valid⟩
theorem con12:ConOk Try.prog 12 ce12 :=
 tree_ok (plan:=planOf plan12) (eg:=egNo) KK tabL_ok (conOf_ok cons12_ok) Try.func12 (by kernel_rfl) (by kernel_rfl) 10000 (fun a r h=>Eq.trans (show _=billing_Valid a from by kernel_rfl) h)
def plan79:List (Nat×PL):=[(134479891,(.carry [.tmp 0 false [dI]])),(18049585431970305,(.carry [.drop 6,.tmp 5 false [dI]])),(4731590523478423373830,(.carry [.tmp 6 false [dI],.tmp 5 false [dI]]))]
noncomputable def billing_place:((List (LU×(LU×(LU×(Int×(Int×(Int×(Int×(Int×(Int×Bool))))))))))×LU)→Option (Int×Bool):=fun (a1,a2) =>
 joinO (joinO (loopO (fun (v3,v4) =>
 bif (decide (v4<v3)) then
 bindO (some (Int.fdiv (Go.IntKind.wrap .u64 (Go.IntKind.wrap .i64 (v4+v3))) (2:Int))) fun x7 =>
 bif (decide (((0:Int)≤(Go.IntKind.wrap .i64 x7))∧((Go.IntKind.wrap .i64 x7)<(((List.length a1):Nat):Int)))) then
 bindO a1[(Int.toNat (Go.IntKind.wrap .i64 x7))]? fun x9 =>
 bif (!(!(Go.Op.bytesLess x9.1 a2))) then
 some (Sum.inl (v3,(Go.IntKind.wrap .i64 ((Go.IntKind.wrap .i64 x7)+(1:Int)))))
 else
 some (Sum.inl ((Go.IntKind.wrap .i64 x7),v4))
 else none
 else
 outO (some (Sum.inl v4))) ((((List.length a1):Nat):Int),(0:Int))) fun v11 =>
 some (Sum.inl v11)) fun v12 =>
 bif (decide (v12<(((List.length a1):Nat):Int))) then
 bif (decide (((0:Int)≤v12)∧(v12<(((List.length a1):Nat):Int)))) then
 bindO a1[(Int.toNat v12)]? fun x13 =>
 some (v12,(decide (x13.1=a2)))
 else none
 else
 some (v12,Bool.false)
noncomputable def cons79:List (Nat×CE):=[]
theorem cons79_ok:ConL Try.prog cons79:=trivial
noncomputable def ce79:CE:=⟨[(.tmp 0 false [(.dat (.list (.pair .str (.pair .str (.pair .str (.pair uI6 (.pair uI6 (.pair uI6 (.pair uI6 (.pair uI6 (.pair uI6 .bool)))))))))))]),(.tmp 1 false [dS])],[(.tmp 0 false [dI]),(.tmp 1 false [dO])],billing_place⟩
theorem con79:ConOk Try.prog 79 ce79 :=
 tree_ok (plan:=planOf plan79) (eg:=egNo) KK tabL_ok (conOf_ok cons79_ok) Try.func79 (by kernel_rfl) (by kernel_rfl) 10000 (fun a r h=>Eq.trans (show _=billing_place a from by kernel_rfl) h)
def plan42:List (Nat×PL):=[]
noncomputable def billing_find:((LN×(Int×(Int×((List (LU×(LU×(LU×(Int×(Int×(Int×(Int×(Int×(Int×Bool))))))))))×(Int×Int)))))×LU)→Option (Int×Bool):=fun ((a1,(a2,(a3,(a4,(a5,a6))))),a7) =>
 bindO (billing_openCount a4) fun x8 =>
 bif (decide (((0:Int)≤x8)∧(x8≤(((List.length a4):Nat):Int)))) then
 bindO (billing_place ((List.take (Int.toNat x8) a4),a7)) fun (x11,x12) =>
 some (x11,x12)
 else none
noncomputable def cons42:List (Nat×CE):=[(43,ce43),(79,ce79)]
theorem cons42_ok:ConL Try.prog cons42:=⟨con43,con79,trivial⟩
noncomputable def ce42:CE:=⟨[(.tmp 0 true [dY,dI,dI,(.dat (.list (.pair .str (.pair .str (.pair .str (.pair uI6 (.pair uI6 (.pair uI6 (.pair uI6 (.pair uI6 (.pair uI6 .bool))))))))))),dI,dI]),(.tmp 1 false [dS])],[(.tmp 0 false [dI]),(.tmp 1 false [dO])],billing_find⟩
theorem con42:ConOk Try.prog 42 ce42 :=
 tree_ok (plan:=planOf plan42) (eg:=egNo) KK tabL_ok (conOf_ok cons42_ok) Try.func42 (by kernel_rfl) (by kernel_rfl) 10000 (fun a r h=>Eq.trans (show _=billing_find a from by kernel_rfl) h)
def plan45:List (Nat×PL):=[(134480385,(.carry [.tmp 5 false [(.own 10000006 5 uI8)]])),(18049651601311750,(.carry [.tmp 13 false [dI],.tmp 5 false [(.own 10000005 5 uI8)]])),(68853957121,(.carry [.tmp 5 false [(.own 10000003 5 uI8)],.dead 10000006])),(2422583229119624904966657,(.carry [.tmp 8 false [dI],.tmp 5 false [(.own 10000004 5 uI8)],.tmp 7 false [dI],.dead 10000005])),(9241421688456087558,(.carry [.tmp 32 false [dI],.tmp 5 false [(.own 10000001 5 uI8)],.dead 10000006])),(85237069749509028565965992133042374662,(.carry [.tmp 8 false [dI],.tmp 5 false [(.own 10000002 5 uI8)],.dead 10000005]))]
noncomputable def billing_data:(LN×(List LU))→Option LN:=fun (a1,a2) =>
 joinO (loopO (fun (v3,v4) =>
 bif (decide (v3<(((List.length a1):Nat):Int))) then
 joinO (bif (decide (((0:Int)≤v3)∧(v3<(((List.length a1):Nat):Int)))) then
 bindO a1[(Int.toNat v3)]? fun x5 =>
 bif (decide ((List.length v4)≤(List.length v4))) then
 loopO (fun (v6,v7) =>
 bif (decide (v6≥(0:Int))) then
 bif (decide ((0:Int)≤v6)) then
 bindO (some (Int.fdiv (Go.IntKind.wrap .u64 x5) ((2:Int) ^ (Min.min (Int.toNat v6) 64)))) fun x9 =>
 bif (decide ((List.length v7)≤(List.length v7))) then
 bif (decide (((List.length ((List.take (List.length v7) v7)++((Go.IntKind.wrap .u8 x9)::([]:List Int))))*1)≤140737488355328)) then
 bindO (some ((List.take (List.length v7) v7)++((Go.IntKind.wrap .u8 x9)::([]:List Int)))) fun x11 =>
 bif (decide ((List.length x11)≤(List.length x11))) then
 some (Sum.inl ((Go.IntKind.wrap .i64 (v6-(8:Int))),(List.take (List.length x11) x11)))
 else none
 else none
 else none
 else none
 else
 outO (bif (decide ((List.length v7)≤(List.length v7))) then
 some (Sum.inl (v6,((List.take (List.length v7) v7),x5)))
 else none)) ((56:Int),(List.take (List.length v4) v4))
 else none
 else none) fun (v13,(v14,v15)) =>
 bif (decide ((List.length v14)≤(List.length v14))) then
 some (Sum.inl ((Go.IntKind.wrap .i64 (v3+(1:Int))),(List.take (List.length v14) v14)))
 else none
 else
 outO (bif (decide ((List.length v4)≤(List.length v4))) then
 some (Sum.inl (List.take (List.length v4) v4))
 else none)) ((0:Int),([]:List Int))) fun v17 =>
 joinO (bif (decide ((List.length v17)≤(List.length v17))) then
 loopO (fun (v18,v19) =>
 bif (decide (v18<(((List.length a2):Nat):Int))) then
 bif (decide (((0:Int)≤v18)∧(v18<(((List.length a2):Nat):Int)))) then
 bindO a2[(Int.toNat v18)]? fun x20 =>
 bindO (some (Int.fdiv (((List.length x20):Nat):Int) (256:Int))) fun x21 =>
 bindO (some (Go.IntKind.wrap .u8 (((List.length x20):Nat):Int))) fun x23 =>
 bif (decide ((List.length v19)≤(List.length v19))) then
 bif (decide (((List.length ((List.take (List.length v19) v19)++((Go.IntKind.wrap .u8 x21)::(x23::([]:List Int)))))*1)≤140737488355328)) then
 bindO (some ((List.take (List.length v19) v19)++((Go.IntKind.wrap .u8 x21)::(x23::([]:List Int))))) fun x24 =>
 bif (decide ((List.length x24)≤(List.length x24))) then
 bif (decide (((List.length ((List.take (List.length x24) x24)++(List.map (fun (x25:UInt8)=>(((UInt8.toNat x25):Nat):Int)) x20)))*1)≤140737488355328)) then
 bindO (some ((List.take (List.length x24) x24)++(List.map (fun (x27:UInt8)=>(((UInt8.toNat x27):Nat):Int)) x20))) fun x26 =>
 bif (decide ((List.length x26)≤(List.length x26))) then
 some (Sum.inl ((Go.IntKind.wrap .i64 (v18+(1:Int))),(List.take (List.length x26) x26)))
 else none
 else none
 else none
 else none
 else none
 else none
 else
 outO (bif (decide ((List.length v19)≤(List.length v19))) then
 some (Sum.inl (List.take (List.length v19) v19))
 else none)) ((0:Int),(List.take (List.length v17) v17))
 else none) fun v29 =>
 bif (decide ((List.length v29)≤(List.length v29))) then
 some (List.take (List.length v29) v29)
 else none
noncomputable def cons45:List (Nat×CE):=[]
theorem cons45_ok:ConL Try.prog cons45:=trivial
noncomputable def ce45:CE:=⟨[(.tmp 0 false [(.dat (.list uI6))]),(.tmp 1 false [(.dat (.list .str))])],[(.tmp 0 false [dY])],billing_data⟩
theorem con45:ConOk Try.prog 45 ce45 :=
 tree_ok (plan:=planOf plan45) (eg:=egNo) KK tabL_ok (conOf_ok cons45_ok) Try.func45 (by kernel_rfl) (by kernel_rfl) 10000 (fun a r h=>Eq.trans (show _=billing_data a from by kernel_rfl) h)
def plan44:List (Nat×PL):=[]
noncomputable def billing_write:((LN×(Int×Int))×(Int×LN))→Option ((LN×(Int×Int))×Int):=fun ((a1,(a2,a3)),(a4,a5)) =>
 bif (decide (a3≥(1048576:Int))) then
 some ((([]:List Int),((0:Int),(0:Int))),(10:Int))
 else
 bindO (journal_Append ((a1,(a2,a3)),(a4,a5))) fun ((x7,(x8,x9)),x10) =>
 some ((x7,(x8,x9)),x10)
noncomputable def cej30:CE:=⟨[(.tmp 0 true [dY,dI,dI]),(.tmp 1 true [dE8,dY])],[(.tmp 0 true [dY,dI,dI]),(.tmp 1 false [dE8])],journal_Append⟩
noncomputable def cons44:List (Nat×CE):=[(30,cej30)]
theorem cons44_ok:ConL Try.prog cons44:=⟨conj30,trivial⟩
noncomputable def ce44:CE:=⟨[(.tmp 0 true [dY,dI,dI]),(.tmp 1 false [dE8]),(.tmp 2 false [dY])],[(.tmp 0 true [dY,dI,dI]),(.tmp 1 false [dE8])],billing_write⟩
theorem con44:ConOk Try.prog 44 ce44 :=
 tree_ok (plan:=planOf plan44) (eg:=egNo) KK tabL_ok (conOf_ok cons44_ok) Try.func44 (by kernel_rfl) (by kernel_rfl) 10000 (fun a r h=>Eq.trans (show _=billing_write a from by kernel_rfl) h)
def plan48:List (Nat×PL):=[]
noncomputable def billing_begun:(Int×(LU×(LU×LU)))→Option (LU×(LU×(LU×(Int×(Int×(Int×(Int×(Int×(Int×Bool))))))))):=fun (a1,(a2,(a3,a4))) =>
 some (a2,(a3,(a4,(a1,((-1:Int),(a1,((0:Int),((0:Int),((0:Int),Bool.false)))))))))
noncomputable def cons48:List (Nat×CE):=[]
theorem cons48_ok:ConL Try.prog cons48:=trivial
noncomputable def ce48:CE:=⟨[(.tmp 0 false [dI]),(.tmp 1 false [dS]),(.tmp 2 false [dS]),(.tmp 3 false [dS])],[(.tmp 0 true [dS,dS,dS,dI,dI,dI,dI,dI,dI,dO])],billing_begun⟩
theorem con48:ConOk Try.prog 48 ce48 :=
 tree_ok (plan:=planOf plan48) (eg:=egNo) KK tabL_ok (conOf_ok cons48_ok) Try.func48 (by kernel_rfl) (by kernel_rfl) 10000 (fun a r h=>Eq.trans (show _=billing_begun a from by kernel_rfl) h)
def plan10:List (Nat×PL):=[(262657,(.carry []))]
noncomputable def billing_Begin:((LN×(Int×(Int×((List (LU×(LU×(LU×(Int×(Int×(Int×(Int×(Int×(Int×Bool))))))))))×(Int×Int)))))×(LU×(LU×(LU×(Int×(Int×(Int×(Int×(Int×(Int×Bool))))))))))→Option ((LN×(Int×(Int×((List (LU×(LU×(LU×(Int×(Int×(Int×(Int×(Int×(Int×Bool))))))))))×(Int×Int)))))×Int):=fun ((a1,(a2,(a3,(a4,(a5,a6))))),(a7,(a8,(a9,(a10,(a11,(a12,(a13,(a14,(a15,a16)))))))))) =>
 joinO (bindO (billing_Valid (a1,(a2,(a3,(a4,(a5,a6)))))) fun x17 =>
 bif (!x17) then
 outO (some ((([]:List Int),((0:Int),((0:Int),(([]:List (LU×(LU×(LU×(Int×(Int×(Int×(Int×(Int×(Int×Bool)))))))))),((0:Int),(0:Int)))))),(2:Int)))
 else
 bindO (billing_within (a10,(a6,(1099511627776:Int)))) fun x18 =>
 bif (!x18) then
 outO (some ((([]:List Int),((0:Int),((0:Int),(([]:List (LU×(LU×(LU×(Int×(Int×(Int×(Int×(Int×(Int×Bool)))))))))),((0:Int),(0:Int)))))),(2:Int)))
 else
 bindO (billing_within ((((List.length a7):Nat):Int),((1:Int),(200:Int)))) fun x19 =>
 bif (!x19) then
 outO (some ((([]:List Int),((0:Int),((0:Int),(([]:List (LU×(LU×(LU×(Int×(Int×(Int×(Int×(Int×(Int×Bool)))))))))),((0:Int),(0:Int)))))),(2:Int)))
 else
 bif (decide ((((List.length a8):Nat):Int) > (200:Int))) then
 outO (some ((([]:List Int),((0:Int),((0:Int),(([]:List (LU×(LU×(LU×(Int×(Int×(Int×(Int×(Int×(Int×Bool)))))))))),((0:Int),(0:Int)))))),(2:Int)))
 else
 bif (decide ((((List.length a9):Nat):Int) > (200:Int))) then
 outO (some ((([]:List Int),((0:Int),((0:Int),(([]:List (LU×(LU×(LU×(Int×(Int×(Int×(Int×(Int×(Int×Bool)))))))))),((0:Int),(0:Int)))))),(2:Int)))
 else
 some (Sum.inl ())) fun _ =>
 bindO (billing_find ((a1,(a2,(a3,(a4,(a5,a6))))),a7)) fun (x21,x22) =>
 bif x22 then
 some ((([]:List Int),((0:Int),((0:Int),(([]:List (LU×(LU×(LU×(Int×(Int×(Int×(Int×(Int×(Int×Bool)))))))))),((0:Int),(0:Int)))))),(7:Int))
 else
 bindO (billing_openCount a4) fun x23 =>
 bif (decide (x23≥(256:Int))) then
 some ((([]:List Int),((0:Int),((0:Int),(([]:List (LU×(LU×(LU×(Int×(Int×(Int×(Int×(Int×(Int×Bool)))))))))),((0:Int),(0:Int)))))),(10:Int))
 else
 bindO (billing_data ((a10::([]:List Int)),(a7::(a8::(a9::([]:List LU)))))) fun x24 =>
 bindO (billing_write ((a1,(a2,a3)),((1:Int),x24))) fun ((x26,(x27,x28)),x29) =>
 bif (decide (x29≠(0:Int))) then
 some ((([]:List Int),((0:Int),((0:Int),(([]:List (LU×(LU×(LU×(Int×(Int×(Int×(Int×(Int×(Int×Bool)))))))))),((0:Int),(0:Int)))))),x29)
 else
 bindO (cloneG a4) fun x30 =>
 bindO (billing_begun (a10,(a7,(a8,a9)))) fun (x32,(x33,(x34,(x35,(x36,(x37,(x38,(x39,(x40,x41))))))))) =>
 bif ((decide ((List.length x30)=(List.length x30)))&&Bool.true) then
 bindO (insG (x30,(x21,((x32,(x33,(x34,(x35,(x36,(x37,(x38,(x39,(x40,x41)))))))))::([]:List (LU×(LU×(LU×(Int×(Int×(Int×(Int×(Int×(Int×Bool)))))))))))))) fun x42 =>
 bif (decide ((List.length x42)≤(List.length x42))) then
 some ((x26,(x27,(x28,((List.take (List.length x42) x42),(a5,a10))))),(0:Int))
 else none
 else none
noncomputable def ce_clone_con47:CE:=⟨[.tmp 0 false [.dat (.list UBl)]],[.tmp 0 false [.own 1 29 UBl]],cloneG⟩
noncomputable def ce_clone_conm47:CE:=⟨[.tmp 0 false [.own 20000001 29 UBl]],[.tmp 0 false [.own 20000002 29 UBl]],cloneG⟩
noncomputable def ce_ins_con:CE:=⟨[.tmp 0 false [.own 20000001 29 UBl],.tmp 1 false [.dat uI6],.tmp 2 false [.own 20000002 29 UBl]],[.tmp 0 false [.own 20000003 29 UBl],.dead 20000001],insG⟩
noncomputable def cons10:List (Nat×CE):=[(47,ce_clone_con47),(1000000047,ce_clone_conm47),(1000000046,ce_ins_con),(41,ce41),(43,ce43),(12,ce12),(42,ce42),(45,ce45),(44,ce44),(48,ce48)]
theorem cons10_ok:ConL Try.prog cons10:=⟨clone_con47,clone_conm47,ins_con,con41,con43,con12,con42,con45,con44,con48,trivial⟩
noncomputable def ce10:CE:=⟨[(.tmp 0 true [dY,dI,dI,(.dat (.list (.pair .str (.pair .str (.pair .str (.pair uI6 (.pair uI6 (.pair uI6 (.pair uI6 (.pair uI6 (.pair uI6 .bool))))))))))),dI,dI]),(.tmp 1 true [dS,dS,dS,dI,dI,dI,dI,dI,dI,dO])],[(.tmp 0 true [dY,dI,dI,(.dat (.list (.pair .str (.pair .str (.pair .str (.pair uI6 (.pair uI6 (.pair uI6 (.pair uI6 (.pair uI6 (.pair uI6 .bool))))))))))),dI,dI]),(.tmp 1 false [dE8])],billing_Begin⟩
theorem con10:ConOk Try.prog 10 ce10 :=
 tree_ok (plan:=planOf plan10) (eg:=egNo) KK tabL_ok (conOf_ok cons10_ok) Try.func10 (by kernel_rfl) (by kernel_rfl) 10000 (fun a r h=>Eq.trans (show _=billing_Begin a from by kernel_rfl) h)
def plan60:List (Nat×PL):=[]
noncomputable def billing_touch:((LN×(Int×(Int×((List (LU×(LU×(LU×(Int×(Int×(Int×(Int×(Int×(Int×Bool))))))))))×(Int×Int)))))×(Int×(LU×Int)))→Option ((LN×(Int×(Int×((List (LU×(LU×(LU×(Int×(Int×(Int×(Int×(Int×(Int×Bool))))))))))×(Int×Int)))))×Int):=fun ((a1,(a2,(a3,(a4,(a5,a6))))),(a7,(a8,a9))) =>
 bindO (billing_Valid (a1,(a2,(a3,(a4,(a5,a6)))))) fun x10 =>
 bif (!x10) then
 some ((([]:List Int),((0:Int),((0:Int),(([]:List (LU×(LU×(LU×(Int×(Int×(Int×(Int×(Int×(Int×Bool)))))))))),((0:Int),(0:Int)))))),(2:Int))
 else
 bindO (billing_within (a9,(a6,(1099511627776:Int)))) fun x11 =>
 bif (!x11) then
 some ((([]:List Int),((0:Int),((0:Int),(([]:List (LU×(LU×(LU×(Int×(Int×(Int×(Int×(Int×(Int×Bool)))))))))),((0:Int),(0:Int)))))),(2:Int))
 else
 bindO (billing_find ((a1,(a2,(a3,(a4,(a5,a6))))),a8)) fun (x13,x14) =>
 bif (!x14) then
 some ((([]:List Int),((0:Int),((0:Int),(([]:List (LU×(LU×(LU×(Int×(Int×(Int×(Int×(Int×(Int×Bool)))))))))),((0:Int),(0:Int)))))),(8:Int))
 else
 bif (decide (a7=(2:Int))) then
 bif (decide (((0:Int)≤x13)∧(x13<(((List.length a4):Nat):Int)))) then
 bindO a4[(Int.toNat x13)]? fun x15 =>
 bif (decide (x15.2.2.2.2.1≠(-1:Int))) then
 some ((([]:List Int),((0:Int),((0:Int),(([]:List (LU×(LU×(LU×(Int×(Int×(Int×(Int×(Int×(Int×Bool)))))))))),((0:Int),(0:Int)))))),(9:Int))
 else
 bindO (billing_data ((a9::([]:List Int)),(a8::([]:List LU)))) fun x16 =>
 bindO (billing_write ((a1,(a2,a3)),(a7,x16))) fun ((x18,(x19,x20)),x21) =>
 bif (decide (x21≠(0:Int))) then
 some ((([]:List Int),((0:Int),((0:Int),(([]:List (LU×(LU×(LU×(Int×(Int×(Int×(Int×(Int×(Int×Bool)))))))))),((0:Int),(0:Int)))))),x21)
 else
 bindO (cloneG a4) fun x22 =>
 bif (decide (((0:Int)≤x13)∧(x13<(((List.length x22):Nat):Int)))) then
 bindO x22[(Int.toNat x13)]? fun x23 =>
 bif (decide (a7=(2:Int))) then
 bif (decide (((0:Int)≤x13)∧(x13<(((List.length x22):Nat):Int)))) then
 bindO (List.set x22 (Int.toNat x13) (x23.1,(x23.2.1,(x23.2.2.1,(x23.2.2.2.1,(x23.2.2.2.2.1,(a9,(x23.2.2.2.2.2.2.1,(x23.2.2.2.2.2.2.2.1,(x23.2.2.2.2.2.2.2.2.1,x23.2.2.2.2.2.2.2.2.2))))))))))[(Int.toNat x13)]? fun x24 =>
 bif (decide ((List.length x22)≤(List.length (List.set (List.set x22 (Int.toNat x13) (x23.1,(x23.2.1,(x23.2.2.1,(x23.2.2.2.1,(x23.2.2.2.2.1,(a9,(x23.2.2.2.2.2.2.1,(x23.2.2.2.2.2.2.2.1,(x23.2.2.2.2.2.2.2.2.1,x23.2.2.2.2.2.2.2.2.2)))))))))) (Int.toNat x13) (x24.1,(x24.2.1,(x24.2.2.1,(x24.2.2.2.1,(a9,(x24.2.2.2.2.2.1,(x24.2.2.2.2.2.2.1,(x24.2.2.2.2.2.2.2.1,(x24.2.2.2.2.2.2.2.2.1,x24.2.2.2.2.2.2.2.2.2))))))))))))) then
 some ((x18,(x19,(x20,((List.take (List.length x22) (List.set (List.set x22 (Int.toNat x13) (x23.1,(x23.2.1,(x23.2.2.1,(x23.2.2.2.1,(x23.2.2.2.2.1,(a9,(x23.2.2.2.2.2.2.1,(x23.2.2.2.2.2.2.2.1,(x23.2.2.2.2.2.2.2.2.1,x23.2.2.2.2.2.2.2.2.2)))))))))) (Int.toNat x13) (x24.1,(x24.2.1,(x24.2.2.1,(x24.2.2.2.1,(a9,(x24.2.2.2.2.2.1,(x24.2.2.2.2.2.2.1,(x24.2.2.2.2.2.2.2.1,(x24.2.2.2.2.2.2.2.2.1,x24.2.2.2.2.2.2.2.2.2))))))))))),(a5,a9))))),(0:Int))
 else none
 else none
 else
 bif (decide ((List.length x22)≤(List.length (List.set x22 (Int.toNat x13) (x23.1,(x23.2.1,(x23.2.2.1,(x23.2.2.2.1,(x23.2.2.2.2.1,(a9,(x23.2.2.2.2.2.2.1,(x23.2.2.2.2.2.2.2.1,(x23.2.2.2.2.2.2.2.2.1,x23.2.2.2.2.2.2.2.2.2))))))))))))) then
 some ((x18,(x19,(x20,((List.take (List.length x22) (List.set x22 (Int.toNat x13) (x23.1,(x23.2.1,(x23.2.2.1,(x23.2.2.2.1,(x23.2.2.2.2.1,(a9,(x23.2.2.2.2.2.2.1,(x23.2.2.2.2.2.2.2.1,(x23.2.2.2.2.2.2.2.2.1,x23.2.2.2.2.2.2.2.2.2))))))))))),(a5,a9))))),(0:Int))
 else none
 else none
 else none
 else
 bindO (billing_data ((a9::([]:List Int)),(a8::([]:List LU)))) fun x25 =>
 bindO (billing_write ((a1,(a2,a3)),(a7,x25))) fun ((x27,(x28,x29)),x30) =>
 bif (decide (x30≠(0:Int))) then
 some ((([]:List Int),((0:Int),((0:Int),(([]:List (LU×(LU×(LU×(Int×(Int×(Int×(Int×(Int×(Int×Bool)))))))))),((0:Int),(0:Int)))))),x30)
 else
 bindO (cloneG a4) fun x31 =>
 bif (decide (((0:Int)≤x13)∧(x13<(((List.length x31):Nat):Int)))) then
 bindO x31[(Int.toNat x13)]? fun x32 =>
 bif (decide (a7=(2:Int))) then
 bif (decide (((0:Int)≤x13)∧(x13<(((List.length x31):Nat):Int)))) then
 bindO (List.set x31 (Int.toNat x13) (x32.1,(x32.2.1,(x32.2.2.1,(x32.2.2.2.1,(x32.2.2.2.2.1,(a9,(x32.2.2.2.2.2.2.1,(x32.2.2.2.2.2.2.2.1,(x32.2.2.2.2.2.2.2.2.1,x32.2.2.2.2.2.2.2.2.2))))))))))[(Int.toNat x13)]? fun x33 =>
 bif (decide ((List.length x31)≤(List.length (List.set (List.set x31 (Int.toNat x13) (x32.1,(x32.2.1,(x32.2.2.1,(x32.2.2.2.1,(x32.2.2.2.2.1,(a9,(x32.2.2.2.2.2.2.1,(x32.2.2.2.2.2.2.2.1,(x32.2.2.2.2.2.2.2.2.1,x32.2.2.2.2.2.2.2.2.2)))))))))) (Int.toNat x13) (x33.1,(x33.2.1,(x33.2.2.1,(x33.2.2.2.1,(a9,(x33.2.2.2.2.2.1,(x33.2.2.2.2.2.2.1,(x33.2.2.2.2.2.2.2.1,(x33.2.2.2.2.2.2.2.2.1,x33.2.2.2.2.2.2.2.2.2))))))))))))) then
 some ((x27,(x28,(x29,((List.take (List.length x31) (List.set (List.set x31 (Int.toNat x13) (x32.1,(x32.2.1,(x32.2.2.1,(x32.2.2.2.1,(x32.2.2.2.2.1,(a9,(x32.2.2.2.2.2.2.1,(x32.2.2.2.2.2.2.2.1,(x32.2.2.2.2.2.2.2.2.1,x32.2.2.2.2.2.2.2.2.2)))))))))) (Int.toNat x13) (x33.1,(x33.2.1,(x33.2.2.1,(x33.2.2.2.1,(a9,(x33.2.2.2.2.2.1,(x33.2.2.2.2.2.2.1,(x33.2.2.2.2.2.2.2.1,(x33.2.2.2.2.2.2.2.2.1,x33.2.2.2.2.2.2.2.2.2))))))))))),(a5,a9))))),(0:Int))
 else none
 else none
 else
 bif (decide ((List.length x31)≤(List.length (List.set x31 (Int.toNat x13) (x32.1,(x32.2.1,(x32.2.2.1,(x32.2.2.2.1,(x32.2.2.2.2.1,(a9,(x32.2.2.2.2.2.2.1,(x32.2.2.2.2.2.2.2.1,(x32.2.2.2.2.2.2.2.2.1,x32.2.2.2.2.2.2.2.2.2))))))))))))) then
 some ((x27,(x28,(x29,((List.take (List.length x31) (List.set x31 (Int.toNat x13) (x32.1,(x32.2.1,(x32.2.2.1,(x32.2.2.2.1,(x32.2.2.2.2.1,(a9,(x32.2.2.2.2.2.2.1,(x32.2.2.2.2.2.2.2.1,(x32.2.2.2.2.2.2.2.2.1,x32.2.2.2.2.2.2.2.2.2))))))))))),(a5,a9))))),(0:Int))
 else none
 else none
noncomputable def cons60:List (Nat×CE):=[(47,ce_clone_con47),(1000000047,ce_clone_conm47),(41,ce41),(12,ce12),(42,ce42),(45,ce45),(44,ce44)]
theorem cons60_ok:ConL Try.prog cons60:=⟨clone_con47,clone_conm47,con41,con12,con42,con45,con44,trivial⟩
noncomputable def ce60:CE:=⟨[(.tmp 0 true [dY,dI,dI,(.dat (.list (.pair .str (.pair .str (.pair .str (.pair uI6 (.pair uI6 (.pair uI6 (.pair uI6 (.pair uI6 (.pair uI6 .bool))))))))))),dI,dI]),(.tmp 1 false [dE8]),(.tmp 2 false [dS]),(.tmp 3 false [dI])],[(.tmp 0 true [dY,dI,dI,(.dat (.list (.pair .str (.pair .str (.pair .str (.pair uI6 (.pair uI6 (.pair uI6 (.pair uI6 (.pair uI6 (.pair uI6 .bool))))))))))),dI,dI]),(.tmp 1 false [dE8])],billing_touch⟩
theorem con60:ConOk Try.prog 60 ce60 :=
 tree_ok (plan:=planOf plan60) (eg:=egNo) KK tabL_ok (conOf_ok cons60_ok) Try.func60 (by kernel_rfl) (by kernel_rfl) 10000 (fun a r h=>Eq.trans (show _=billing_touch a from by kernel_rfl) h)
def plan15:List (Nat×PL):=[]
noncomputable def billing_Answer:((LN×(Int×(Int×((List (LU×(LU×(LU×(Int×(Int×(Int×(Int×(Int×(Int×Bool))))))))))×(Int×Int)))))×(LU×Int))→Option ((LN×(Int×(Int×((List (LU×(LU×(LU×(Int×(Int×(Int×(Int×(Int×(Int×Bool))))))))))×(Int×Int)))))×Int):=fun ((a1,(a2,(a3,(a4,(a5,a6))))),(a7,a8)) =>
 bindO (billing_touch ((a1,(a2,(a3,(a4,(a5,a6))))),((2:Int),(a7,a8)))) fun ((x10,(x11,(x12,(x13,(x14,x15))))),x16) =>
 some ((x10,(x11,(x12,(x13,(x14,x15))))),x16)
noncomputable def cons15:List (Nat×CE):=[(60,ce60)]
theorem cons15_ok:ConL Try.prog cons15:=⟨con60,trivial⟩
noncomputable def ce15:CE:=⟨[(.tmp 0 true [dY,dI,dI,(.dat (.list (.pair .str (.pair .str (.pair .str (.pair uI6 (.pair uI6 (.pair uI6 (.pair uI6 (.pair uI6 (.pair uI6 .bool))))))))))),dI,dI]),(.tmp 1 false [dS]),(.tmp 2 false [dI])],[(.tmp 0 true [dY,dI,dI,(.dat (.list (.pair .str (.pair .str (.pair .str (.pair uI6 (.pair uI6 (.pair uI6 (.pair uI6 (.pair uI6 (.pair uI6 .bool))))))))))),dI,dI]),(.tmp 1 false [dE8])],billing_Answer⟩
theorem con15:ConOk Try.prog 15 ce15 :=
 tree_ok (plan:=planOf plan15) (eg:=egNo) KK tabL_ok (conOf_ok cons15_ok) Try.func15 (by kernel_rfl) (by kernel_rfl) 10000 (fun a r h=>Eq.trans (show _=billing_Answer a from by kernel_rfl) h)
def plan62:List (Nat×PL):=[(35253226045953,(.carry [.tmp 11 false [(.own 10000001 29 (.pair .str (.pair .str (.pair .str (.pair uI6 (.pair uI6 (.pair uI6 (.pair uI6 (.pair uI6 (.pair uI6 .bool))))))))))],.mix 9 [dS,dS,dS,dI,dI,dI,dI,dI,dI,dO],.mix 0 [dY,dI,dI,(.dat (.list (.pair .str (.pair .str (.pair .str (.pair uI6 (.pair uI6 (.pair uI6 (.pair uI6 (.pair uI6 (.pair uI6 .bool))))))))))),dI,dI],.dead 20]))]
noncomputable def billing_finish:((LN×(Int×(Int×((List (LU×(LU×(LU×(Int×(Int×(Int×(Int×(Int×(Int×Bool))))))))))×(Int×Int)))))×(((List (LU×(Int×(Int×(Int×(List ((Int×(Int×Int))×(Int×Int))))))))×Int)×(Int×Int)))→Option ((LN×(Int×(Int×((List (LU×(LU×(LU×(Int×(Int×(Int×(Int×(Int×(Int×Bool))))))))))×(Int×Int)))))×Int):=fun ((a1,(a2,(a3,(a4,(a5,a6))))),((a7,a8),(a9,a10))) =>
 bif (decide (((0:Int)≤a9)∧(a9<(((List.length a4):Nat):Int)))) then
 bindO a4[(Int.toNat a9)]? fun x11 =>
 bindO (cloneG a4) fun x12 =>
 bif (decide ((List.length x12)=(List.length x12))) then
 bindO (delG (x12,(a9,(Go.IntKind.wrap .i64 (a9+(1:Int)))))) fun x14 =>
 joinO (bif (decide (x11.2.2.2.2.1≠(-1:Int))) then
 bif (decide (a5≥(1048576:Int))) then
 outO (some ((([]:List Int),((0:Int),((0:Int),(([]:List (LU×(LU×(LU×(Int×(Int×(Int×(Int×(Int×(Int×Bool)))))))))),((0:Int),(0:Int)))))),(10:Int)))
 else
 bindO (some (Go.IntKind.wrap .i64 (a5+(1:Int)))) fun x15 =>
 bindO (rating_Seconds (x11.2.2.2.2.1,a10)) fun x16 =>
 bindO (rating_Cost ((a7,a8),(x11.2.2.1,(x11.2.2.2.2.1,a10)))) fun (x18,x19) =>
 bif (decide (x19=(0:Int))) then
 bif (decide ((List.length x14)≤(List.length x14))) then
 bif (decide (((List.length ((List.take (List.length x14) x14)++((x11.1,(x11.2.1,(x11.2.2.1,(x11.2.2.2.1,(x11.2.2.2.2.1,(a10,(x15,(x16,(x18,x11.2.2.2.2.2.2.2.2.2)))))))))::([]:List (LU×(LU×(LU×(Int×(Int×(Int×(Int×(Int×(Int×Bool)))))))))))))*104)≤140737488355328)) then
 bindO (some ((List.take (List.length x14) x14)++((x11.1,(x11.2.1,(x11.2.2.1,(x11.2.2.2.1,(x11.2.2.2.2.1,(a10,(x15,(x16,(x18,x11.2.2.2.2.2.2.2.2.2)))))))))::([]:List (LU×(LU×(LU×(Int×(Int×(Int×(Int×(Int×(Int×Bool))))))))))))) fun x20 =>
 bif (decide ((List.length x20)≤(List.length x20))) then
 some (Sum.inl ((List.take (List.length x20) x20),((x11.1,(x11.2.1,(x11.2.2.1,(x11.2.2.2.1,(x11.2.2.2.2.1,(a10,(x15,(x16,(x18,x11.2.2.2.2.2.2.2.2.2))))))))),(a1,(a2,(a3,(a4,(x15,a6))))))))
 else none
 else none
 else none
 else
 bif (decide ((List.length x14)≤(List.length x14))) then
 bif (decide (((List.length ((List.take (List.length x14) x14)++((x11.1,(x11.2.1,(x11.2.2.1,(x11.2.2.2.1,(x11.2.2.2.2.1,(a10,(x15,(x16,(x11.2.2.2.2.2.2.2.2.1,x11.2.2.2.2.2.2.2.2.2)))))))))::([]:List (LU×(LU×(LU×(Int×(Int×(Int×(Int×(Int×(Int×Bool)))))))))))))*104)≤140737488355328)) then
 bindO (some ((List.take (List.length x14) x14)++((x11.1,(x11.2.1,(x11.2.2.1,(x11.2.2.2.1,(x11.2.2.2.2.1,(a10,(x15,(x16,(x11.2.2.2.2.2.2.2.2.1,x11.2.2.2.2.2.2.2.2.2)))))))))::([]:List (LU×(LU×(LU×(Int×(Int×(Int×(Int×(Int×(Int×Bool))))))))))))) fun x21 =>
 bif (decide ((List.length x21)≤(List.length x21))) then
 some (Sum.inl ((List.take (List.length x21) x21),((x11.1,(x11.2.1,(x11.2.2.1,(x11.2.2.2.1,(x11.2.2.2.2.1,(a10,(x15,(x16,(x11.2.2.2.2.2.2.2.2.1,x11.2.2.2.2.2.2.2.2.2))))))))),(a1,(a2,(a3,(a4,(x15,a6))))))))
 else none
 else none
 else none
 else
 bif (decide ((List.length x14)≤(List.length x14))) then
 some (Sum.inl ((List.take (List.length x14) x14),((x11.1,(x11.2.1,(x11.2.2.1,(x11.2.2.2.1,(x11.2.2.2.2.1,(a10,(x11.2.2.2.2.2.2.1,(x11.2.2.2.2.2.2.2.1,(x11.2.2.2.2.2.2.2.2.1,x11.2.2.2.2.2.2.2.2.2))))))))),(a1,(a2,(a3,(a4,(a5,a6))))))))
 else none) fun (v22,((v23,(v24,(v25,(v26,(v27,(v28,(v29,(v30,(v31,v32))))))))),(v33,(v34,(v35,(v36,(v37,v38))))))) =>
 bindO (billing_data ((a10::(v29::(v30::(v31::([]:List Int))))),(v23::([]:List LU)))) fun x39 =>
 bindO (billing_write ((v33,(v34,v35)),((4:Int),x39))) fun ((x41,(x42,x43)),x44) =>
 bif (decide (x44≠(0:Int))) then
 some ((([]:List Int),((0:Int),((0:Int),(([]:List (LU×(LU×(LU×(Int×(Int×(Int×(Int×(Int×(Int×Bool)))))))))),((0:Int),(0:Int)))))),x44)
 else
 bif (decide ((List.length v22)≤(List.length v22))) then
 some ((x41,(x42,(x43,((List.take (List.length v22) v22),(v37,v38))))),(0:Int))
 else none
 else none
 else none
noncomputable def ce_del_con:CE:=⟨[.tmp 0 false [.own 20000001 29 UBl],.tmp 1 false [.dat uI6],.tmp 2 false [.dat uI6]],[.tmp 0 false [.own 20000003 29 UBl],.dead 20000001],delG⟩
noncomputable def ce77:CE:=⟨[(.tmp 0 true [(.dat (.list UR)),dI]),(.tmp 1 false [dS]),(.tmp 2 false [dI]),(.tmp 3 false [dI])],[(.tmp 0 false [dI]),(.tmp 1 false [dE8])],rating_Cost⟩
noncomputable def cons62:List (Nat×CE):=[(76,ce76),(47,ce_clone_con47),(1000000047,ce_clone_conm47),(1000000088,ce_del_con),(77,ce77),(45,ce45),(44,ce44)]
theorem cons62_ok:ConL Try.prog cons62:=⟨con76,clone_con47,clone_conm47,del_con,con77,con45,con44,trivial⟩
noncomputable def ce62:CE:=⟨[(.tmp 0 true [dY,dI,dI,(.dat (.list (.pair .str (.pair .str (.pair .str (.pair uI6 (.pair uI6 (.pair uI6 (.pair uI6 (.pair uI6 (.pair uI6 .bool))))))))))),dI,dI]),(.tmp 1 true [(.dat (.list (.pair .str (.pair uI6 (.pair uI6 (.pair uI6 (.list (.pair (.pair uI8 (.pair uI6 uI6)) (.pair uI6 uI6))))))))),dI]),(.tmp 2 false [dI]),(.tmp 3 false [dI])],[(.tmp 0 true [dY,dI,dI,(.dat (.list (.pair .str (.pair .str (.pair .str (.pair uI6 (.pair uI6 (.pair uI6 (.pair uI6 (.pair uI6 (.pair uI6 .bool))))))))))),dI,dI]),(.tmp 1 false [dE8])],billing_finish⟩
theorem con62:ConOk Try.prog 62 ce62 :=
 tree_ok (plan:=planOf plan62) (eg:=egNo) KK tabL_ok (conOf_ok cons62_ok) Try.func62 (by kernel_rfl) (by kernel_rfl) 10000 (fun a r h=>Eq.trans (show _=billing_finish a from by kernel_rfl) h)
def plan20:List (Nat×PL):=[(262657,(.carry []))]
noncomputable def billing_End:((LN×(Int×(Int×((List (LU×(LU×(LU×(Int×(Int×(Int×(Int×(Int×(Int×Bool))))))))))×(Int×Int)))))×(((List (LU×(Int×(Int×(Int×(List ((Int×(Int×Int))×(Int×Int))))))))×Int)×(LU×Int)))→Option ((LN×(Int×(Int×((List (LU×(LU×(LU×(Int×(Int×(Int×(Int×(Int×(Int×Bool))))))))))×(Int×Int)))))×Int):=fun ((a1,(a2,(a3,(a4,(a5,a6))))),((a7,a8),(a9,a10))) =>
 joinO (bindO (billing_Valid (a1,(a2,(a3,(a4,(a5,a6)))))) fun x11 =>
 bif (!x11) then
 outO (some ((([]:List Int),((0:Int),((0:Int),(([]:List (LU×(LU×(LU×(Int×(Int×(Int×(Int×(Int×(Int×Bool)))))))))),((0:Int),(0:Int)))))),(2:Int)))
 else
 bindO (billing_within (a10,(a6,(1099511627776:Int)))) fun x12 =>
 bif (!x12) then
 outO (some ((([]:List Int),((0:Int),((0:Int),(([]:List (LU×(LU×(LU×(Int×(Int×(Int×(Int×(Int×(Int×Bool)))))))))),((0:Int),(0:Int)))))),(2:Int)))
 else
 bindO (rating_Valid (a7,a8)) fun x13 =>
 bif (!x13) then
 outO (some ((([]:List Int),((0:Int),((0:Int),(([]:List (LU×(LU×(LU×(Int×(Int×(Int×(Int×(Int×(Int×Bool)))))))))),((0:Int),(0:Int)))))),(2:Int)))
 else
 some (Sum.inl ())) fun _ =>
 bindO (billing_find ((a1,(a2,(a3,(a4,(a5,a6))))),a9)) fun (x15,x16) =>
 bif (!x16) then
 some ((([]:List Int),((0:Int),((0:Int),(([]:List (LU×(LU×(LU×(Int×(Int×(Int×(Int×(Int×(Int×Bool)))))))))),((0:Int),(0:Int)))))),(8:Int))
 else
 bindO (billing_finish ((a1,(a2,(a3,(a4,(a5,a6))))),((a7,a8),(x15,a10)))) fun ((x18,(x19,(x20,(x21,(x22,x23))))),x24) =>
 bif (decide (x24≠(0:Int))) then
 some ((([]:List Int),((0:Int),((0:Int),(([]:List (LU×(LU×(LU×(Int×(Int×(Int×(Int×(Int×(Int×Bool)))))))))),((0:Int),(0:Int)))))),x24)
 else
 some ((x18,(x19,(x20,(x21,(x22,a10))))),(0:Int))
noncomputable def ce61:CE:=⟨[(.tmp 0 true [(.dat (.list (.pair .str (.pair uI6 (.pair uI6 (.pair uI6 (.list (.pair (.pair uI8 (.pair uI6 uI6)) (.pair uI6 uI6))))))))),dI])],[(.tmp 0 false [dO])],rating_Valid⟩
noncomputable def cons20:List (Nat×CE):=[(61,ce61),(41,ce41),(12,ce12),(42,ce42),(62,ce62)]
theorem cons20_ok:ConL Try.prog cons20:=⟨con61,con41,con12,con42,con62,trivial⟩
noncomputable def ce20:CE:=⟨[(.tmp 0 true [dY,dI,dI,(.dat (.list (.pair .str (.pair .str (.pair .str (.pair uI6 (.pair uI6 (.pair uI6 (.pair uI6 (.pair uI6 (.pair uI6 .bool))))))))))),dI,dI]),(.tmp 1 true [(.dat (.list (.pair .str (.pair uI6 (.pair uI6 (.pair uI6 (.list (.pair (.pair uI8 (.pair uI6 uI6)) (.pair uI6 uI6))))))))),dI]),(.tmp 2 false [dS]),(.tmp 3 false [dI])],[(.tmp 0 true [dY,dI,dI,(.dat (.list (.pair .str (.pair .str (.pair .str (.pair uI6 (.pair uI6 (.pair uI6 (.pair uI6 (.pair uI6 (.pair uI6 .bool))))))))))),dI,dI]),(.tmp 1 false [dE8])],billing_End⟩
theorem con20:ConOk Try.prog 20 ce20 :=
 tree_ok (plan:=planOf plan20) (eg:=egNo) KK tabL_ok (conOf_ok cons20_ok) Try.func20 (by kernel_rfl) (by kernel_rfl) 10000 (fun a r h=>Eq.trans (show _=billing_End a from by kernel_rfl) h)
def plan24:List (Nat×PL):=[(134480385,(.carry [])),(18049651601311750,(.carry [.tmp 23 false [dI]]))]
noncomputable def billing_Next:(LN×(Int×(Int×((List (LU×(LU×(LU×(Int×(Int×(Int×(Int×(Int×(Int×Bool))))))))))×(Int×Int)))))→Option ((LU×(LU×(LU×(Int×(Int×(Int×(Int×(Int×(Int×Bool)))))))))×Bool):=fun (a1,(a2,(a3,(a4,(a5,a6))))) =>
 bindO (billing_Valid (a1,(a2,(a3,(a4,(a5,a6)))))) fun x7 =>
 bif (!x7) then
 some ((([]:List UInt8),(([]:List UInt8),(([]:List UInt8),((0:Int),((0:Int),((0:Int),((0:Int),((0:Int),((0:Int),Bool.false))))))))),Bool.false)
 else
 bif (decide (a2≠(((List.length a1):Nat):Int))) then
 some ((([]:List UInt8),(([]:List UInt8),(([]:List UInt8),((0:Int),((0:Int),((0:Int),((0:Int),((0:Int),((0:Int),Bool.false))))))))),Bool.false)
 else
 joinO (loopO (fun v8 =>
 bif (decide (v8<(((List.length a4):Nat):Int))) then
 bif (decide (((0:Int)≤v8)∧(v8<(((List.length a4):Nat):Int)))) then
 bindO a4[(Int.toNat v8)]? fun x9 =>
 bif (decide (x9.2.2.2.2.2.2.1≠(0:Int))) then
 bif (!x9.2.2.2.2.2.2.2.2.2) then
 outO (outO (some ((x9.1,(x9.2.1,(x9.2.2.1,(x9.2.2.2.1,(x9.2.2.2.2.1,(x9.2.2.2.2.2.1,(x9.2.2.2.2.2.2.1,(x9.2.2.2.2.2.2.2.1,(x9.2.2.2.2.2.2.2.2.1,x9.2.2.2.2.2.2.2.2.2))))))))),Bool.true)))
 else
 some (Sum.inl (Go.IntKind.wrap .i64 (v8+(1:Int))))
 else
 some (Sum.inl (Go.IntKind.wrap .i64 (v8+(1:Int))))
 else none
 else
 outO (some (Sum.inl ()))) (0:Int)) fun _ =>
 some ((([]:List UInt8),(([]:List UInt8),(([]:List UInt8),((0:Int),((0:Int),((0:Int),((0:Int),((0:Int),((0:Int),Bool.false))))))))),Bool.false)
noncomputable def cons24:List (Nat×CE):=[(12,ce12)]
theorem cons24_ok:ConL Try.prog cons24:=⟨con12,trivial⟩
noncomputable def ce24:CE:=⟨[(.tmp 0 true [dY,dI,dI,(.dat (.list (.pair .str (.pair .str (.pair .str (.pair uI6 (.pair uI6 (.pair uI6 (.pair uI6 (.pair uI6 (.pair uI6 .bool))))))))))),dI,dI])],[(.tmp 0 true [dS,dS,dS,dI,dI,dI,dI,dI,dI,dO]),(.tmp 1 false [dO])],billing_Next⟩
theorem con24:ConOk Try.prog 24 ce24 :=
 tree_ok (plan:=planOf plan24) (eg:=egNo) KK tabL_ok (conOf_ok cons24_ok) Try.func24 (by kernel_rfl) (by kernel_rfl) 10000 (fun a r h=>Eq.trans (show _=billing_Next a from by kernel_rfl) h)
def plan22:List (Nat×PL):=[(68853956627,(.carry [.tmp 0 false [dI]])),(18049651606028801,(.carry [])),(2422583229752736638830598,(.carry [.tmp 8 false [dI]]))]
noncomputable def billing_Given:((LN×(Int×(Int×((List (LU×(LU×(LU×(Int×(Int×(Int×(Int×(Int×(Int×Bool))))))))))×(Int×Int)))))×Int)→Option ((LN×(Int×(Int×((List (LU×(LU×(LU×(Int×(Int×(Int×(Int×(Int×(Int×Bool))))))))))×(Int×Int)))))×Int):=fun ((a1,(a2,(a3,(a4,(a5,a6))))),a7) =>
 bindO (billing_Valid (a1,(a2,(a3,(a4,(a5,a6)))))) fun x8 =>
 bif (!x8) then
 some ((([]:List Int),((0:Int),((0:Int),(([]:List (LU×(LU×(LU×(Int×(Int×(Int×(Int×(Int×(Int×Bool)))))))))),((0:Int),(0:Int)))))),(2:Int))
 else
 joinO (joinO (loopO (fun v9 =>
 bif (decide (v9<(((List.length a4):Nat):Int))) then
 bif (decide (((0:Int)≤v9)∧(v9<(((List.length a4):Nat):Int)))) then
 bindO a4[(Int.toNat v9)]? fun x10 =>
 bif (decide (x10.2.2.2.2.2.2.1≠(0:Int))) then
 bif (decide (x10.2.2.2.2.2.2.1=a7)) then
 outO (outO (some (Sum.inl v9)))
 else
 some (Sum.inl (Go.IntKind.wrap .i64 (v9+(1:Int))))
 else
 some (Sum.inl (Go.IntKind.wrap .i64 (v9+(1:Int))))
 else none
 else
 outO (some (Sum.inl ()))) (0:Int)) fun _ =>
 some (Sum.inl (-1:Int))) fun v13 =>
 bif (decide (v13<(0:Int))) then
 some ((([]:List Int),((0:Int),((0:Int),(([]:List (LU×(LU×(LU×(Int×(Int×(Int×(Int×(Int×(Int×Bool)))))))))),((0:Int),(0:Int)))))),(8:Int))
 else
 bif (decide (((0:Int)≤v13)∧(v13<(((List.length a4):Nat):Int)))) then
 bindO a4[(Int.toNat v13)]? fun x14 =>
 bif x14.2.2.2.2.2.2.2.2.2 then
 some ((([]:List Int),((0:Int),((0:Int),(([]:List (LU×(LU×(LU×(Int×(Int×(Int×(Int×(Int×(Int×Bool)))))))))),((0:Int),(0:Int)))))),(9:Int))
 else
 bindO (billing_data ((a7::([]:List Int)),([]:List LU))) fun x15 =>
 bindO (billing_write ((a1,(a2,a3)),((5:Int),x15))) fun ((x17,(x18,x19)),x20) =>
 bif (decide (x20≠(0:Int))) then
 some ((([]:List Int),((0:Int),((0:Int),(([]:List (LU×(LU×(LU×(Int×(Int×(Int×(Int×(Int×(Int×Bool)))))))))),((0:Int),(0:Int)))))),x20)
 else
 bindO (cloneG a4) fun x21 =>
 bif (decide (((0:Int)≤v13)∧(v13<(((List.length x21):Nat):Int)))) then
 bindO x21[(Int.toNat v13)]? fun x22 =>
 bif (decide ((List.length x21)≤(List.length (List.set x21 (Int.toNat v13) (x22.1,(x22.2.1,(x22.2.2.1,(x22.2.2.2.1,(x22.2.2.2.2.1,(x22.2.2.2.2.2.1,(x22.2.2.2.2.2.2.1,(x22.2.2.2.2.2.2.2.1,(x22.2.2.2.2.2.2.2.2.1,Bool.true))))))))))))) then
 some ((x17,(x18,(x19,((List.take (List.length x21) (List.set x21 (Int.toNat v13) (x22.1,(x22.2.1,(x22.2.2.1,(x22.2.2.2.1,(x22.2.2.2.2.1,(x22.2.2.2.2.2.1,(x22.2.2.2.2.2.2.1,(x22.2.2.2.2.2.2.2.1,(x22.2.2.2.2.2.2.2.2.1,Bool.true))))))))))),(a5,a6))))),(0:Int))
 else none
 else none
 else none
noncomputable def cons22:List (Nat×CE):=[(47,ce_clone_con47),(1000000047,ce_clone_conm47),(12,ce12),(45,ce45),(44,ce44)]
theorem cons22_ok:ConL Try.prog cons22:=⟨clone_con47,clone_conm47,con12,con45,con44,trivial⟩
noncomputable def ce22:CE:=⟨[(.tmp 0 true [dY,dI,dI,(.dat (.list (.pair .str (.pair .str (.pair .str (.pair uI6 (.pair uI6 (.pair uI6 (.pair uI6 (.pair uI6 (.pair uI6 .bool))))))))))),dI,dI]),(.tmp 1 false [dI])],[(.tmp 0 true [dY,dI,dI,(.dat (.list (.pair .str (.pair .str (.pair .str (.pair uI6 (.pair uI6 (.pair uI6 (.pair uI6 (.pair uI6 (.pair uI6 .bool))))))))))),dI,dI]),(.tmp 1 false [dE8])],billing_Given⟩
theorem con22:ConOk Try.prog 22 ce22 :=
 tree_ok (plan:=planOf plan22) (eg:=egNo) KK tabL_ok (conOf_ok cons22_ok) Try.func22 (by kernel_rfl) (by kernel_rfl) 10000 (fun a r h=>Eq.trans (show _=billing_Given a from by kernel_rfl) h)
def plan26:List (Nat×PL):=[]
noncomputable def billing_Sync:(LN×(Int×(Int×((List (LU×(LU×(LU×(Int×(Int×(Int×(Int×(Int×(Int×Bool))))))))))×(Int×Int)))))→Option (LN×(Int×(Int×((List (LU×(LU×(LU×(Int×(Int×(Int×(Int×(Int×(Int×Bool))))))))))×(Int×Int))))):=fun (a1,(a2,(a3,(a4,(a5,a6))))) =>
 bindO (billing_Valid (a1,(a2,(a3,(a4,(a5,a6)))))) fun x7 =>
 bif (!x7) then
 some (([]:List Int),((0:Int),((0:Int),(([]:List (LU×(LU×(LU×(Int×(Int×(Int×(Int×(Int×(Int×Bool)))))))))),((0:Int),(0:Int))))))
 else
 bindO (journal_Sync (a1,(a2,a3))) fun (x9,(x10,x11)) =>
 bindO (cloneG a4) fun x12 =>
 bif (decide ((List.length x12)≤(List.length x12))) then
 some (x9,(x10,(x11,((List.take (List.length x12) x12),(a5,a6)))))
 else none
noncomputable def cej68:CE:=⟨[(.tmp 0 true [dY,dI,dI])],[(.tmp 0 true [dY,dI,dI])],journal_Sync⟩
noncomputable def cons26:List (Nat×CE):=[(68,cej68),(47,ce_clone_con47),(1000000047,ce_clone_conm47),(12,ce12)]
theorem cons26_ok:ConL Try.prog cons26:=⟨conj68,clone_con47,clone_conm47,con12,trivial⟩
noncomputable def ce26:CE:=⟨[(.tmp 0 true [dY,dI,dI,(.dat (.list (.pair .str (.pair .str (.pair .str (.pair uI6 (.pair uI6 (.pair uI6 (.pair uI6 (.pair uI6 (.pair uI6 .bool))))))))))),dI,dI])],[(.tmp 0 true [dY,dI,dI,(.dat (.list (.pair .str (.pair .str (.pair .str (.pair uI6 (.pair uI6 (.pair uI6 (.pair uI6 (.pair uI6 (.pair uI6 .bool))))))))))),dI,dI])],billing_Sync⟩
theorem con26:ConOk Try.prog 26 ce26 :=
 tree_ok (plan:=planOf plan26) (eg:=egNo) KK tabL_ok (conOf_ok cons26_ok) Try.func26 (by kernel_rfl) (by kernel_rfl) 10000 (fun a r h=>Eq.trans (show _=billing_Sync a from by kernel_rfl) h)
noncomputable def dialtoneref38_bill:((LU×(LU×(LU×(Int×(Int×(Int×(Int×(Int×(Int×Bool)))))))))×Int)→Option Bool:=fun ((a1,(a2,(a3,(a4,(a5,(a6,(a7,(a8,(a9,a10))))))))),a11) =>
 joinO (bif (decide (a1=([]:List UInt8))) then
 outO (some Bool.false)
 else
 bif (decide ((((List.length a1):Nat):Int) > (200:Int))) then
 outO (some Bool.false)
 else
 bif (decide ((((List.length a2):Nat):Int) > (200:Int))) then
 outO (some Bool.false)
 else
 bif (decide ((((List.length a3):Nat):Int) > (200:Int))) then
 outO (some Bool.false)
 else
 bif (decide (a4<(0:Int))) then
 outO (some Bool.false)
 else
 bif (decide (a4 > a11)) then
 outO (some Bool.false)
 else
 bif (decide (a6<a4)) then
 outO (some Bool.false)
 else
 bif (decide (a6 > a11)) then
 outO (some Bool.false)
 else
 some (Sum.inl ())) fun _ =>
 joinO (bif (decide (a5≠(-1:Int))) then
 bif (decide (a5<a4)) then
 outO (some Bool.false)
 else
 bif (decide (a5 > a6)) then
 outO (some Bool.false)
 else
 some (Sum.inl ())
 else
 some (Sum.inl ())) fun _ =>
 bif (decide (a7=(0:Int))) then
 bif (decide (a8=(0:Int))) then
 bif (decide (a9=(0:Int))) then
 some (!a10)
 else
 some Bool.false
 else
 some Bool.false
 else
 bif (decide (a5≠(-1:Int))) then
 bif (decide (a9≥(0:Int))) then
 bindO (dialtoneref37_Seconds (a5,a6)) fun x12 =>
 some (decide (a8=x12))
 else
 some Bool.false
 else
 some Bool.false
noncomputable def dialtoneref38_Open:(LN×(Int×(Int×((List (LU×(LU×(LU×(Int×(Int×(Int×(Int×(Int×(Int×Bool))))))))))×(Int×Int)))))→Option Int:=fun (a1,(a2,(a3,(a4,(a5,a6))))) =>
 joinO (loopO (fun v7 =>
 bif (decide (v7<(((List.length a4):Nat):Int))) then
 bif (decide (((0:Int)≤v7)∧(v7<(((List.length a4):Nat):Int)))) then
 bindO a4[(Int.toNat v7)]? fun x8 =>
 bif (decide (x8.2.2.2.2.2.2.1=(0:Int))) then
 some (Sum.inl (Go.IntKind.wrap .i64 (v7+(1:Int))))
 else
 outO (some (Sum.inl v7))
 else none
 else
 outO (some (Sum.inl v7))) (0:Int)) fun v10 =>
 some v10
noncomputable def dialtoneref38_Valid:(LN×(Int×(Int×((List (LU×(LU×(LU×(Int×(Int×(Int×(Int×(Int×(Int×Bool))))))))))×(Int×Int)))))→Option Bool:=fun (a1,(a2,(a3,(a4,(a5,a6))))) =>
 joinO (bindO (dialtoneref20_Valid (a1,(a2,a3))) fun x7 =>
 bif (!x7) then
 outO (some Bool.false)
 else
 bif (decide (a6<(0:Int))) then
 outO (some Bool.false)
 else
 bif (decide (a6 > (1099511627776:Int))) then
 outO (some Bool.false)
 else
 bif (decide (a5<(0:Int))) then
 outO (some Bool.false)
 else
 bif (decide (a5 > (1048576:Int))) then
 outO (some Bool.false)
 else
 some (Sum.inl ())) fun _ =>
 bindO (dialtoneref38_Open (a1,(a2,(a3,(a4,(a5,a6)))))) fun x8 =>
 joinO (loopO (fun (v9,v10) =>
 bif (decide (v9<(((List.length a4):Nat):Int))) then
 bif (decide (((0:Int)≤v9)∧(v9<(((List.length a4):Nat):Int)))) then
 bindO a4[(Int.toNat v9)]? fun x11 =>
 bindO (dialtoneref38_bill ((x11.1,(x11.2.1,(x11.2.2.1,(x11.2.2.2.1,(x11.2.2.2.2.1,(x11.2.2.2.2.2.1,(x11.2.2.2.2.2.2.1,(x11.2.2.2.2.2.2.2.1,(x11.2.2.2.2.2.2.2.2.1,x11.2.2.2.2.2.2.2.2.2))))))))),a6)) fun x12 =>
 bif (!x12) then
 outO (outO (some Bool.false))
 else
 bif (decide (v9<x8)) then
 bif (decide (v9 > (0:Int))) then
 bindO (some (Go.IntKind.wrap .i64 (v9-(1:Int)))) fun x13 =>
 bif (decide (((0:Int)≤x13)∧(x13<(((List.length a4):Nat):Int)))) then
 bindO a4[(Int.toNat x13)]? fun x14 =>
 bif (!(Go.Op.bytesLess x14.1 x11.1)) then
 outO (outO (some Bool.false))
 else
 some (Sum.inl ((Go.IntKind.wrap .i64 (v9+(1:Int))),v10))
 else none
 else
 some (Sum.inl ((Go.IntKind.wrap .i64 (v9+(1:Int))),v10))
 else
 bif (decide (x11.2.2.2.2.2.2.1≤v10)) then
 outO (outO (some Bool.false))
 else
 bif (decide (x11.2.2.2.2.2.2.1 > a5)) then
 outO (outO (some Bool.false))
 else
 some (Sum.inl ((Go.IntKind.wrap .i64 (v9+(1:Int))),x11.2.2.2.2.2.2.1))
 else none
 else
 outO (some (Sum.inl ()))) ((0:Int),(0:Int))) fun _ =>
 some (decide (x8≤(256:Int)))
noncomputable def dialtoneref38_Next:(LN×(Int×(Int×((List (LU×(LU×(LU×(Int×(Int×(Int×(Int×(Int×(Int×Bool))))))))))×(Int×Int)))))→Option ((LU×(LU×(LU×(Int×(Int×(Int×(Int×(Int×(Int×Bool)))))))))×Bool):=fun (a1,(a2,(a3,(a4,(a5,a6))))) =>
 bindO (dialtoneref38_Valid (a1,(a2,(a3,(a4,(a5,a6)))))) fun x7 =>
 bif (!x7) then
 some ((([]:List UInt8),(([]:List UInt8),(([]:List UInt8),((0:Int),((0:Int),((0:Int),((0:Int),((0:Int),((0:Int),Bool.false))))))))),Bool.false)
 else
 bif (decide (a2≠(((List.length a1):Nat):Int))) then
 some ((([]:List UInt8),(([]:List UInt8),(([]:List UInt8),((0:Int),((0:Int),((0:Int),((0:Int),((0:Int),((0:Int),Bool.false))))))))),Bool.false)
 else
 joinO (bindO (dialtoneref38_Open (a1,(a2,(a3,(a4,(a5,a6)))))) fun x8 =>
 loopO (fun v9 =>
 bif (decide (v9<(((List.length a4):Nat):Int))) then
 bif (decide (((0:Int)≤v9)∧(v9<(((List.length a4):Nat):Int)))) then
 bindO a4[(Int.toNat v9)]? fun x10 =>
 bif (!x10.2.2.2.2.2.2.2.2.2) then
 bif (decide (((0:Int)≤v9)∧(v9<(((List.length a4):Nat):Int)))) then
 bindO a4[(Int.toNat v9)]? fun x11 =>
 outO (outO (some ((x11.1,(x11.2.1,(x11.2.2.1,(x11.2.2.2.1,(x11.2.2.2.2.1,(x11.2.2.2.2.2.1,(x11.2.2.2.2.2.2.1,(x11.2.2.2.2.2.2.2.1,(x11.2.2.2.2.2.2.2.2.1,x11.2.2.2.2.2.2.2.2.2))))))))),Bool.true)))
 else none
 else
 some (Sum.inl (Go.IntKind.wrap .i64 (v9+(1:Int))))
 else none
 else
 outO (some (Sum.inl ()))) x8) fun _ =>
 some ((([]:List UInt8),(([]:List UInt8),(([]:List UInt8),((0:Int),((0:Int),((0:Int),((0:Int),((0:Int),((0:Int),Bool.false))))))))),Bool.false)
def plan28:List (Nat×PL):=[]
noncomputable def dialtonelaw38_tariff:PUnit→Option ((List (LU×(Int×(Int×(Int×(List ((Int×(Int×Int))×(Int×Int))))))))×Int):=fun _ =>
 some (((([]:List UInt8),((0:Int),((1:Int),((1:Int),((((127:Int),((0:Int),(1440:Int))),((1000:Int),(1000:Int)))::([]:List ((Int×(Int×Int))×(Int×Int))))))))::([]:List (LU×(Int×(Int×(Int×(List ((Int×(Int×Int))×(Int×Int))))))))),(0:Int))
noncomputable def cons28:List (Nat×CE):=[]
theorem cons28_ok:ConL Try.prog cons28:=trivial
noncomputable def ce28:CE:=⟨[],[(.tmp 0 true [(.dat (.list (.pair .str (.pair uI6 (.pair uI6 (.pair uI6 (.list (.pair (.pair uI8 (.pair uI6 uI6)) (.pair uI6 uI6))))))))),dI])],dialtonelaw38_tariff⟩
theorem con28:ConOk Try.prog 28 ce28 :=
 tree_ok (plan:=planOf plan28) (eg:=egNo) KK tabL_ok (conOf_ok cons28_ok) Try.func28 (by kernel_rfl) (by kernel_rfl) 10000 (fun a r h=>Eq.trans (show _=dialtonelaw38_tariff a from by kernel_rfl) h)
end Go.Proofs.Ytkpijdndakljjaa

set_option maxRecDepth 1000000
set_option maxHeartbeats 0
namespace Go.Proofs.Ytkpijdndakljjaa
open Go.RowKit
def plan31:List (Nat×PL):=[]
noncomputable def billing_New:PUnit→Option (LN×(Int×(Int×((List (LU×(LU×(LU×(Int×(Int×(Int×(Int×(Int×(Int×Bool))))))))))×(Int×Int))))):=fun _ =>
 some (([]:List Int),((0:Int),((0:Int),(([]:List (LU×(LU×(LU×(Int×(Int×(Int×(Int×(Int×(Int×Bool)))))))))),((0:Int),(0:Int))))))
noncomputable def cons31:List (Nat×CE):=[]
theorem cons31_ok:ConL Try.prog cons31:=trivial
noncomputable def ce31:CE:=⟨[],[(.tmp 0 true [dY,dI,dI,(.dat (.list (.pair .str (.pair .str (.pair .str (.pair uI6 (.pair uI6 (.pair uI6 (.pair uI6 (.pair uI6 (.pair uI6 .bool))))))))))),dI,dI])],billing_New⟩
theorem con31:ConOk Try.prog 31 ce31 :=
 tree_ok (plan:=planOf plan31) (eg:=egNo) KK tabL_ok (conOf_ok cons31_ok) Try.func31 (by kernel_rfl) (by kernel_rfl) 10000 (fun a r h=>Eq.trans (show _=billing_New a from by kernel_rfl) h)
def plan9:List (Nat×PL):=[]
noncomputable def dialtonelaw38_awake:PUnit→Option Bool:=fun _ =>
 bindO (billing_New ()) fun (x2,(x3,(x4,(x5,(x6,x7))))) =>
 bindO (billing_Begin ((x2,(x3,(x4,(x5,(x6,x7))))),(((99:UInt8)::([]:List UInt8)),(((97:UInt8)::([]:List UInt8)),(((98:UInt8)::([]:List UInt8)),((1000:Int),((0:Int),((0:Int),((0:Int),((0:Int),((0:Int),Bool.false))))))))))) fun ((x9,(x10,(x11,(x12,(x13,x14))))),x15) =>
 bindO (billing_Answer ((x9,(x10,(x11,(x12,(x13,x14))))),(((99:UInt8)::([]:List UInt8)),(2000:Int)))) fun ((x17,(x18,(x19,(x20,(x21,x22))))),x23) =>
 bindO (billing_Sync (x17,(x18,(x19,(x20,(x21,x22)))))) fun (x25,(x26,(x27,(x28,(x29,x30))))) =>
 bindO (billing_Next (x25,(x26,(x27,(x28,(x29,x30)))))) fun ((x32,(x33,(x34,(x35,(x36,(x37,(x38,(x39,(x40,x41))))))))),x42) =>
 bindO (dialtonelaw38_tariff ()) fun (x44,x45) =>
 bindO (billing_End ((x17,(x18,(x19,(x20,(x21,x22))))),((x44,x45),(((99:UInt8)::([]:List UInt8)),(4500:Int))))) fun ((x47,(x48,(x49,(x50,(x51,x52))))),x53) =>
 bindO (billing_Next (x47,(x48,(x49,(x50,(x51,x52)))))) fun ((x55,(x56,(x57,(x58,(x59,(x60,(x61,(x62,(x63,x64))))))))),x65) =>
 bindO (billing_Sync (x47,(x48,(x49,(x50,(x51,x52)))))) fun (x67,(x68,(x69,(x70,(x71,x72))))) =>
 bindO (billing_Next (x67,(x68,(x69,(x70,(x71,x72)))))) fun ((x74,(x75,(x76,(x77,(x78,(x79,(x80,(x81,(x82,x83))))))))),x84) =>
 bif (decide (x15=(0:Int))) then
 bif (decide (x23=(0:Int))) then
 bif (decide (x53=(0:Int))) then
 bif (!x42) then
 bif (!x65) then
 bif x84 then
 some ((decide (x74=((99:UInt8)::([]:List UInt8))))&&((decide (x75=((97:UInt8)::([]:List UInt8))))&&((decide (x76=((98:UInt8)::([]:List UInt8))))&&((decide (x77=(1000:Int)))&&((decide (x78=(2000:Int)))&&((decide (x79=(4500:Int)))&&((decide (x80=(1:Int)))&&((decide (x81=(3:Int)))&&((decide (x82=(3000:Int)))&&(x83==Bool.false))))))))))
 else
 some Bool.false
 else
 some Bool.false
 else
 some Bool.false
 else
 some Bool.false
 else
 some Bool.false
 else
 some Bool.false
noncomputable def cons9:List (Nat×CE):=[(10,ce10),(15,ce15),(20,ce20),(24,ce24),(26,ce26),(28,ce28),(31,ce31)]
theorem cons9_ok:ConL Try.prog cons9:=⟨con10,con15,con20,con24,con26,con28,con31,trivial⟩
noncomputable def ce9:CE:=⟨[],[(.tmp 0 false [dO])],dialtonelaw38_awake⟩
theorem con9:ConOk Try.prog 9 ce9 :=
 tree_ok (plan:=planOf plan9) (eg:=egNo) KK tabL_ok (conOf_ok cons9_ok) Try.func9 (by kernel_rfl) (by kernel_rfl) 10000 (fun a r h=>Eq.trans (show _=dialtonelaw38_awake a from by kernel_rfl) h)
end Go.Proofs.Ytkpijdndakljjaa
