import Derived.Test.YtkpijdndakljjaaGreatV5p
import Derived.Shelf.Abstract
import Derived.Test.YtkpijdndakljjaaGreatZrp
import Derived.Test.YtkpijdndakljjaaGreatFp
import Derived.Test.YtkpijdndakljjaaGreatXBp
set_option linter.unusedSimpArgs false
set_option linter.unusedVariables false
namespace Go.Proofs.YtkpijdndakljjaaGreat
open Go.RowKit
set_option maxRecDepth 100000
theorem Lj {E:En} {r off:Nat} {cs:List AV} {v:Value} (h:E.hp r=some (.mix cs)) (hr:Rel E (.ptr r off) v):∃b z,E.m r=some (b,z)/\v = .pointer (some ⟨b,off,none⟩):=by
 rw [Rel,h] at hr;exact hr
theorem Qy {E:En} {k:IntKind} {n:Int} {u:Value} (h:Rel E (.d (.val (.int k n))) u):u = .int k n:=by
 rw [Rel,dL] at h;exact h.1
theorem lH {E:En} {x:AV} {xs:List AV} {vs:List Value} (h:aW E (x::xs) vs):∃v vs',vs=v::vs'/\Rel E x v/\aW E xs vs':=by rw [aW] at h;exact h
theorem aam {E:En} {vs:List Value} (h:aW E [] vs):vs=[]:=by rw [aW] at h;exact h
theorem Ll {w:World} {b o:Nat} {cur:Array Value} {t:TypeId} {v:Value} (h:w.heap[b]? = some (.cells cur t (0,0))) (hv:cur.toList[o]? = some v):w.cell? ⟨b,o,none⟩=some v:=by
 rw [o9];unfold iQ;rw [h];simpa using hv
section
variable {rb:ByteArray} {rc rf ji at0 np:Int} {pl:List tJ} {pcells:List DV} {pn:Nat}
theorem ad3 {E:En} {w:World} {tm:Array Value} {s:Int} (hS:sF iV 87 E ⟨tm,[]⟩ w (Gs rb rc rf ji at0 np pcells pn s).S):∃b7 b8 b9,tm.getD 65 undef = .func (.func 94) #[] #[.pointer (some ⟨b7,0,none⟩),.pointer (some ⟨b8,0,none⟩),.pointer (some ⟨b9,0,none⟩)] /\
 w.cell? ⟨b7,0,none⟩=some (.int .i64 at0)/\w.cell? ⟨b8,0,none⟩=some (.int .i64 np)/\w.cell? ⟨b9,2,none⟩=some (.int .i64 rf)/\w.cell? ⟨b9,3,none⟩=some (.int .i64 ji):=by
 have hr:Rel E (.clo 94 [.ptr 7 0,.ptr 8 0,.ptr 9 0]) (tm.getD 65 undef):=hS.tm 65;have hh:∀r,E.hp r=(Gs rb rc rf ji at0 np pcells pn s).rd r:=fun r=>congrFun hS.hp r;have hE:E.h=w.heap:=hS.h.symm;rw [Rel] at hr;obtain ⟨⟨v1,v2⟩,⟨hv,hsz⟩,hrl⟩:=hr;have h1:v1 = #[]:=Array.eq_empty_of_size_eq_zero hsz;subst h1;obtain ⟨u7,l7,e7,g7,hrl⟩:=lH hrl;obtain ⟨u8,l8,e8,g8,hrl⟩:=lH hrl;obtain ⟨u9,l9,e9,g9,hrl⟩:=lH hrl;have e10:=aam hrl;subst e10 e9 e8;have e11:v2.toList=[u7,u8,u9]:=by simpa using e7
 have e12:v2 = #[u7,u8,u9]:=by rw [<-Array.toList_inj];exact e11
 subst e12;have k7:E.hp 7=some (.mix [.d (.val (.int .i64 at0))]):=hh 7;have k8:E.hp 8=some (.mix [.d (.val (.int .i64 np))]):=hh 8;have k9:E.hp 9=some (.mix [.d (.val (.string rb)),.d (.val (.int .i64 rc)),.d (.val (.int .i64 rf)),.d (.val (.int .i64 ji)),.d (.dl pcells pn none)]):=hh 9;obtain ⟨b7,z7,m7,rfl⟩:=Lj k7 g7;obtain ⟨b8,z8,m8,rfl⟩:=Lj k8 g8;obtain ⟨b9,z9,m9,rfl⟩:=Lj k9 g9;refine ⟨b7,b8,b9,hv,?_,?_,?_,?_⟩
 ·obtain ⟨b,cur,t,q1,q2,q3,_⟩:=hS.sim.ob _ _ k7;rw [m7] at q1;cases q1;obtain ⟨x0,y0,c0,r0,q3⟩:=lH q3;rw [Qy r0] at c0;exact Ll (by rw [<-hE];exact q2) (by rw [c0];rfl)
 ·obtain ⟨b,cur,t,q1,q2,q3,_⟩:=hS.sim.ob _ _ k8;rw [m8] at q1;cases q1;obtain ⟨x0,y0,c0,r0,q3⟩:=lH q3;rw [Qy r0] at c0;exact Ll (by rw [<-hE];exact q2) (by rw [c0];rfl)
 all_goals
  obtain ⟨b,cur,t,q1,q2,q3,_⟩:=hS.sim.ob _ _ k9;rw [m9] at q1;cases q1;obtain ⟨x0,y0,c0,r0,q3⟩:=lH q3;obtain ⟨x1,y1,c1,r1,q3⟩:=lH q3;obtain ⟨x2,y2,c2,r2,q3⟩:=lH q3;obtain ⟨x3,y3,c3,r3,q3⟩:=lH q3;rw [Qy r2] at c2;rw [Qy r3] at c3;subst c3 c2 c1;exact Ll (by rw [<-hE];exact q2) (by rw [c0];rfl)
noncomputable abbrev akz:Code:=match (spine 11 BQ).2 with | .seq (.seq _ b) _=>b | _ => .skip
noncomputable abbrev akA:Code:=match (spine 11 BQ).2 with | .seq (.seq y _) _=>y | _ => .skip
theorem akB:akz = .block 0 (.rangeFunc (.tmp 65) #[66,67] agM agN):=by kernel_rfl
theorem Yq:(spine 11 BQ).2 = .seq (.seq akA akz) agO:=by kernel_rfl
def akC (E0:En) (w0:World) (v:AV):Ending->World->Prop:=fun e w'=>∃u E',e = .returned u/\w'.heap=E'.h/\E'.hp=aV []/\fZ iV E'/\Ext E0 E'/\oK E0 w0 E' w'/\Rel E' v u
theorem Lm {E0 E:En} {w0 w:World} {a:Act} {D:Nat} {sl:SL} {v:AV} (h0:E0.hp=aV []) (hS:nN [{target := .collected D,args := #[]}] iV 87 E a w sl.S) (hA:dK E0 w0 E w) (hD:w0.heap.size<=D) (hDo:w.heap[D]? = some (.deferred (some [])))
 (hq:match DU (vw (aX Tryz.prog) uM) Tryz.f51 sl with | some x=>Back [] sl.hp [] v x | none=>False):LeavesInM Fence.wide 9 Tryz.prog Tryz.f51 a.tmps (akC E0 w0 v) a.defers .returning w:=by
 rw [hS.dq];refine ⟨by simp,.inl ⟨D,_,rfl,run_takeDeferred hDo,?_⟩⟩;obtain ⟨hS1,hA1,_⟩:=Lh (w':=w.putObj D (.deferred none)) hS.sm hA rfl rfl rfl (by simp) (EI hD hDo rfl rfl);rw [<-KK.hT] at hq;obtain ⟨x,k1,θ,k0,k2,k3⟩:∃x,DU (aX Tryz.prog) Tryz.f51 sl=some x/\Back [] sl.hp [] v x:=by
  cases hx:DU (aX Tryz.prog) Tryz.f51 sl with
  | none=>rw [hx] at hq;exact hq.elim
  | some x=>rw [hx] at hq;exact ⟨x,rfl,hq⟩
 obtain ⟨y,g1,g2⟩:=DW hS1 k1;have hp:({E with h:=(w.putObj D (.deferred none)).heap}:En).hp=aV sl.hp:=hS1.hp;rw [<-hp] at k2 k3;exact ⟨y,g1,y,lq {E with h:=(w.putObj D (.deferred none)).heap} θ (aV []),rfl,hS1.h,rfl,qE hS1.sim k2,wW hA1 k2 (fun r o ho=>by rw [h0] at ho;exact k0 r o ho),qF k2 hA1.fr,uF hS1.sim k2 _ _ _ k3 g2⟩
set_option maxHeartbeats 1000000 in
theorem agW {E0 E:En} {w0 w:World} {a:Act} (h0:E0.hp=aV []) (hcp:aU UP pl=pcells) (hnp:pl.length=pn) {n:Nat} (hn:np=(n:Int)) (hn1:(n:Int)<=4000000000000000000) {S:Int} (hsum:EK pl rc (sJ at0 rf ji) n=some S) (hS:sF iV 87 E a w (Gs rb rc rf ji at0 np pcells pn rc).S) (hA:dK E0 w0 E w) :
 akz.wpIn Fence.wide 9 Tryz.prog (Exit.then (agO.wpIn Fence.wide 9 Tryz.prog (bodyPostM Fence.wide 9 Tryz.prog Tryz.f51 (akC E0 w0 (.tup [.d (.val (.int .i64 S)),.d (.val (.int .u8 0))])))) (bodyPostM Fence.wide 9 Tryz.prog Tryz.f51 (akC E0 w0 (.tup [.d (.val (.int .i64 S)),.d (.val (.int .u8 0))])))) a w:=by
 obtain ⟨tm,df⟩:=a;have hdf:df=[]:=hS.df;subst hdf;rw [akB];refine wpIn_block (wpIn_rangeFunc ?_);intro fn _;obtain ⟨b7,b8,b9,hv,_⟩:=ad3 hS;have hg:(⟨tm,[]⟩:Act).eval (.tmp 65) = .func (.func 94) #[] #[.pointer (some ⟨b7,0,none⟩),.pointer (some ⟨b8,0,none⟩),.pointer (some ⟨b9,0,none⟩)]:=hv;have hD0:w0.heap.size<=w.heap.size:=hA.fr.size;obtain ⟨W1,hW1⟩:∃W1,(w.alloc (.deferred (some []))).alloc (.loop (EJ fn tm w.heap.size .ready none))=W1:=⟨_,rfl⟩
 have hL1:W1.heap[w.heap.size+1]? = some (.loop (EJ fn tm w.heap.size .ready none)):=by
  rw [<-hW1];have:=World.alloc_heap_new (w.alloc (.deferred (some []))) (.loop (EJ fn tm w.heap.size .ready none));rwa [World.size_alloc] at this
 have hK1:W1.heap[w.heap.size]? = some (.deferred (some [])):=by
  rw [<-hW1];exact (Below.heap_alloc _ _ _ (by simp)).trans (World.alloc_heap_new w _)
 have hB1:Below w.heap.size w W1:=by
  rw [<-hW1];exact (((Below.refl _ w).alloc (Nat.le_refl _) _).alloc (by simp) _)
 obtain ⟨hS1,hA1,_⟩:=Lh (w':=W1) hS hA hB1.os hB1.tape hB1.output hB1.size (fun k hk => .inl (hB1.block k hk))
 refine ⟨w.heap.size+1,[{target := .collected w.heap.size,args := #[]}],W1,{target := .fn (.func 94) #[.pointer (some ⟨b7,0,none⟩),.pointer (some ⟨b8,0,none⟩),.pointer (some ⟨b9,0,none⟩)],args := #[.func (.yield (w.heap.size+1)) #[] #[]]},W1,94,
  #[.func (.yield (w.heap.size+1)) #[] #[],.pointer (some ⟨b7,0,none⟩),.pointer (some ⟨b8,0,none⟩),.pointer (some ⟨b9,0,none⟩)],W1,?_,?_,fun _ _=>trivial,?_,fun g=>(by cases g),?_⟩
 ·rw [<-hW1];exact run_enterLoop_outer _ _ _ _ _
 ·simp only [resolve,hg];simp [go_sem]
 ·have eg:=Go.Proofs.enters_of Tryz.func94 (by kernel_rfl) rfl;simp [invoke,go_sem,eg]
 ·refine (agL 8 (w.heap.size+1) b7 b8 b9 at0 rf ji n hn1 (aky rb rc rf ji at0 np pl pcells pn E0 w0 tm w.heap.size (w.heap.size+1) fn) ?_ ?_ W1 ⟨_,rc,rfl,hS1,hA1,hK1,hL1⟩).mono ?_
  ·rintro k W ⟨E',s,_,hS',_⟩;obtain ⟨c7,c8,c9,hv',r1,r2,r3,r4⟩:=ad3 hS';rw [hv] at hv';cases hv';rw [hn] at r2;exact ⟨r1,r2,r3,r4⟩
  ·intro k W hk hI;obtain ⟨s',hs'⟩:=Yp hsum (k+1) (by omega);exact ad2 h0 hcp hnp hD0 (by omega) (by omega) hI hs' 7
  ·rintro e W2 ⟨⟨v,rfl⟩,E2,s2,hs2,hS2,hA2,hD2,hL2⟩;rw [hsum] at hs2;cases hs2;refine ⟨none,_,run_endLoop hL2 (by simp [EJ]),?_⟩;obtain ⟨hS3,hA3,_⟩:=Lh (w':=W2.putObj (w.heap.size+1) (.loop {EJ fn tm w.heap.size .ready none with state := .exhausted})) hS2 hA2 rfl rfl rfl (by simp) (EI (by omega) hL2 rfl rfl);have hD3:(W2.putObj (w.heap.size+1) (.loop {EJ fn tm w.heap.size .ready none with state := .exhausted})).heap[w.heap.size]? = some (.deferred (some [])):=(World.putObj_heap_other (by omega)).trans hD2;generalize W2.putObj (w.heap.size+1) (.loop {EJ fn tm w.heap.size .ready none with state := .exhausted})=w4 at *
   have hp:=iW (df:=[{target := .collected w.heap.size,args := #[]}]) (hp0:=E2.hp) (anJ Tryz.prog) 9 KK.hq KK.hdp KK.hm KK.hT agO _ (Gs rb rc rf ji at0 np pcells pn S) (by kernel_rfl) (by rw [<-iL];exact agP);refine wpIn_mono (hp {E2 with h:=w4.heap} w4 {E2 with h:=w4.heap} _ w4 rfl ⟨hS3,rfl⟩ (dK.refl _ _)) ?_;rintro e a5 w5 ⟨_,E5,⟨sl,rfl,hq⟩,hS5,hA5⟩;have hD5:=EH hS3 hA5 hD3 rfl rfl;cases e with
   | normal=>exact Lm h0 hS5 (hA3.trans hA5) hD0 hD5 hq
   | ret=>exact Lm h0 hS5 (hA3.trans hA5) hD0 hD5 hq
   | exit i=>exact hq.elim
   | goto l=>exact hq.elim
   | panic ch=>exact hq.elim
   | outgrown=>exact hq.elim
end
set_option maxRecDepth 100000
theorem Iq {p:Pr} {C:Po} {T:Ty} {q:Nat->Bool} {N:Nat} {Z:SL->Prop} {Q:Exit->SL->Prop}:∀(xs ys:List Code) (s:SL),mJ p C T iV q N Z (xs++ys) Q s=mJ p C T iV q N (fun s'=>mJ p C T iV q N Z ys Q s') xs Q s
 | [],ys,s=>rfl
 | x::xs,ys,s=>by
   rw [List.cons_append,mJ,mJ];have:(fun s'=>mJ p C T iV q N Z (xs++ys) Q s')=fun s'=>mJ p C T iV q N (fun s'=>mJ p C T iV q N Z ys Q s') xs Q s':=funext fun s'=>Iq xs ys s';rw [this]
noncomputable def bV:((List Ra×Int)×(List UInt8×(Int×Int)))->Option (Int×Int) :=
 fun ((rs,fr),(num,(a,b))) =>
 ah (bC (rs,fr)) fun v =>
 bif !v then some ((0:Int),(2:Int)) else
 ah (bf (a,((0:Int),(281474976710656:Int)))) fun x =>
 bif !x then some ((0:Int),(3:Int)) else
 ah (bf (b,(a,(281474976710656:Int)))) fun y =>
 bif !y then some ((0:Int),(3:Int)) else
 ah (cZ (a,b)) fun se =>
 bif decide (se > (1000000:Int)) then some ((0:Int),(4:Int)) else
 ah (iy ((rs,fr),num)) fun (ix,ok) =>
 bif !ok then some ((0:Int),(8:Int)) else
 bif decide ((0:Int)<=ix/\ix<((rs.length:Nat):Int)) then
 ah (jL (rs.getD ix.toNat ([],(0,(0,(0,[])))),(fr,se))) fun np =>
 bif decide (np=(0:Int)) then some ((0:Int),(0:Int)) else
 bif decide ((0:Int)<=np/\np<=(4000000000000000000:Int)) then
 ah (EK (rs.getD ix.toNat ([],(0,(0,(0,[]))))).2.2.2.2 (rs.getD ix.toNat ([],(0,(0,(0,[]))))).2.1 (sJ (IntKind.wrap .i64 (a+IntKind.wrap .i64 (1000*fr))) (rs.getD ix.toNat ([],(0,(0,(0,[]))))).2.2.1 (rs.getD ix.toNat ([],(0,(0,(0,[]))))).2.2.2.1) np.toNat) fun s =>
 some (s,(0:Int))
 else none
 else none
theorem qO {α β:Type} {x:Option α} {f:α->Option β} {r:β} (h:ah x f=some r):∃a,x=some a/\f a=some r:=by
 cases x with
 | none=>cases h
 | some a=>exact ⟨a,rfl,h⟩
theorem akD {rs:List Ra} {fr:Int} {num:List UInt8} {a b:Int} {r:Int×Int} (hG:bV ((rs,fr),(num,(a,b)))=some r) :
 fB Tryz.prog iV 51 [.agg [.d (.dl (aU UR rs) rs.length none),.d (.val (.int .i64 fr))],.d (.val (.string ⟨num.toArray⟩)),.d (.val (.int .i64 a)),.d (.val (.int .i64 b))] [] (.tup [.d (.val (.int .i64 r.1)),.d (.val (.int .u8 r.2))]) []:=by
 unfold bV at hG;obtain ⟨v,hV,hG⟩:=qO hG;cases v with
 | false=>cases hG;exact agQ rfl rfl rfl hV
 | true =>
 obtain ⟨x,h1,hG⟩:=qO hG;cases x with
 | false=>cases hG;exact agR rfl rfl rfl hV h1
 | true =>
 obtain ⟨y,h2,hG⟩:=qO hG;cases y with
 | false=>cases hG;exact agS rfl rfl rfl hV h1 h2
 | true =>
 obtain ⟨se,h3,hG⟩:=qO hG;by_cases h4:se > 1000000
 ·simp only [Bool.not_true,cond_false] at hG;rw [decide_eq_true h4] at hG;cases hG;exact agT rfl rfl rfl hV h1 h2 h3 h4
 simp only [Bool.not_true,cond_false] at hG;rw [decide_eq_false h4] at hG;obtain ⟨⟨ix,ok⟩,hF,hG⟩:=qO hG;cases ok with
 | false=>cases hG;exact agU rfl rfl rfl hV h1 h2 h3 (by omega) hF
 | true =>
 by_cases h5:¬(0<=ix/\ix<((rs.length:Nat):Int))
 ·simp only [Bool.not_true,cond_false] at hG;rw [decide_eq_false h5] at hG;cases hG
 rw [Classical.not_not] at h5;simp only [Bool.not_true,cond_false] at hG;rw [decide_eq_true h5] at hG;obtain ⟨i,hi⟩:∃i:Nat,ix=(i:Int):=⟨ix.toNat,by omega⟩
 obtain ⟨np,hPi,hG⟩:=qO hG;rw [hi,Int.toNat_natCast] at hG hPi;by_cases h6:np=0
 ·skip
  rw [decide_eq_true h6] at hG;cases hG;exact agV rfl rfl rfl hV h1 h2 h3 (by omega) hF hi (by omega) rfl rfl rfl rfl rfl rfl rfl hPi h6
 rw [decide_eq_false h6] at hG;by_cases h7:¬(0<=np/\np<=4000000000000000000)
 ·rw [decide_eq_false h7] at hG;cases hG
 rw [Classical.not_not] at h7;simp only [cond_false] at hG;rw [decide_eq_true h7] at hG;obtain ⟨s,hsum,hG⟩:=qO hG;cases hG;obtain ⟨n,hn⟩:∃n:Nat,np=(n:Int):=⟨np.toNat,by omega⟩
 rw [hn,Int.toNat_natCast] at hsum;intro E w vs hE hw hs hrel;have hlen:=gu _ _ hrel;have hvs:vs.size=4:=by rw [<-Array.length_toList];exact hlen
 refine callsIn_wide.1 (callsIn_of_wp_marks (n:=9) Tryz.func51 (c:=BQ) rfl trivial ?_ rfl);have hS:sF iV 87 E {tmps:=vs++Array.replicate (87-vs.size) undef,defers:=[]} w (⟨87,jw 0 [.agg [.d (.dl (aU UR rs) rs.length none),.d (.val (.int .i64 fr))],.d (.val (.string ⟨num.toArray⟩)),.d (.val (.int .i64 a)),.d (.val (.int .i64 b))],[]⟩:SL).S:=by
  refine ⟨hw,hE,hs,?_,rfl,fun t => ?_⟩
  ·simp only [Array.size_append,Array.size_replicate];omega
  ·show Rel _ (match look t (jw 0 _) with | some x=>x | none => .junk) _;rw [mO];simp only [Nat.zero_le,if_true,Nat.sub_zero];generalize hargs:[AV.agg [.d (.dl (aU UR rs) rs.length none),.d (.val (.int .i64 fr))],.d (.val (.string ⟨num.toArray⟩)),.d (.val (.int .i64 a)),.d (.val (.int .i64 b))]=args at *
   cases hx:args[t]? with
   | none=>simp only;rw [Rel];trivial
   | some x =>
     obtain ⟨u,k1,k2⟩:=rG _ _ t x hrel hx;have ht:t<vs.size:=by
      have:=(List.getElem?_eq_some_iff.1 k1).1;simpa using this
     rw [Array.getD_eq_getD_getElem?,Array.getElem?_append_left ht];have k1':vs[t]? = some u:=by simpa using k1
     rw [k1'];exact k2
 rw [<-Le 11 BQ];have hpre:=aku (pl:=[]) (at0:=IntKind.wrap .i64 (a+IntKind.wrap .i64 (1000*fr))) (hp:=rfl) (F:=aX Tryz.prog) (C:=yO Tryz.prog iV 87 (aV [])) rfl rfl rfl hV h1 h2 h3 (by omega) hF hi (by omega) rfl rfl rfl rfl rfl rfl rfl hPi h6 rfl rfl rfl;have hpc:akt 11 BQ=(spine 11 BQ).1++[akA]:=by
  unfold akt;rw [Yq]
 rw [hpc,Iq] at hpre;refine wpIn_wide.2 (EG KK (E0:=E) (w0:=w) hE (fun s' E' a' w' hZ hS' hA' => ?_) (fun e s' E' a' w' _ hq _ _=>hq.elim) _ _ hpre E _ w hS (dK.refl _ _));rw [Yq];refine (wpIn_wide (n:=9)).1 (wpIn_seq (wpIn_seq (wpIn_wide.2 ?_)));unfold mJ at hZ;rw [iL] at hZ;refine wp_mono (jc KK.hq KK.hdp KK.hm KK.hT akA _ s' hZ E w E' a' w' hE hS' hA') fun e a2 w2 ⟨_,E2,⟨sl,h1,h2⟩,hS2,hA2⟩ => ?_;subst h1;cases e with
 | normal =>
   unfold Zt mJ at h2;obtain ⟨E3,hS3,hA3⟩:=h2 E w E2 a2 w2 hE hS2 hA2;exact agW hE rfl rfl hn (by omega) hsum hS3 hA3
 | _=>exact h2.elim
theorem anM:aS Tryz.prog 51 ⟨[(.tmp 0 true [(.dat (.list UR)),(.dat (.int .i64))]),(.tmp 1 false [(.dat .str)]),(.tmp 2 false [(.dat (.int .i64))]),(.tmp 3 false [(.dat (.int .i64))])],[(.tmp 0 false [(.dat (.int .i64))]),(.tmp 1 false [(.dat (.int .u8))])],bV⟩ :=
 aS.mk (by kernel_rfl) rfl rfl (fun _ _ h=>akD h)
set_option maxRecDepth 1000000
set_option maxHeartbeats 0
def akE:List (Nat×PL):=[]
noncomputable def bF:(Int×(Int×Int))->Option Bool:=fun (a1,(a2,a3)) =>
 bif (decide (a1>=a2)) then
 some (decide (a1<=a3))
 else
 some false
noncomputable def akF:List (Nat×CE):=[]
theorem aan:dD Tryz.prog akF:=trivial
noncomputable def Uf:CE:=⟨[(.tmp 0 false [dI]),(.tmp 1 false [dI]),(.tmp 2 false [dI])],[(.tmp 0 false [dO])],bF⟩
theorem Lp:aS Tryz.prog 17 Uf :=kU akE dR aan Tryz.func17
def akG:List (Nat×PL):=[(134480385,(.carry [.tmp 3 false [dI]])),(35253225785350,(.carry [.tmp 3 false [dI]]))]
noncomputable def eH:(List jK)->Option Int:=fun a1 =>
 aB (aA (fun v2 =>
 bif (decide (v2<(a1.length:Int))) then
 bif (decide (((0:Int)<=v2)/\(v2<(a1.length:Int)))) then
 ah a1[v2.toNat]? fun x3 =>
 bif (decide (x3.2.2.2.2.2.2.1=(0:Int))) then
 some (Sum.inl (IntKind.wrap .i64 (v2+(1:Int))))
 else
 au (some (Sum.inl v2))
 else none
 else
 au (some (Sum.inl v2))) (0:Int)) fun v5 =>
 some v5
noncomputable def akH:List (Nat×CE):=[]
theorem aao:dD Tryz.prog akH:=trivial
noncomputable def agX:CE:=⟨[(.tmp 0 false [(.dat (.list oD))])],[(.tmp 0 false [dI])],eH⟩
theorem ad4:aS Tryz.prog 29 agX :=kU akG dR aao Tryz.func29
def akI:List (Nat×PL):=[(262657,(.carry [])),(134480385,(.carry []))]
noncomputable def kL:((jK)×Int)->Option Bool:=fun ((a1,(a2,(a3,(a4,(a5,(a6,(a7,(a8,(a9,a10))))))))),a11) =>
 aB (ah (bF ((a1.length:Int),((1:Int),(200:Int)))) fun x12 =>
 bif (!x12) then
 au (some false)
 else
 bif (decide ((a2.length:Int) > (200:Int))) then
 au (some false)
 else
 bif (decide ((a3.length:Int) > (200:Int))) then
 au (some false)
 else
 some (Sum.inl ())) fun _ =>
 aB (ah (bF (a4,((0:Int),a11))) fun x13 =>
 bif (!x13) then
 au (some false)
 else
 bif (decide (a5≠(-1:Int))) then
 ah (bF (a5,(a4,a11))) fun x14 =>
 bif (!x14) then
 au (some false)
 else
 some (Sum.inl ())
 else
 some (Sum.inl ())) fun _ =>
 ah (bF (a6,((fV a4 a5),a11))) fun x15 =>
 bif (!x15) then
 some false
 else
 bif (decide (a7=(0:Int))) then
 bif (decide (a8=(0:Int))) then
 bif (decide (a9=(0:Int))) then
 some (!a10)
 else
 some false
 else
 some false
 else
 bif (decide (a5≠(-1:Int))) then
 bif (decide (a9>=(0:Int))) then
 ah (cZ (a5,a6)) fun x16 =>
 some (decide (a8=x16))
 else
 some false
 else
 some false
noncomputable def akJ:CE:=⟨[(.tmp 0 false [dI]),(.tmp 1 false [dI])],[(.tmp 0 false [dI])],cZ⟩
noncomputable def akK:List (Nat×CE):=[(50,akJ),(17,Uf)]
theorem aap:dD Tryz.prog akK:=⟨TT,Lp,trivial⟩
noncomputable def anN:CE:=⟨[(.tmp 0 true [dS,dS,dS,dI,dI,dI,dI,dI,dI,dO]),(.tmp 1 false [dI])],[(.tmp 0 false [dO])],kL⟩
theorem anO:aS Tryz.prog 59 anN :=kU akI dR aap Tryz.func59
def akL:List (Nat×PL):=[(262657,(.carry [])),(18049651735527937,(.carry [.drop 4])),(2422583247133816450713606,(.carry [.tmp 31 false [dI],.tmp 4 false [dI]]))]
noncomputable def fC:(BN)->Option Bool:=fun (a1,(a2,(a3,(a4,(a5,a6))))) =>
 aB (ah (iH (a1,(a2,a3))) fun x7 =>
 bif (!x7) then
 au (some false)
 else
 ah (bF (a6,((0:Int),(1099511627776:Int)))) fun x8 =>
 bif (!x8) then
 au (some false)
 else
 ah (bF (a5,((0:Int),(1048576:Int)))) fun x9 =>
 bif (!x9) then
 au (some false)
 else
 some (Sum.inl ())) fun _ =>
 ah (eH a4) fun x10 =>
 bif (decide (x10 > (256:Int))) then
 some false
 else
 aB (aA (fun (v11,v12) =>
 bif (decide (v11<(a4.length:Int))) then
 bif (decide (((0:Int)<=v11)/\(v11<(a4.length:Int)))) then
 ah a4[v11.toNat]? fun x13 =>
 ah (kL ((x13.1,(x13.2.1,(x13.2.2.1,(x13.2.2.2.1,(x13.2.2.2.2.1,(x13.2.2.2.2.2.1,(x13.2.2.2.2.2.2.1,(x13.2.2.2.2.2.2.2.1,(x13.2.2.2.2.2.2.2.2.1,x13.2.2.2.2.2.2.2.2.2))))))))),a6)) fun x14 =>
 bif (!x14) then
 au (au (some false))
 else
 bif (decide (v11<x10)) then
 bif (decide (v11 > (0:Int))) then
 ah (some (IntKind.wrap .i64 (v11-(1:Int)))) fun x15 =>
 bif (decide (((0:Int)<=x15)/\(x15<(a4.length:Int)))) then
 ah a4[x15.toNat]? fun x16 =>
 bif (!(Go.Op.bytesLess x16.1 x13.1)) then
 au (au (some false))
 else
 some (Sum.inl ((IntKind.wrap .i64 (v11+(1:Int))),v12))
 else none
 else
 some (Sum.inl ((IntKind.wrap .i64 (v11+(1:Int))),v12))
 else
 ah (bF (x13.2.2.2.2.2.2.1,((IntKind.wrap .i64 (v12+(1:Int))),a5))) fun x20 =>
 bif (!x20) then
 au (au (some false))
 else
 some (Sum.inl ((IntKind.wrap .i64 (v11+(1:Int))),x13.2.2.2.2.2.2.1))
 else none
 else
 au (some (Sum.inl ()))) ((0:Int),(0:Int))) fun _ =>
 some true
noncomputable def anP:CE:=⟨[(.tmp 0 true [dY,dI,dI])],[(.tmp 0 false [dO])],iH⟩
noncomputable def akM:List (Nat×CE):=[(58,anP),(17,Uf),(29,agX),(59,anN)]
theorem aaq:dD Tryz.prog akM:=⟨adQ,Lp,ad4,anO,trivial⟩
noncomputable def aar:CE:=⟨[(.tmp 0 true [dY,dI,dI,(.dat (.list oD)),dI,dI])],[(.tmp 0 false [dO])],fC⟩
theorem Ug:aS Tryz.prog 27 aar :=kU akL dR aaq Tryz.func27
def akN:List (Nat×PL):=[(134479891,(.carry [.tmp 0 false [dI]])),(18049585431970305,(.carry [.drop 6,.tmp 5 false [dI]])),(4731590523478423373830,(.carry [.tmp 6 false [dI],.tmp 5 false [dI]]))]
noncomputable def iY:((List jK)×LU)->Option (Int×Bool):=fun (a1,a2) =>
 aB (aB (aA (fun (v3,v4) =>
 bif (decide (v4<v3)) then
 ah (some (Int.fdiv (IntKind.wrap .u64 (IntKind.wrap .i64 (v4+v3))) (2:Int))) fun x7 =>
 bif (decide (((0:Int)<=(IntKind.wrap .i64 x7))/\((IntKind.wrap .i64 x7)<(a1.length:Int)))) then
 ah a1[(Int.toNat (IntKind.wrap .i64 x7))]? fun x9 =>
 bif (!(!(Go.Op.bytesLess x9.1 a2))) then
 some (Sum.inl (v3,(IntKind.wrap .i64 ((IntKind.wrap .i64 x7)+(1:Int)))))
 else
 some (Sum.inl ((IntKind.wrap .i64 x7),v4))
 else none
 else
 au (some (Sum.inl v4))) ((a1.length:Int),(0:Int))) fun v11 =>
 some (Sum.inl v11)) fun v12 =>
 bif (decide (v12<(a1.length:Int))) then
 bif (decide (((0:Int)<=v12)/\(v12<(a1.length:Int)))) then
 ah a1[v12.toNat]? fun x13 =>
 some (v12,(decide (x13.1=a2)))
 else none
 else
 some (v12,false)
noncomputable def akO:List (Nat×CE):=[]
theorem aas:dD Tryz.prog akO:=trivial
noncomputable def ad5:CE:=⟨[(.tmp 0 false [(.dat (.list oD))]),(.tmp 1 false [dS])],[(.tmp 0 false [dI]),(.tmp 1 false [dO])],iY⟩
theorem Yr:aS Tryz.prog 60 ad5 :=kU akN dR aas Tryz.func60
def akP:List (Nat×PL):=[]
noncomputable def iZ:((BN)×LU)->Option (Int×Bool):=fun ((a1,(a2,(a3,(a4,(a5,a6))))),a7) =>
 ah (eH a4) fun x8 =>
 bif (decide (((0:Int)<=x8)/\(x8<=(a4.length:Int)))) then
 ah (iY ((List.take x8.toNat a4),a7)) fun (x11,x12) =>
 some (x11,x12)
 else none
noncomputable def akQ:List (Nat×CE):=[(29,agX),(60,ad5)]
theorem aat:dD Tryz.prog akQ:=⟨ad4,Yr,trivial⟩
noncomputable def agY:CE:=⟨[(.tmp 0 true [dY,dI,dI,(.dat (.list oD)),dI,dI]),(.tmp 1 false [dS])],[(.tmp 0 false [dI]),(.tmp 1 false [dO])],iZ⟩
theorem ad6:aS Tryz.prog 28 agY :=kU akP dR aat Tryz.func28
def akR:List (Nat×PL):=[(134480385,(.carry [.tmp 5 false [(.own 10000006 5 qm)]])),(18049651601311750,(.carry [.tmp 13 false [dI],.tmp 5 false [(.own 10000005 5 qm)]])),(68853957121,(.carry [.tmp 5 false [(.own 10000003 5 qm)],.dead 10000006])),(2422583229119624904966657,(.carry [.tmp 8 false [dI],.tmp 5 false [(.own 10000004 5 qm)],.tmp 7 false [dI],.dead 10000005])),(9241421688456087558,(.carry [.tmp 32 false [dI],.tmp 5 false [(.own 10000001 5 qm)],.dead 10000006])),(85237069749509028565965992133042374662,(.carry [.tmp 8 false [dI],.tmp 5 false [(.own 10000002 5 qm)],.dead 10000005]))]
noncomputable def gQ:(LN×(List LU))->Option LN:=fun (a1,a2) =>
 aB (aA (fun (v3,v4) =>
 bif (decide (v3<(a1.length:Int))) then
 aB (bif (decide (((0:Int)<=v3)/\(v3<(a1.length:Int)))) then
 ah a1[v3.toNat]? fun x5 =>
 bif (decide (v4.length<=v4.length)) then
 aA (fun (v6,v7) =>
 bif (decide (v6>=(0:Int))) then
 bif (decide ((0:Int)<=v6)) then
 ah (some (Int.fdiv (IntKind.wrap .u64 x5) ((2:Int) ^ (Min.min v6.toNat 64)))) fun x9 =>
 bif (decide (v7.length<=v7.length)) then
 bif (decide (((List.length ((v7.take v7.length)++((IntKind.wrap .u8 x9)::([]:List Int))))*1)<=140737488355328)) then
 ah (some ((v7.take v7.length)++((IntKind.wrap .u8 x9)::([]:List Int)))) fun x11 =>
 bif (decide (x11.length<=x11.length)) then
 some (Sum.inl ((IntKind.wrap .i64 (v6-(8:Int))),(x11.take x11.length)))
 else none
 else none
 else none
 else none
 else
 au (bif (decide (v7.length<=v7.length)) then
 some (Sum.inl (v6,((v7.take v7.length),x5)))
 else none)) ((56:Int),(v4.take v4.length))
 else none
 else none) fun (v13,(v14,v15)) =>
 bif (decide (v14.length<=v14.length)) then
 some (Sum.inl ((IntKind.wrap .i64 (v3+(1:Int))),(v14.take v14.length)))
 else none
 else
 au (bif (decide (v4.length<=v4.length)) then
 some (Sum.inl (v4.take v4.length))
 else none)) ((0:Int),([]:List Int))) fun v17 =>
 aB (bif (decide (v17.length<=v17.length)) then
 aA (fun (v18,v19) =>
 bif (decide (v18<(a2.length:Int))) then
 bif (decide (((0:Int)<=v18)/\(v18<(a2.length:Int)))) then
 ah a2[v18.toNat]? fun x20 =>
 ah (some (Int.fdiv (x20.length:Int) (256:Int))) fun x21 =>
 ah (some (IntKind.wrap .u8 (x20.length:Int))) fun x23 =>
 bif (decide (v19.length<=v19.length)) then
 bif (decide (((List.length ((v19.take v19.length)++((IntKind.wrap .u8 x21)::(x23::([]:List Int)))))*1)<=140737488355328)) then
 ah (some ((v19.take v19.length)++((IntKind.wrap .u8 x21)::(x23::([]:List Int))))) fun x24 =>
 bif (decide (x24.length<=x24.length)) then
 bif (decide (((List.length ((x24.take x24.length)++(List.map (fun (x25:UInt8)=>(((UInt8.toNat x25):Nat):Int)) x20)))*1)<=140737488355328)) then
 ah (some ((x24.take x24.length)++(List.map (fun (x27:UInt8)=>(((UInt8.toNat x27):Nat):Int)) x20))) fun x26 =>
 bif (decide (x26.length<=x26.length)) then
 some (Sum.inl ((IntKind.wrap .i64 (v18+(1:Int))),(x26.take x26.length)))
 else none
 else none
 else none
 else none
 else none
 else none
 else
 au (bif (decide (v19.length<=v19.length)) then
 some (Sum.inl (v19.take v19.length))
 else none)) ((0:Int),(v17.take v17.length))
 else none) fun v29 =>
 bif (decide (v29.length<=v29.length)) then
 some (v29.take v29.length)
 else none
noncomputable def akS:List (Nat×CE):=[]
theorem aau:dD Tryz.prog akS:=trivial
noncomputable def agZ:CE:=⟨[(.tmp 0 false [(.dat (.list bT))]),(.tmp 1 false [(.dat (.list .str))])],[(.tmp 0 false [dY])],gQ⟩
theorem ad7:aS Tryz.prog 31 agZ :=kU akR dR aau Tryz.func31
def akT:List (Nat×PL):=[]
noncomputable def dV:((LN×(Int×Int))×(Int×LN))->Option ((LN×(Int×Int))×Int):=fun ((a1,(a2,a3)),(a4,a5)) =>
 bif (decide (a3>=(1048576:Int))) then
 some ((([]:List Int),((0:Int),(0:Int))),(10:Int))
 else
 ah (kZ ((a1,(a2,a3)),(a4,a5))) fun ((x7,(x8,x9)),x10) =>
 some ((x7,(x8,x9)),x10)
noncomputable def anQ:CE:=⟨[(.tmp 0 true [dY,dI,dI]),(.tmp 1 true [yV,dY])],[(.tmp 0 true [dY,dI,dI]),(.tmp 1 false [yV])],kZ⟩
noncomputable def akU:List (Nat×CE):=[(61,anQ)]
theorem aav:dD Tryz.prog akU:=⟨adT,trivial⟩
noncomputable def ag0:CE:=⟨[(.tmp 0 true [dY,dI,dI]),(.tmp 1 false [yV]),(.tmp 2 false [dY])],[(.tmp 0 true [dY,dI,dI]),(.tmp 1 false [yV])],dV⟩
theorem ad8:aS Tryz.prog 30 ag0 :=kU akT dR aav Tryz.func30
def akV:List (Nat×PL):=[]
noncomputable def nY:(Int×(LU×(LU×LU)))->Option (jK):=fun (a1,(a2,(a3,a4))) =>
 some (a2,(a3,(a4,(a1,((-1:Int),(a1,((0:Int),((0:Int),((0:Int),false)))))))))
noncomputable def akW:List (Nat×CE):=[]
theorem aaw:dD Tryz.prog akW:=trivial
noncomputable def akX:CE:=⟨[(.tmp 0 false [dI]),(.tmp 1 false [dS]),(.tmp 2 false [dS]),(.tmp 3 false [dS])],[(.tmp 0 true [dS,dS,dS,dI,dI,dI,dI,dI,dI,dO])],nY⟩
theorem aiz:aS Tryz.prog 34 akX :=kU akV dR aaw Tryz.func34
def anR:List (Nat×PL):=[(262657,(.carry []))]
noncomputable def nZ:((BN)×(jK))->Option ((BN)×Int):=fun ((a1,(a2,(a3,(a4,(a5,a6))))),(a7,(a8,(a9,(a10,(a11,(a12,(a13,(a14,(a15,a16)))))))))) =>
 aB (ah (fC (a1,(a2,(a3,(a4,(a5,a6)))))) fun x17 =>
 bif (!x17) then
 au (some ((([]:List Int),((0:Int),((0:Int),(([]:List jK),((0:Int),(0:Int)))))),(2:Int)))
 else
 ah (bF (a10,(a6,(1099511627776:Int)))) fun x18 =>
 bif (!x18) then
 au (some ((([]:List Int),((0:Int),((0:Int),(([]:List jK),((0:Int),(0:Int)))))),(2:Int)))
 else
 ah (bF ((a7.length:Int),((1:Int),(200:Int)))) fun x19 =>
 bif (!x19) then
 au (some ((([]:List Int),((0:Int),((0:Int),(([]:List jK),((0:Int),(0:Int)))))),(2:Int)))
 else
 bif (decide ((a8.length:Int) > (200:Int))) then
 au (some ((([]:List Int),((0:Int),((0:Int),(([]:List jK),((0:Int),(0:Int)))))),(2:Int)))
 else
 bif (decide ((a9.length:Int) > (200:Int))) then
 au (some ((([]:List Int),((0:Int),((0:Int),(([]:List jK),((0:Int),(0:Int)))))),(2:Int)))
 else
 some (Sum.inl ())) fun _ =>
 ah (iZ ((a1,(a2,(a3,(a4,(a5,a6))))),a7)) fun (x21,x22) =>
 bif x22 then
 some ((([]:List Int),((0:Int),((0:Int),(([]:List jK),((0:Int),(0:Int)))))),(7:Int))
 else
 ah (eH a4) fun x23 =>
 bif (decide (x23>=(256:Int))) then
 some ((([]:List Int),((0:Int),((0:Int),(([]:List jK),((0:Int),(0:Int)))))),(10:Int))
 else
 ah (gQ ((a10::([]:List Int)),(a7::(a8::(a9::([]:List LU)))))) fun x24 =>
 ah (dV ((a1,(a2,a3)),((1:Int),x24))) fun ((x26,(x27,x28)),x29) =>
 bif (decide (x29≠(0:Int))) then
 some ((([]:List Int),((0:Int),((0:Int),(([]:List jK),((0:Int),(0:Int)))))),x29)
 else
 ah (kX a4) fun x30 =>
 ah (nY (a10,(a7,(a8,a9)))) fun (x32,(x33,(x34,(x35,(x36,(x37,(x38,(x39,(x40,x41))))))))) =>
 bif ((decide (x30.length=x30.length))&&true) then
 ah (Qx (x30,(x21,((x32,(x33,(x34,(x35,(x36,(x37,(x38,(x39,(x40,x41)))))))))::([]:List jK))))) fun x42 =>
 bif (decide (x42.length<=x42.length)) then
 some ((x26,(x27,(x28,((x42.take x42.length),(a5,a10))))),(0:Int))
 else none
 else none
noncomputable def pX:CE:=⟨[.tmp 0 false [.dat (.list pU)]],[.tmp 0 false [.own 1 41 pU]],kX⟩
noncomputable def oG:CE:=⟨[.tmp 0 false [.own 20000001 41 pU]],[.tmp 0 false [.own 20000002 41 pU]],kX⟩
noncomputable def Lr:CE:=⟨[.tmp 0 false [.own 20000001 41 pU],.tmp 1 false [.dat bT],.tmp 2 false [.own 20000002 41 pU]],[.tmp 0 false [.own 20000003 41 pU],.dead 20000001],Qx⟩
noncomputable def anS:List (Nat×CE):=[(33,pX),(1000000033,oG),(1000000032,Lr),(17,Uf),(29,agX),(27,aar),(28,agY),(31,agZ),(30,ag0),(34,akX)]
theorem ad9:dD Tryz.prog anS:=⟨vW,tH,XY,Lp,ad4,Ug,ad6,ad7,ad8,aiz,trivial⟩
noncomputable def ce9:CE:=⟨[(.tmp 0 true [dY,dI,dI,(.dat (.list oD)),dI,dI]),(.tmp 1 true [dS,dS,dS,dI,dI,dI,dI,dI,dI,dO])],[(.tmp 0 true [dY,dI,dI,(.dat (.list oD)),dI,dI]),(.tmp 1 false [yV])],nZ⟩
theorem aqB:aS Tryz.prog 9 ce9 :=kU anR dR ad9 Tryz.func9
def akY:List (Nat×PL):=[]
noncomputable def og:((BN)×(Int×(LU×Int)))->Option ((BN)×Int):=fun ((a1,(a2,(a3,(a4,(a5,a6))))),(a7,(a8,a9))) =>
 ah (fC (a1,(a2,(a3,(a4,(a5,a6)))))) fun x10 =>
 bif (!x10) then
 some ((([]:List Int),((0:Int),((0:Int),(([]:List jK),((0:Int),(0:Int)))))),(2:Int))
 else
 ah (bF (a9,(a6,(1099511627776:Int)))) fun x11 =>
 bif (!x11) then
 some ((([]:List Int),((0:Int),((0:Int),(([]:List jK),((0:Int),(0:Int)))))),(2:Int))
 else
 ah (iZ ((a1,(a2,(a3,(a4,(a5,a6))))),a8)) fun (x13,x14) =>
 bif (!x14) then
 some ((([]:List Int),((0:Int),((0:Int),(([]:List jK),((0:Int),(0:Int)))))),(8:Int))
 else
 bif (decide (a7=(2:Int))) then
 bif (decide (((0:Int)<=x13)/\(x13<(a4.length:Int)))) then
 ah a4[x13.toNat]? fun x15 =>
 bif (decide (x15.2.2.2.2.1≠(-1:Int))) then
 some ((([]:List Int),((0:Int),((0:Int),(([]:List jK),((0:Int),(0:Int)))))),(9:Int))
 else
 ah (gQ ((a9::([]:List Int)),(a8::([]:List LU)))) fun x16 =>
 ah (dV ((a1,(a2,a3)),(a7,x16))) fun ((x18,(x19,x20)),x21) =>
 bif (decide (x21≠(0:Int))) then
 some ((([]:List Int),((0:Int),((0:Int),(([]:List jK),((0:Int),(0:Int)))))),x21)
 else
 ah (kX a4) fun x22 =>
 bif (decide (((0:Int)<=x13)/\(x13<(x22.length:Int)))) then
 ah x22[x13.toNat]? fun x23 =>
 bif (decide (a7=(2:Int))) then
 bif (decide (((0:Int)<=x13)/\(x13<(x22.length:Int)))) then
 ah (List.set x22 x13.toNat (x23.1,(x23.2.1,(x23.2.2.1,(x23.2.2.2.1,(x23.2.2.2.2.1,(a9,(x23.2.2.2.2.2.2.1,(x23.2.2.2.2.2.2.2.1,(x23.2.2.2.2.2.2.2.2.1,x23.2.2.2.2.2.2.2.2.2))))))))))[x13.toNat]? fun x24 =>
 bif (decide (x22.length<=(List.length (List.set (List.set x22 x13.toNat (x23.1,(x23.2.1,(x23.2.2.1,(x23.2.2.2.1,(x23.2.2.2.2.1,(a9,(x23.2.2.2.2.2.2.1,(x23.2.2.2.2.2.2.2.1,(x23.2.2.2.2.2.2.2.2.1,x23.2.2.2.2.2.2.2.2.2)))))))))) x13.toNat (x24.1,(x24.2.1,(x24.2.2.1,(x24.2.2.2.1,(a9,(x24.2.2.2.2.2.1,(x24.2.2.2.2.2.2.1,(x24.2.2.2.2.2.2.2.1,(x24.2.2.2.2.2.2.2.2.1,x24.2.2.2.2.2.2.2.2.2))))))))))))) then
 some ((x18,(x19,(x20,((List.take x22.length (List.set (List.set x22 x13.toNat (x23.1,(x23.2.1,(x23.2.2.1,(x23.2.2.2.1,(x23.2.2.2.2.1,(a9,(x23.2.2.2.2.2.2.1,(x23.2.2.2.2.2.2.2.1,(x23.2.2.2.2.2.2.2.2.1,x23.2.2.2.2.2.2.2.2.2)))))))))) x13.toNat (x24.1,(x24.2.1,(x24.2.2.1,(x24.2.2.2.1,(a9,(x24.2.2.2.2.2.1,(x24.2.2.2.2.2.2.1,(x24.2.2.2.2.2.2.2.1,(x24.2.2.2.2.2.2.2.2.1,x24.2.2.2.2.2.2.2.2.2))))))))))),(a5,a9))))),(0:Int))
 else none
 else none
 else
 bif (decide (x22.length<=(List.length (List.set x22 x13.toNat (x23.1,(x23.2.1,(x23.2.2.1,(x23.2.2.2.1,(x23.2.2.2.2.1,(a9,(x23.2.2.2.2.2.2.1,(x23.2.2.2.2.2.2.2.1,(x23.2.2.2.2.2.2.2.2.1,x23.2.2.2.2.2.2.2.2.2))))))))))))) then
 some ((x18,(x19,(x20,((List.take x22.length (List.set x22 x13.toNat (x23.1,(x23.2.1,(x23.2.2.1,(x23.2.2.2.1,(x23.2.2.2.2.1,(a9,(x23.2.2.2.2.2.2.1,(x23.2.2.2.2.2.2.2.1,(x23.2.2.2.2.2.2.2.2.1,x23.2.2.2.2.2.2.2.2.2))))))))))),(a5,a9))))),(0:Int))
 else none
 else none
 else none
 else
 ah (gQ ((a9::([]:List Int)),(a8::([]:List LU)))) fun x25 =>
 ah (dV ((a1,(a2,a3)),(a7,x25))) fun ((x27,(x28,x29)),x30) =>
 bif (decide (x30≠(0:Int))) then
 some ((([]:List Int),((0:Int),((0:Int),(([]:List jK),((0:Int),(0:Int)))))),x30)
 else
 ah (kX a4) fun x31 =>
 bif (decide (((0:Int)<=x13)/\(x13<(x31.length:Int)))) then
 ah x31[x13.toNat]? fun x32 =>
 bif (decide (a7=(2:Int))) then
 bif (decide (((0:Int)<=x13)/\(x13<(x31.length:Int)))) then
 ah (List.set x31 x13.toNat (x32.1,(x32.2.1,(x32.2.2.1,(x32.2.2.2.1,(x32.2.2.2.2.1,(a9,(x32.2.2.2.2.2.2.1,(x32.2.2.2.2.2.2.2.1,(x32.2.2.2.2.2.2.2.2.1,x32.2.2.2.2.2.2.2.2.2))))))))))[x13.toNat]? fun x33 =>
 bif (decide (x31.length<=(List.length (List.set (List.set x31 x13.toNat (x32.1,(x32.2.1,(x32.2.2.1,(x32.2.2.2.1,(x32.2.2.2.2.1,(a9,(x32.2.2.2.2.2.2.1,(x32.2.2.2.2.2.2.2.1,(x32.2.2.2.2.2.2.2.2.1,x32.2.2.2.2.2.2.2.2.2)))))))))) x13.toNat (x33.1,(x33.2.1,(x33.2.2.1,(x33.2.2.2.1,(a9,(x33.2.2.2.2.2.1,(x33.2.2.2.2.2.2.1,(x33.2.2.2.2.2.2.2.1,(x33.2.2.2.2.2.2.2.2.1,x33.2.2.2.2.2.2.2.2.2))))))))))))) then
 some ((x27,(x28,(x29,((List.take x31.length (List.set (List.set x31 x13.toNat (x32.1,(x32.2.1,(x32.2.2.1,(x32.2.2.2.1,(x32.2.2.2.2.1,(a9,(x32.2.2.2.2.2.2.1,(x32.2.2.2.2.2.2.2.1,(x32.2.2.2.2.2.2.2.2.1,x32.2.2.2.2.2.2.2.2.2)))))))))) x13.toNat (x33.1,(x33.2.1,(x33.2.2.1,(x33.2.2.2.1,(a9,(x33.2.2.2.2.2.1,(x33.2.2.2.2.2.2.1,(x33.2.2.2.2.2.2.2.1,(x33.2.2.2.2.2.2.2.2.1,x33.2.2.2.2.2.2.2.2.2))))))))))),(a5,a9))))),(0:Int))
 else none
 else none
 else
 bif (decide (x31.length<=(List.length (List.set x31 x13.toNat (x32.1,(x32.2.1,(x32.2.2.1,(x32.2.2.2.1,(x32.2.2.2.2.1,(a9,(x32.2.2.2.2.2.2.1,(x32.2.2.2.2.2.2.2.1,(x32.2.2.2.2.2.2.2.2.1,x32.2.2.2.2.2.2.2.2.2))))))))))))) then
 some ((x27,(x28,(x29,((List.take x31.length (List.set x31 x13.toNat (x32.1,(x32.2.1,(x32.2.2.1,(x32.2.2.2.1,(x32.2.2.2.2.1,(a9,(x32.2.2.2.2.2.2.1,(x32.2.2.2.2.2.2.2.1,(x32.2.2.2.2.2.2.2.2.1,x32.2.2.2.2.2.2.2.2.2))))))))))),(a5,a9))))),(0:Int))
 else none
 else none
noncomputable def akZ:List (Nat×CE):=[(33,pX),(1000000033,oG),(17,Uf),(27,aar),(28,agY),(31,agZ),(30,ag0)]
theorem aax:dD Tryz.prog akZ:=⟨vW,tH,Lp,Ug,ad6,ad7,ad8,trivial⟩
noncomputable def anT:CE:=⟨[(.tmp 0 true [dY,dI,dI,(.dat (.list oD)),dI,dI]),(.tmp 1 false [yV]),(.tmp 2 false [dS]),(.tmp 3 false [dI])],[(.tmp 0 true [dY,dI,dI,(.dat (.list oD)),dI,dI]),(.tmp 1 false [yV])],og⟩
theorem anU:aS Tryz.prog 35 anT :=kU akY dR aax Tryz.func35
def ak0:List (Nat×PL):=[]
noncomputable def pY:((BN)×(LU×Int))->Option ((BN)×Int):=fun ((a1,(a2,(a3,(a4,(a5,a6))))),(a7,a8)) =>
 ah (og ((a1,(a2,(a3,(a4,(a5,a6))))),((2:Int),(a7,a8)))) fun ((x10,(x11,(x12,(x13,(x14,x15))))),x16) =>
 some ((x10,(x11,(x12,(x13,(x14,x15))))),x16)
noncomputable def ak1:List (Nat×CE):=[(35,anT)]
theorem aay:dD Tryz.prog ak1:=⟨anU,trivial⟩
noncomputable def anV:CE:=⟨[(.tmp 0 true [dY,dI,dI,(.dat (.list oD)),dI,dI]),(.tmp 1 false [dS]),(.tmp 2 false [dI])],[(.tmp 0 true [dY,dI,dI,(.dat (.list oD)),dI,dI]),(.tmp 1 false [yV])],pY⟩
theorem anW:aS Tryz.prog 11 anV :=kU ak0 dR aay Tryz.func11
def ak2:List (Nat×PL):=[(35253226045953,(.carry [.tmp 11 false [(.own 10000001 41 oD)],.mix 9 [dS,dS,dS,dI,dI,dI,dI,dI,dI,dO],.mix 0 [dY,dI,dI,(.dat (.list oD)),dI,dI],.dead 20]))]
noncomputable def jf:((BN)×(((List (LU×(Int×(Int×(Int×(List ((Int×(Int×Int))×(Int×Int))))))))×Int)×(Int×Int)))->Option ((BN)×Int):=fun ((a1,(a2,(a3,(a4,(a5,a6))))),((a7,a8),(a9,a10))) =>
 bif (decide (((0:Int)<=a9)/\(a9<(a4.length:Int)))) then
 ah a4[a9.toNat]? fun x11 =>
 ah (kX a4) fun x12 =>
 bif (decide (x12.length=x12.length)) then
 ah (MZ (x12,(a9,(IntKind.wrap .i64 (a9+(1:Int)))))) fun x14 =>
 aB (bif (decide (x11.2.2.2.2.1≠(-1:Int))) then
 bif (decide (a5>=(1048576:Int))) then
 au (some ((([]:List Int),((0:Int),((0:Int),(([]:List jK),((0:Int),(0:Int)))))),(10:Int)))
 else
 ah (some (IntKind.wrap .i64 (a5+(1:Int)))) fun x15 =>
 ah (cZ (x11.2.2.2.2.1,a10)) fun x16 =>
 ah (bV ((a7,a8),(x11.2.2.1,(x11.2.2.2.2.1,a10)))) fun (x18,x19) =>
 bif (decide (x19=(0:Int))) then
 bif (decide (x14.length<=x14.length)) then
 bif (decide (((List.length ((x14.take x14.length)++((x11.1,(x11.2.1,(x11.2.2.1,(x11.2.2.2.1,(x11.2.2.2.2.1,(a10,(x15,(x16,(x18,x11.2.2.2.2.2.2.2.2.2)))))))))::([]:List jK))))*104)<=140737488355328)) then
 ah (some ((x14.take x14.length)++((x11.1,(x11.2.1,(x11.2.2.1,(x11.2.2.2.1,(x11.2.2.2.2.1,(a10,(x15,(x16,(x18,x11.2.2.2.2.2.2.2.2.2)))))))))::([]:List jK)))) fun x20 =>
 bif (decide (x20.length<=x20.length)) then
 some (Sum.inl ((x20.take x20.length),((x11.1,(x11.2.1,(x11.2.2.1,(x11.2.2.2.1,(x11.2.2.2.2.1,(a10,(x15,(x16,(x18,x11.2.2.2.2.2.2.2.2.2))))))))),(a1,(a2,(a3,(a4,(x15,a6))))))))
 else none
 else none
 else none
 else
 bif (decide (x14.length<=x14.length)) then
 bif (decide (((List.length ((x14.take x14.length)++((x11.1,(x11.2.1,(x11.2.2.1,(x11.2.2.2.1,(x11.2.2.2.2.1,(a10,(x15,(x16,(x11.2.2.2.2.2.2.2.2.1,x11.2.2.2.2.2.2.2.2.2)))))))))::([]:List jK))))*104)<=140737488355328)) then
 ah (some ((x14.take x14.length)++((x11.1,(x11.2.1,(x11.2.2.1,(x11.2.2.2.1,(x11.2.2.2.2.1,(a10,(x15,(x16,(x11.2.2.2.2.2.2.2.2.1,x11.2.2.2.2.2.2.2.2.2)))))))))::([]:List jK)))) fun x21 =>
 bif (decide (x21.length<=x21.length)) then
 some (Sum.inl ((x21.take x21.length),((x11.1,(x11.2.1,(x11.2.2.1,(x11.2.2.2.1,(x11.2.2.2.2.1,(a10,(x15,(x16,(x11.2.2.2.2.2.2.2.2.1,x11.2.2.2.2.2.2.2.2.2))))))))),(a1,(a2,(a3,(a4,(x15,a6))))))))
 else none
 else none
 else none
 else
 bif (decide (x14.length<=x14.length)) then
 some (Sum.inl ((x14.take x14.length),((x11.1,(x11.2.1,(x11.2.2.1,(x11.2.2.2.1,(x11.2.2.2.2.1,(a10,(x11.2.2.2.2.2.2.1,(x11.2.2.2.2.2.2.2.1,(x11.2.2.2.2.2.2.2.2.1,x11.2.2.2.2.2.2.2.2.2))))))))),(a1,(a2,(a3,(a4,(a5,a6))))))))
 else none) fun (v22,((v23,(v24,(v25,(v26,(v27,(v28,(v29,(v30,(v31,v32))))))))),(v33,(v34,(v35,(v36,(v37,v38))))))) =>
 ah (gQ ((a10::(v29::(v30::(v31::([]:List Int))))),(v23::([]:List LU)))) fun x39 =>
 ah (dV ((v33,(v34,v35)),((4:Int),x39))) fun ((x41,(x42,x43)),x44) =>
 bif (decide (x44≠(0:Int))) then
 some ((([]:List Int),((0:Int),((0:Int),(([]:List jK),((0:Int),(0:Int)))))),x44)
 else
 bif (decide (v22.length<=v22.length)) then
 some ((x41,(x42,(x43,((v22.take v22.length),(v37,v38))))),(0:Int))
 else none
 else none
 else none
noncomputable def Ls:CE:=⟨[.tmp 0 false [.own 20000001 41 pU],.tmp 1 false [.dat bT],.tmp 2 false [.dat bT]],[.tmp 0 false [.own 20000003 41 pU],.dead 20000001],MZ⟩
noncomputable def aqC:CE:=⟨[(.tmp 0 true [(.dat (.list UR)),dI]),(.tmp 1 false [dS]),(.tmp 2 false [dI]),(.tmp 3 false [dI])],[(.tmp 0 false [dI]),(.tmp 1 false [yV])],bV⟩
noncomputable def ak3:List (Nat×CE):=[(50,akJ),(33,pX),(1000000033,oG),(1000000049,Ls),(51,aqC),(31,agZ),(30,ag0)]
theorem aaz:dD Tryz.prog ak3:=⟨TT,vW,tH,XZ,anM,ad7,ad8,trivial⟩
noncomputable def ak4:CE:=⟨[(.tmp 0 true [dY,dI,dI,(.dat (.list oD)),dI,dI]),(.tmp 1 true [(.dat (.list (.pair .str (.pair bT (.pair bT (.pair bT (.list (.pair (.pair qm (.pair bT bT)) (.pair bT bT))))))))),dI]),(.tmp 2 false [dI]),(.tmp 3 false [dI])],[(.tmp 0 true [dY,dI,dI,(.dat (.list oD)),dI,dI]),(.tmp 1 false [yV])],jf⟩
theorem aiA:aS Tryz.prog 21 ak4 :=kU ak2 dR aaz Tryz.func21
def ak5:List (Nat×PL):=[(262657,(.carry []))]
noncomputable def rZ:((BN)×(((List (LU×(Int×(Int×(Int×(List ((Int×(Int×Int))×(Int×Int))))))))×Int)×(LU×Int)))->Option ((BN)×Int):=fun ((a1,(a2,(a3,(a4,(a5,a6))))),((a7,a8),(a9,a10))) =>
 aB (ah (fC (a1,(a2,(a3,(a4,(a5,a6)))))) fun x11 =>
 bif (!x11) then
 au (some ((([]:List Int),((0:Int),((0:Int),(([]:List jK),((0:Int),(0:Int)))))),(2:Int)))
 else
 ah (bF (a10,(a6,(1099511627776:Int)))) fun x12 =>
 bif (!x12) then
 au (some ((([]:List Int),((0:Int),((0:Int),(([]:List jK),((0:Int),(0:Int)))))),(2:Int)))
 else
 ah (bC (a7,a8)) fun x13 =>
 bif (!x13) then
 au (some ((([]:List Int),((0:Int),((0:Int),(([]:List jK),((0:Int),(0:Int)))))),(2:Int)))
 else
 some (Sum.inl ())) fun _ =>
 ah (iZ ((a1,(a2,(a3,(a4,(a5,a6))))),a9)) fun (x15,x16) =>
 bif (!x16) then
 some ((([]:List Int),((0:Int),((0:Int),(([]:List jK),((0:Int),(0:Int)))))),(8:Int))
 else
 ah (jf ((a1,(a2,(a3,(a4,(a5,a6))))),((a7,a8),(x15,a10)))) fun ((x18,(x19,(x20,(x21,(x22,x23))))),x24) =>
 bif (decide (x24≠(0:Int))) then
 some ((([]:List Int),((0:Int),((0:Int),(([]:List jK),((0:Int),(0:Int)))))),x24)
 else
 some ((x18,(x19,(x20,(x21,(x22,a10))))),(0:Int))
noncomputable def anX:CE:=⟨[(.tmp 0 true [(.dat (.list (.pair .str (.pair bT (.pair bT (.pair bT (.list (.pair (.pair qm (.pair bT bT)) (.pair bT bT))))))))),dI])],[(.tmp 0 false [dO])],bC⟩
noncomputable def ak6:List (Nat×CE):=[(16,anX),(17,Uf),(27,aar),(28,agY),(21,ak4)]
theorem aaA:dD Tryz.prog ak6:=⟨X6,Lp,Ug,ad6,aiA,trivial⟩
noncomputable def anY:CE:=⟨[(.tmp 0 true [dY,dI,dI,(.dat (.list oD)),dI,dI]),(.tmp 1 true [(.dat (.list (.pair .str (.pair bT (.pair bT (.pair bT (.list (.pair (.pair qm (.pair bT bT)) (.pair bT bT))))))))),dI]),(.tmp 2 false [dS]),(.tmp 3 false [dI])],[(.tmp 0 true [dY,dI,dI,(.dat (.list oD)),dI,dI]),(.tmp 1 false [yV])],rZ⟩
theorem anZ:aS Tryz.prog 14 anY :=kU ak5 dR aaA Tryz.func14
def ak7:List (Nat×PL):=[(134480385,(.carry [])),(18049651601311750,(.carry [.tmp 23 false [dI]]))]
noncomputable def jF:(BN)->Option ((jK)×Bool):=fun (a1,(a2,(a3,(a4,(a5,a6))))) =>
 ah (fC (a1,(a2,(a3,(a4,(a5,a6)))))) fun x7 =>
 bif (!x7) then
 some ((([]:List UInt8),(([]:List UInt8),(([]:List UInt8),((0:Int),((0:Int),((0:Int),((0:Int),((0:Int),((0:Int),false))))))))),false)
 else
 bif (decide (a2≠(a1.length:Int))) then
 some ((([]:List UInt8),(([]:List UInt8),(([]:List UInt8),((0:Int),((0:Int),((0:Int),((0:Int),((0:Int),((0:Int),false))))))))),false)
 else
 aB (aA (fun v8 =>
 bif (decide (v8<(a4.length:Int))) then
 bif (decide (((0:Int)<=v8)/\(v8<(a4.length:Int)))) then
 ah a4[v8.toNat]? fun x9 =>
 bif (decide (x9.2.2.2.2.2.2.1≠(0:Int))) then
 bif (!x9.2.2.2.2.2.2.2.2.2) then
 au (au (some ((x9.1,(x9.2.1,(x9.2.2.1,(x9.2.2.2.1,(x9.2.2.2.2.1,(x9.2.2.2.2.2.1,(x9.2.2.2.2.2.2.1,(x9.2.2.2.2.2.2.2.1,(x9.2.2.2.2.2.2.2.2.1,x9.2.2.2.2.2.2.2.2.2))))))))),true)))
 else
 some (Sum.inl (IntKind.wrap .i64 (v8+(1:Int))))
 else
 some (Sum.inl (IntKind.wrap .i64 (v8+(1:Int))))
 else none
 else
 au (some (Sum.inl ()))) (0:Int)) fun _ =>
 some ((([]:List UInt8),(([]:List UInt8),(([]:List UInt8),((0:Int),((0:Int),((0:Int),((0:Int),((0:Int),((0:Int),false))))))))),false)
noncomputable def ak8:List (Nat×CE):=[(27,aar)]
theorem aaB:dD Tryz.prog ak8:=⟨Ug,trivial⟩
noncomputable def an0:CE:=⟨[(.tmp 0 true [dY,dI,dI,(.dat (.list oD)),dI,dI])],[(.tmp 0 true [dS,dS,dS,dI,dI,dI,dI,dI,dI,dO]),(.tmp 1 false [dO])],jF⟩
theorem an1:aS Tryz.prog 12 an0 :=kU ak7 dR aaB Tryz.func12
def ak9:List (Nat×PL):=[]
noncomputable def lJ:(BN)->Option (BN):=fun (a1,(a2,(a3,(a4,(a5,a6))))) =>
 ah (fC (a1,(a2,(a3,(a4,(a5,a6)))))) fun x7 =>
 bif (!x7) then
 some (([]:List Int),((0:Int),((0:Int),(([]:List jK),((0:Int),(0:Int))))))
 else
 ah (kJ (a1,(a2,a3))) fun (x9,(x10,x11)) =>
 ah (kX a4) fun x12 =>
 bif (decide (x12.length<=x12.length)) then
 some (x9,(x10,(x11,((x12.take x12.length),(a5,a6)))))
 else none
noncomputable def an2:CE:=⟨[(.tmp 0 true [dY,dI,dI])],[(.tmp 0 true [dY,dI,dI])],kJ⟩
noncomputable def ala:List (Nat×CE):=[(36,an2),(33,pX),(1000000033,oG),(27,aar)]
theorem aaC:dD Tryz.prog ala:=⟨adU,vW,tH,Ug,trivial⟩
noncomputable def an3:CE:=⟨[(.tmp 0 true [dY,dI,dI,(.dat (.list oD)),dI,dI])],[(.tmp 0 true [dY,dI,dI,(.dat (.list oD)),dI,dI])],lJ⟩
theorem an4:aS Tryz.prog 13 an3 :=kU ak9 dR aaC Tryz.func13
def ag1:List (Nat×PL):=[]
noncomputable def iC:(((List Int)×(Int×Int))×(Int×(List Int)))->Option (((List Int)×(Int×Int))×Int):=fun ((a1,(a2,a3)),(a4,a5)) =>
 ah (gq (a1,(a2,a3))) fun x6 =>
 bif (!x6) then
 some ((([]:List Int),((0:Int),(0:Int))),(2:Int))
 else
 bif (decide (a3=(1048576:Int))) then
 some ((([]:List Int),((0:Int),(0:Int))),(10:Int))
 else
 ah (eP (a3,(a4,a5))) fun (x8,x9) =>
 bif (decide (x9≠(0:Int))) then
 some ((([]:List Int),((0:Int),(0:Int))),x9)
 else
 bif (decide ((a1.length*1)<=140737488355328)) then
 bif (decide (a1.length<=a1.length)) then
 bif (decide (((List.length ((a1.take a1.length)++x8))*1)<=140737488355328)) then
 ah (some ((a1.take a1.length)++x8)) fun x11 =>
 bif (decide (x11.length<=x11.length)) then
 some (((x11.take x11.length),(a2,(IntKind.wrap .i64 (a3+(1:Int))))),(0:Int))
 else none
 else none
 else none
 else none
noncomputable def alb:CE:=⟨[(.tmp 0 false [dI]),(.tmp 1 true [yV,dY])],[(.tmp 0 false [dY]),(.tmp 1 false [yV])],eP⟩
noncomputable def alc:CE:=⟨[(.tmp 0 true [dY,dI,dI])],[(.tmp 0 false [dO])],gq⟩
noncomputable def ag2:List (Nat×CE):=[(107,alb),(110,alc)]
theorem Wj:dD Tryz.prog ag2:=⟨X9,Yd,trivial⟩
noncomputable def aiB:CE:=⟨[(.tmp 0 true [dY,dI,dI]),(.tmp 1 true [yV,dY])],[(.tmp 0 true [dY,dI,dI]),(.tmp 1 false [yV])],iC⟩
theorem ald:aS Tryz.prog 101 aiB :=kU ag1 dR Wj Tryz.func101
def ale:List (Nat×PL):=[(134480385,(.carry [.tmp 3 false [dI]])),(35253225785350,(.carry [.tmp 3 false [dI]]))]
noncomputable def bW:(BN)->Option Int:=fun (a1,(a2,(a3,(a4,(a5,a6))))) =>
 aB (aA (fun v7 =>
 bif (decide (v7<(a4.length:Int))) then
 bif (decide (((0:Int)<=v7)/\(v7<(a4.length:Int)))) then
 ah a4[v7.toNat]? fun x8 =>
 bif (decide (x8.2.2.2.2.2.2.1=(0:Int))) then
 some (Sum.inl (IntKind.wrap .i64 (v7+(1:Int))))
 else
 au (some (Sum.inl v7))
 else none
 else
 au (some (Sum.inl v7))) (0:Int)) fun v10 =>
 some v10
noncomputable def alf:List (Nat×CE):=[]
theorem aaD:dD Tryz.prog alf:=trivial
noncomputable def ag3:CE:=⟨[(.tmp 0 true [dY,dI,dI,(.dat (.list oD)),dI,dI])],[(.tmp 0 false [dI])],bW⟩
theorem aea:aS Tryz.prog 56 ag3 :=kU ale dR aaD Tryz.func56
def ag4:List (Nat×PL):=[(134480385,(.carry [.drop 0,.row 1 5 qm])),(18049651601311750,(.carry [.tmp 4 false [dI],.tmp 0 false [dI],.row 1 5 qm]))]
noncomputable def jg:Int->Option LN:=fun a1 =>
 aB (aA (fun (v2,(v3,v4)) =>
 bif (decide (v2>=(0:Int))) then
 bif (decide (((0:Int)<=v2)/\(v2<(8:Int)))) then
 ah v4[v2.toNat]? fun x7 =>
 some (Sum.inl ((IntKind.wrap .i64 (v2-(1:Int))),((IntKind.wrap .i64 (Int.tdiv v3 (256:Int))),(List.set v4 v2.toNat (IntKind.wrap .u8 (Int.tmod v3 (256:Int)))))))
 else none
 else
 au (some (Sum.inl v4))) ((7:Int),(a1,(List.replicate 8 (0:Int))))) fun v10 =>
 bif (decide (8<=v10.length)) then
 some (List.take 8 v10)
 else none
noncomputable def ag5:List (Nat×CE):=[]
theorem Wn:dD Tryz.prog ag5:=trivial
noncomputable def aiC:CE:=⟨[(.tmp 0 false [dI])],[(.tmp 0 false [dY])],jg⟩
theorem alg:aS Tryz.prog 115 aiC :=kU ag4 dR Wn Tryz.func115
def ag6:List (Nat×PL):=[(134480385,(.carry [.tmp 5 false [(.own 10000002 5 qm)]])),(18049651601311750,(.carry [.tmp 6 false [dI],.tmp 5 false [(.own 10000001 5 qm)]])),(68853957121,(.carry [.tmp 5 false [(.own 10000004 5 qm)],.dead 10000002])),(9241421688456087558,(.carry [.tmp 7 false [dI],.tmp 5 false [(.own 10000003 5 qm)],.dead 10000002]))]
noncomputable def bY:(LN×(List LU))->Option LN:=fun (a1,a2) =>
 aB (aA (fun (v3,v4) =>
 bif (decide (v3<(a1.length:Int))) then
 bif (decide (((0:Int)<=v3)/\(v3<(a1.length:Int)))) then
 ah a1[v3.toNat]? fun x5 =>
 ah (jg x5) fun x6 =>
 bif (decide (v4.length<=v4.length)) then
 bif (decide (((List.length ((v4.take v4.length)++x6))*1)<=140737488355328)) then
 ah (some ((v4.take v4.length)++x6)) fun x7 =>
 bif (decide (x7.length<=x7.length)) then
 some (Sum.inl ((IntKind.wrap .i64 (v3+(1:Int))),(x7.take x7.length)))
 else none
 else none
 else none
 else none
 else
 au (bif (decide (v4.length<=v4.length)) then
 some (Sum.inl (v4.take v4.length))
 else none)) ((0:Int),([]:List Int))) fun v9 =>
 aB (bif (decide (v9.length<=v9.length)) then
 aA (fun (v10,v11) =>
 bif (decide (v10<(a2.length:Int))) then
 bif (decide (((0:Int)<=v10)/\(v10<(a2.length:Int)))) then
 ah a2[v10.toNat]? fun x12 =>
 ah (some (IntKind.wrap .i64 (Int.tdiv (x12.length:Int) (256:Int)))) fun x13 =>
 bif (decide (((0:Int)<=v10)/\(v10<(a2.length:Int)))) then
 ah a2[v10.toNat]? fun x15 =>
 ah (some (Int.tmod (x15.length:Int) (256:Int))) fun x16 =>
 bif (decide (v11.length<=v11.length)) then
 bif (decide (((List.length ((v11.take v11.length)++((IntKind.wrap .u8 x13)::((IntKind.wrap .u8 x16)::([]:List Int)))))*1)<=140737488355328)) then
 ah (some ((v11.take v11.length)++((IntKind.wrap .u8 x13)::((IntKind.wrap .u8 x16)::([]:List Int))))) fun x18 =>
 bif (decide (((0:Int)<=v10)/\(v10<(a2.length:Int)))) then
 ah a2[v10.toNat]? fun x19 =>
 bif (decide (x19.length<=140737488355328)) then
 bif (decide (x18.length<=x18.length)) then
 bif (decide (((List.length ((x18.take x18.length)++(List.map (fun (x20:UInt8)=>(((UInt8.toNat x20):Nat):Int)) x19)))*1)<=140737488355328)) then
 ah (some ((x18.take x18.length)++(List.map (fun (x22:UInt8)=>(((UInt8.toNat x22):Nat):Int)) x19))) fun x21 =>
 bif (decide (x21.length<=x21.length)) then
 some (Sum.inl ((IntKind.wrap .i64 (v10+(1:Int))),(x21.take x21.length)))
 else none
 else none
 else none
 else none
 else none
 else none
 else none
 else none
 else none
 else
 au (bif (decide (v11.length<=v11.length)) then
 some (Sum.inl (v11.take v11.length))
 else none)) ((0:Int),(v9.take v9.length))
 else none) fun v24 =>
 bif (decide (v24.length<=v24.length)) then
 some (v24.take v24.length)
 else none
noncomputable def ag7:List (Nat×CE):=[(115,aiC)]
theorem Wp:dD Tryz.prog ag7:=⟨alg,trivial⟩
noncomputable def aiD:CE:=⟨[(.tmp 0 false [(.dat (.list bT))]),(.tmp 1 false [(.dat (.list .str))])],[(.tmp 0 false [dY])],bY⟩
theorem alh:aS Tryz.prog 111 aiD :=kU ag6 TM Wp Tryz.func111
def ali:List (Nat×PL):=[(262657,(.carry [])),(35253091829766,(.carry [.tmp 5 false [dI]]))]
noncomputable def fQ:((BN)×LU)->Option Int:=fun ((a1,(a2,(a3,(a4,(a5,a6))))),a7) =>
 aB (aA (fun v8 =>
 ah (bW (a1,(a2,(a3,(a4,(a5,a6)))))) fun x9 =>
 bif (decide (v8<x9)) then
 bif (decide (((0:Int)<=v8)/\(v8<(a4.length:Int)))) then
 ah a4[v8.toNat]? fun x10 =>
 bif (decide (x10.1=a7)) then
 au (au (some v8))
 else
 some (Sum.inl (IntKind.wrap .i64 (v8+(1:Int))))
 else none
 else
 au (some (Sum.inl ()))) (0:Int)) fun _ =>
 some (-1:Int)
noncomputable def alj:List (Nat×CE):=[(56,ag3)]
theorem aaE:dD Tryz.prog alj:=⟨aea,trivial⟩
noncomputable def an5:CE:=⟨[(.tmp 0 true [dY,dI,dI,(.dat (.list oD)),dI,dI]),(.tmp 1 false [dS])],[(.tmp 0 false [dI])],fQ⟩
theorem an6:aS Tryz.prog 77 an5 :=kU ali dR aaE Tryz.func77
def alk:List (Nat×PL):=[(262657,(.carry [])),(35253091829766,(.carry [.tmp 5 false [dI]]))]
noncomputable def dw:((BN)×Int)->Option Int:=fun ((a1,(a2,(a3,(a4,(a5,a6))))),a7) =>
 aB (aA (fun v8 =>
 bif (decide (v8<(a4.length:Int))) then
 bif (decide (a7 > (0:Int))) then
 bif (decide (((0:Int)<=v8)/\(v8<(a4.length:Int)))) then
 ah a4[v8.toNat]? fun x9 =>
 bif (decide (x9.2.2.2.2.2.2.1=a7)) then
 au (au (some v8))
 else
 some (Sum.inl (IntKind.wrap .i64 (v8+(1:Int))))
 else none
 else
 some (Sum.inl (IntKind.wrap .i64 (v8+(1:Int))))
 else
 au (some (Sum.inl ()))) (0:Int)) fun _ =>
 some (-1:Int)
noncomputable def alm:List (Nat×CE):=[]
theorem aaF:dD Tryz.prog alm:=trivial
noncomputable def an7:CE:=⟨[(.tmp 0 true [dY,dI,dI,(.dat (.list oD)),dI,dI]),(.tmp 1 false [dI])],[(.tmp 0 false [dI])],dw⟩
theorem an8:aS Tryz.prog 76 an7 :=kU alk dR aaF Tryz.func76
def aln:List (Nat×PL):=[(68853957121,(.carry [.tmp 6 false [dI]])),(18049651735267334,(.carry [.tmp 6 false [dI]]))]
noncomputable def fU:((List jK)×(jK))->Option (List jK):=fun (a1,(a2,(a3,(a4,(a5,(a6,(a7,(a8,(a9,(a10,a11)))))))))) =>
 aB (aA (fun v12 =>
 bif (decide (v12<(a1.length:Int))) then
 bif (decide (((0:Int)<=v12)/\(v12<(a1.length:Int)))) then
 ah a1[v12.toNat]? fun x13 =>
 bif (decide (x13.2.2.2.2.2.2.1=(0:Int))) then
 bif (decide (((0:Int)<=v12)/\(v12<(a1.length:Int)))) then
 ah a1[v12.toNat]? fun x14 =>
 bif (Go.Op.bytesLess x14.1 a2) then
 some (Sum.inl (IntKind.wrap .i64 (v12+(1:Int))))
 else
 au (some (Sum.inl v12))
 else none
 else
 au (some (Sum.inl v12))
 else none
 else
 au (some (Sum.inl v12))) (0:Int)) fun v16 =>
 bif (decide (((0:Int)<=v16)/\(v16<=(a1.length:Int)))) then
 ah (some (List.take v16.toNat a1)) fun x17 =>
 bif (decide ((x17.length*104)<=140737488355328)) then
 bif (decide (x17.length<=x17.length)) then
 bif (decide (((List.length ((x17.take x17.length)++((a2,(a3,(a4,(a5,(a6,(a7,(a8,(a9,(a10,a11)))))))))::([]:List jK))))*104)<=140737488355328)) then
 ah (some ((x17.take x17.length)++((a2,(a3,(a4,(a5,(a6,(a7,(a8,(a9,(a10,a11)))))))))::([]:List jK)))) fun x19 =>
 bif (decide (((0:Int)<=v16)/\(v16<=(a1.length:Int)))) then
 ah (some (List.drop v16.toNat a1)) fun x20 =>
 bif (decide (x19.length<=x19.length)) then
 bif (decide (((List.length ((x19.take x19.length)++x20))*104)<=140737488355328)) then
 ah (some ((x19.take x19.length)++x20)) fun x21 =>
 bif (decide (x21.length<=x21.length)) then
 some (x21.take x21.length)
 else none
 else none
 else none
 else none
 else none
 else none
 else none
 else none
noncomputable def alo:List (Nat×CE):=[]
theorem aaG:dD Tryz.prog alo:=trivial
noncomputable def an9:CE:=⟨[(.tmp 0 false [(.dat (.list oD))]),(.tmp 1 true [dS,dS,dS,dI,dI,dI,dI,dI,dI,dO])],[(.tmp 0 false [(.dat (.list oD))])],fU⟩
theorem aoa:aS Tryz.prog 78 an9 :=kU aln TM aaG Tryz.func78
def EL:List (Nat×PL):=[]
noncomputable def um:(Int×(Int×(Int×(Int×(Int×(LU×(LU×LU)))))))->Option (Int×LN):=fun (a1,(a2,(a3,(a4,(a5,(a6,(a7,a8))))))) =>
 bif (decide (a1=(1:Int))) then
 ah (bY ((a2::([]:List Int)),(a6::(a7::(a8::([]:List LU)))))) fun x9 =>
 some ((1:Int),x9)
 else
 bif (decide (a1=(4:Int))) then
 ah (bY ((a2::(a3::(a4::(a5::([]:List Int))))),(a6::([]:List LU)))) fun x10 =>
 some ((4:Int),x10)
 else
 bif (decide (a1=(5:Int))) then
 ah (bY ((a3::([]:List Int)),([]:List LU))) fun x11 =>
 some ((5:Int),x11)
 else
 ah (bY ((a2::([]:List Int)),(a6::([]:List LU)))) fun x12 =>
 some (a1,x12)
noncomputable def EM:List (Nat×CE):=[(111,aiD)]
theorem Ad:dD Tryz.prog EM:=⟨alh,trivial⟩
noncomputable def yT:CE:=⟨[(.tmp 0 true [yV,dI,dI,dI,dI,dS,dS,dS])],[(.tmp 0 true [yV,dY])],um⟩
theorem Gt:aS Tryz.prog 102 yT :=kU EL dR Ad Tryz.func102
def alp:List (Nat×PL):=[(4731607904558101300225,(.carry [])),(18049651735527937,(.carry [])),(1240362622532514091484054017,(.carry [.mix 27 [dS,dS,dS,dI,dI,dI,dI,dI,dI,dO]])),(166478653092435647486973878391276033,(.carry []))]
noncomputable def aZ:((BN)×(Int×(Int×(Int×(Int×(Int×(LU×(LU×LU))))))))->Option ((BN)×Bool):=fun ((a1,(a2,(a3,(a4,(a5,a6))))),(a7,(a8,(a9,(a10,(a11,(a12,(a13,a14)))))))) =>
 bif (decide (a7=(5:Int))) then
 ah (dw ((a1,(a2,(a3,(a4,(a5,a6))))),a9)) fun x15 =>
 bif (decide (x15<(0:Int))) then
 some ((a1,(a2,(a3,(a4,(a5,a6))))),false)
 else
 bif (decide (((0:Int)<=x15)/\(x15<(a4.length:Int)))) then
 ah a4[x15.toNat]? fun x16 =>
 bif x16.2.2.2.2.2.2.2.2.2 then
 some ((a1,(a2,(a3,(a4,(a5,a6))))),false)
 else
 bif (decide ((a4.length*104)<=140737488355328)) then
 bif (decide (((0:Int)<=x15)/\(x15<(a4.length:Int)))) then
 ah a4[x15.toNat]? fun x18 =>
 bif (decide (a4.length<=(List.length (List.set a4 x15.toNat (x18.1,(x18.2.1,(x18.2.2.1,(x18.2.2.2.1,(x18.2.2.2.2.1,(x18.2.2.2.2.2.1,(x18.2.2.2.2.2.2.1,(x18.2.2.2.2.2.2.2.1,(x18.2.2.2.2.2.2.2.2.1,true))))))))))))) then
 some ((a1,(a2,(a3,((List.take a4.length (List.set a4 x15.toNat (x18.1,(x18.2.1,(x18.2.2.1,(x18.2.2.2.1,(x18.2.2.2.2.1,(x18.2.2.2.2.2.1,(x18.2.2.2.2.2.2.1,(x18.2.2.2.2.2.2.2.1,(x18.2.2.2.2.2.2.2.2.1,true))))))))))),(a5,a6))))),true)
 else none
 else none
 else none
 else none
 else
 ah (fQ ((a1,(a2,(a3,(a4,(a5,(fV a6 a8)))))),a12)) fun x19 =>
 bif (decide (a7=(1:Int))) then
 aB (bif (decide (x19>=(0:Int))) then
 au (some ((a1,(a2,(a3,(a4,(a5,(fV a6 a8)))))),false))
 else
 ah (bW (a1,(a2,(a3,(a4,(a5,(fV a6 a8))))))) fun x20 =>
 bif (decide (x20>=(256:Int))) then
 au (some ((a1,(a2,(a3,(a4,(a5,(fV a6 a8)))))),false))
 else
 bif (decide (a12=([]:List UInt8))) then
 au (some ((a1,(a2,(a3,(a4,(a5,(fV a6 a8)))))),false))
 else
 bif (decide ((a12.length:Int) > (200:Int))) then
 au (some ((a1,(a2,(a3,(a4,(a5,(fV a6 a8)))))),false))
 else
 bif (decide ((a13.length:Int) > (200:Int))) then
 au (some ((a1,(a2,(a3,(a4,(a5,(fV a6 a8)))))),false))
 else
 bif (decide ((a14.length:Int) > (200:Int))) then
 au (some ((a1,(a2,(a3,(a4,(a5,(fV a6 a8)))))),false))
 else
 some (Sum.inl ())) fun _ =>
 ah (fU (a4,(a12,(a13,(a14,(a8,((-1:Int),(a8,((0:Int),((0:Int),((0:Int),false))))))))))) fun x21 =>
 some ((a1,(a2,(a3,(x21,(a5,(fV a6 a8)))))),true)
 else
 aB (bif (decide (x19<(0:Int))) then
 au (some ((a1,(a2,(a3,(a4,(a5,(fV a6 a8)))))),false))
 else
 bif (decide (((0:Int)<=x19)/\(x19<(a4.length:Int)))) then
 ah a4[x19.toNat]? fun x22 =>
 bif (decide (a8<x22.2.2.2.2.2.1)) then
 au (some ((a1,(a2,(a3,(a4,(a5,(fV a6 a8)))))),false))
 else
 bif (decide (a7=(2:Int))) then
 bif (decide (((0:Int)<=x19)/\(x19<(a4.length:Int)))) then
 ah a4[x19.toNat]? fun x23 =>
 bif (decide (x23.2.2.2.2.1>=(0:Int))) then
 au (some ((a1,(a2,(a3,(a4,(a5,(fV a6 a8)))))),false))
 else
 some (Sum.inl ())
 else none
 else
 some (Sum.inl ())
 else none) fun _ =>
 bif (decide (((0:Int)<=x19)/\(x19<(a4.length:Int)))) then
 ah a4[x19.toNat]? fun x24 =>
 bif (decide (((0:Int)<=x19)/\(x19<=(a4.length:Int)))) then
 ah (some (List.take x19.toNat a4)) fun x25 =>
 bif (decide ((x25.length*104)<=140737488355328)) then
 ah (some (IntKind.wrap .i64 (x19+(1:Int)))) fun x27 =>
 bif (decide (((0:Int)<=x27)/\(x27<=(a4.length:Int)))) then
 ah (some (List.drop x27.toNat a4)) fun x28 =>
 bif (decide (x25.length<=x25.length)) then
 bif (decide (((List.length ((x25.take x25.length)++x28))*104)<=140737488355328)) then
 ah (some ((x25.take x25.length)++x28)) fun x29 =>
 aB (bif (decide (a7=(2:Int))) then
 some (Sum.inl (x24.1,(x24.2.1,(x24.2.2.1,(x24.2.2.2.1,(a8,(a8,(x24.2.2.2.2.2.2.1,(x24.2.2.2.2.2.2.2.1,(x24.2.2.2.2.2.2.2.2.1,x24.2.2.2.2.2.2.2.2.2))))))))))
 else
 some (Sum.inl (x24.1,(x24.2.1,(x24.2.2.1,(x24.2.2.2.1,(x24.2.2.2.2.1,(a8,(x24.2.2.2.2.2.2.1,(x24.2.2.2.2.2.2.2.1,(x24.2.2.2.2.2.2.2.2.1,x24.2.2.2.2.2.2.2.2.2))))))))))) fun (v30,(v31,(v32,(v33,(v34,(v35,(v36,(v37,(v38,v39))))))))) =>
 bif (decide (a7<(4:Int))) then
 bif (decide (x29.length<=x29.length)) then
 ah (fU ((x29.take x29.length),(v30,(v31,(v32,(v33,(v34,(v35,(v36,(v37,(v38,v39))))))))))) fun x40 =>
 some ((a1,(a2,(a3,(x40,(a5,(fV a6 a8)))))),true)
 else none
 else
 bif (decide (a9=(0:Int))) then
 bif (decide (x29.length<=x29.length)) then
 some ((a1,(a2,(a3,((x29.take x29.length),(a5,(fV a6 a8)))))),(decide (v34=(-1:Int))))
 else none
 else
 aB (bif (decide (v34=(-1:Int))) then
 au (some ((a1,(a2,(a3,(a4,(a5,(fV a6 a8)))))),false))
 else
 bif (decide (a9≠(IntKind.wrap .i64 (a5+(1:Int))))) then
 au (some ((a1,(a2,(a3,(a4,(a5,(fV a6 a8)))))),false))
 else
 bif (decide (a9 > (1048576:Int))) then
 au (some ((a1,(a2,(a3,(a4,(a5,(fV a6 a8)))))),false))
 else
 ah (bH (v34,v35)) fun x42 =>
 bif (decide (a10≠x42)) then
 au (some ((a1,(a2,(a3,(a4,(a5,(fV a6 a8)))))),false))
 else
 some (Sum.inl ())) fun _ =>
 bif (decide (x29.length<=x29.length)) then
 bif (decide (((List.length ((x29.take x29.length)++((v30,(v31,(v32,(v33,(v34,(v35,(a9,(a10,(a11,v39)))))))))::([]:List jK))))*104)<=140737488355328)) then
 ah (some ((x29.take x29.length)++((v30,(v31,(v32,(v33,(v34,(v35,(a9,(a10,(a11,v39)))))))))::([]:List jK)))) fun x43 =>
 bif (decide (x43.length<=x43.length)) then
 some ((a1,(a2,(a3,((x43.take x43.length),(a9,(fV a6 a8)))))),true)
 else none
 else none
 else none
 else none
 else none
 else none
 else none
 else none
 else none
noncomputable def aob:CE:=⟨[(.tmp 0 false [dI]),(.tmp 1 false [dI])],[(.tmp 0 false [dI])],bH⟩
noncomputable def alq:List (Nat×CE):=[(80,aob),(56,ag3),(77,an5),(76,an7),(78,an9)]
theorem aaH:dD Tryz.prog alq:=⟨adA,aea,an6,an8,aoa,trivial⟩
noncomputable def alr:CE:=⟨[(.tmp 0 true [dY,dI,dI,(.dat (.list oD)),dI,dI]),(.tmp 1 true [yV,dI,dI,dI,dI,dS,dS,dS])],[(.tmp 0 true [dY,dI,dI,(.dat (.list oD)),dI,dI]),(.tmp 1 false [dO])],aZ⟩
theorem aiE:aS Tryz.prog 55 alr :=kU alp TM aaH Tryz.func55
def als:List (Nat×PL):=[]
noncomputable def jX:(BN)->Option Bool:=fun (a1,(a2,(a3,(a4,(a5,a6))))) =>
 some (decide (a3>=(1048576:Int)))
noncomputable def alu:List (Nat×CE):=[]
theorem aaI:dD Tryz.prog alu:=trivial
noncomputable def aoc:CE:=⟨[(.tmp 0 true [dY,dI,dI,(.dat (.list oD)),dI,dI])],[(.tmp 0 false [dO])],jX⟩
theorem aod:aS Tryz.prog 82 aoc :=kU als dR aaI Tryz.func82
def alv:List (Nat×PL):=[]
noncomputable def jY:((BN)×(Int×(Int×(Int×(Int×(Int×(LU×(LU×LU))))))))->Option (BN):=fun ((a1,(a2,(a3,(a4,(a5,a6))))),(a7,(a8,(a9,(a10,(a11,(a12,(a13,a14)))))))) =>
 ah (aZ ((a1,(a2,(a3,(a4,(a5,a6))))),(a7,(a8,(a9,(a10,(a11,(a12,(a13,a14))))))))) fun ((x16,(x17,(x18,(x19,(x20,x21))))),x22) =>
 ah (um (a7,(a8,(a9,(a10,(a11,(a12,(a13,a14)))))))) fun (x24,x25) =>
 ah (iC ((a1,(a2,a3)),(x24,x25))) fun ((x27,(x28,x29)),x30) =>
 some (x27,(x28,(x29,(x19,(x20,x21)))))
noncomputable def alx:List (Nat×CE):=[(101,aiB),(102,yT),(55,alr)]
theorem aaJ:dD Tryz.prog alx:=⟨ald,Gt,aiE,trivial⟩
noncomputable def aoe:CE:=⟨[(.tmp 0 true [dY,dI,dI,(.dat (.list oD)),dI,dI]),(.tmp 1 true [yV,dI,dI,dI,dI,dS,dS,dS])],[(.tmp 0 true [dY,dI,dI,(.dat (.list oD)),dI,dI])],jY⟩
theorem aof:aS Tryz.prog 83 aoe :=kU alv dR aaJ Tryz.func83
def aly:List (Nat×PL):=[(68853957121,(.carry [.mix 15 [yV,dI,dI,dI,dI,dS,dS,dS]]))]
noncomputable def jC:((BN)×(((List (LU×(Int×(Int×(Int×(List ((Int×(Int×Int))×(Int×Int))))))))×Int)×(Int×Int)))->Option ((BN)×Int):=fun ((a1,(a2,(a3,(a4,(a5,a6))))),((a7,a8),(a9,a10))) =>
 bif (decide (((0:Int)<=a9)/\(a9<(a4.length:Int)))) then
 ah a4[a9.toNat]? fun x11 =>
 aB (bif (decide (x11.2.2.2.2.1>=(0:Int))) then
 ah (some (IntKind.wrap .i64 (a5+(1:Int)))) fun x12 =>
 ah (bH (x11.2.2.2.2.1,a10)) fun x13 =>
 ah (dH ((a7,a8),(x11.2.2.1,(x11.2.2.2.2.1,a10)))) fun (x15,x16) =>
 bif (decide (x16=(0:Int))) then
 some (Sum.inl ((4:Int),(a10,(x12,(x13,(x15,(x11.1,(([]:List UInt8),([]:List UInt8)))))))))
 else
 some (Sum.inl ((4:Int),(a10,(x12,(x13,((0:Int),(x11.1,(([]:List UInt8),([]:List UInt8)))))))))
 else
 some (Sum.inl ((4:Int),(a10,((0:Int),((0:Int),((0:Int),(x11.1,(([]:List UInt8),([]:List UInt8)))))))))) fun (v17,(v18,(v19,(v20,(v21,(v22,(v23,v24))))))) =>
 ah (jX (a1,(a2,(a3,(a4,(a5,a6)))))) fun x25 =>
 bif x25 then
 some ((([]:List Int),((0:Int),((0:Int),(([]:List jK),((0:Int),(0:Int)))))),(10:Int))
 else
 bif (decide (v19 > (1048576:Int))) then
 some ((([]:List Int),((0:Int),((0:Int),(([]:List jK),((0:Int),(0:Int)))))),(10:Int))
 else
 ah (jY ((a1,(a2,(a3,(a4,(a5,a6))))),(v17,(v18,(v19,(v20,(v21,(v22,(v23,v24))))))))) fun (x27,(x28,(x29,(x30,(x31,x32))))) =>
 some ((x27,(x28,(x29,(x30,(x31,x32))))),(0:Int))
 else none
noncomputable def aqD:CE:=⟨[(.tmp 0 true [(.dat (.list (.pair .str (.pair bT (.pair bT (.pair bT (.list (.pair (.pair qm (.pair bT bT)) (.pair bT bT))))))))),dI]),(.tmp 1 false [dS]),(.tmp 2 false [dI]),(.tmp 3 false [dI])],[(.tmp 0 false [dI]),(.tmp 1 false [yV])],dH⟩
noncomputable def alz:List (Nat×CE):=[(80,aob),(81,aqD),(82,aoc),(83,aoe)]
theorem aaK:dD Tryz.prog alz:=⟨adA,ais,aod,aof,trivial⟩
noncomputable def aog:CE:=⟨[(.tmp 0 true [dY,dI,dI,(.dat (.list oD)),dI,dI]),(.tmp 1 true [(.dat (.list (.pair .str (.pair bT (.pair bT (.pair bT (.list (.pair (.pair qm (.pair bT bT)) (.pair bT bT))))))))),dI]),(.tmp 2 false [dI]),(.tmp 3 false [dI])],[(.tmp 0 true [dY,dI,dI,(.dat (.list oD)),dI,dI]),(.tmp 1 false [yV])],jC⟩
theorem aoh:aS Tryz.prog 57 aog :=kU aly dR aaK Tryz.func57
def alA:List (Nat×PL):=[(134480385,(.carry [])),(18049651601311750,(.carry [.tmp 5 false [dI]]))]
noncomputable def iD:((List jK)×(List jK))->Option Bool:=fun (a1,a2) =>
 bif (decide ((a1.length:Int)≠(a2.length:Int))) then
 some false
 else
 aB (aA (fun v3 =>
 bif (decide (v3<(a1.length:Int))) then
 bif (decide (((0:Int)<=v3)/\(v3<(a1.length:Int)))) then
 ah a1[v3.toNat]? fun x4 =>
 bif (decide (((0:Int)<=v3)/\(v3<(a2.length:Int)))) then
 ah a2[v3.toNat]? fun x5 =>
 bif (!((decide (x4.1=x5.1))&&((decide (x4.2.1=x5.2.1))&&((decide (x4.2.2.1=x5.2.2.1))&&((decide (x4.2.2.2.1=x5.2.2.2.1))&&((decide (x4.2.2.2.2.1=x5.2.2.2.2.1))&&((decide (x4.2.2.2.2.2.1=x5.2.2.2.2.2.1))&&((decide (x4.2.2.2.2.2.2.1=x5.2.2.2.2.2.2.1))&&((decide (x4.2.2.2.2.2.2.2.1=x5.2.2.2.2.2.2.2.1))&&((decide (x4.2.2.2.2.2.2.2.2.1=x5.2.2.2.2.2.2.2.2.1))&&(x4.2.2.2.2.2.2.2.2.2==x5.2.2.2.2.2.2.2.2.2))))))))))) then
 au (au (some false))
 else
 some (Sum.inl (IntKind.wrap .i64 (v3+(1:Int))))
 else none
 else none
 else
 au (some (Sum.inl ()))) (0:Int)) fun _ =>
 some true
noncomputable def alB:List (Nat×CE):=[]
theorem aaL:dD Tryz.prog alB:=trivial
noncomputable def aoi:CE:=⟨[(.tmp 0 false [(.dat (.list oD))]),(.tmp 1 false [(.dat (.list oD))])],[(.tmp 0 false [dO])],iD⟩
theorem aoj:aS Tryz.prog 26 aoi :=kU alA dR aaL Tryz.func26
def aok:List (Nat×PL):=[]
noncomputable def iT:((BN)×(BN))->Option Bool:=fun ((a1,(a2,(a3,(a4,(a5,a6))))),(a7,(a8,(a9,(a10,(a11,a12)))))) =>
 ah (fE ((a1,(a2,a3)),(a7,(a8,a9)))) fun x13 =>
 bif x13 then
 ah (iD (a4,a10)) fun x14 =>
 bif x14 then
 bif (decide (a5=a11)) then
 some (decide (a6=a12))
 else
 some false
 else
 some false
 else
 some false
noncomputable def aol:CE:=⟨[(.tmp 0 true [dY,dI,dI]),(.tmp 1 true [dY,dI,dI])],[(.tmp 0 false [dO])],fE⟩
noncomputable def aom:List (Nat×CE):=[(25,aol),(26,aoi)]
theorem aeb:dD Tryz.prog aom:=⟨adS,aoj,trivial⟩
noncomputable def ce8:CE:=⟨[(.tmp 0 true [dY,dI,dI,(.dat (.list oD)),dI,dI]),(.tmp 1 true [dY,dI,dI,(.dat (.list oD)),dI,dI])],[(.tmp 0 false [dO])],iT⟩
theorem aqE:aS Tryz.prog 8 ce8 :=kU aok dR aeb Tryz.func8
def aon:List (Nat×PL):=[]
noncomputable def lK:((List (LU×(Int×(Int×(Int×(List ((Int×(Int×Int))×(Int×Int))))))))×Int)->Option Bool:=fun (a1,a2) =>
 some (decide ((a1.length:Int)<=(20:Int)))
noncomputable def aoo:List (Nat×CE):=[]
theorem aec:dD Tryz.prog aoo:=trivial
noncomputable def ce4:CE:=⟨[(.tmp 0 true [(.dat (.list (.pair .str (.pair bT (.pair bT (.pair bT (.list (.pair (.pair qm (.pair bT bT)) (.pair bT bT))))))))),dI])],[(.tmp 0 false [dO])],lK⟩
theorem aqF:aS Tryz.prog 4 ce4 :=kU aon dR aec Tryz.func4
def alC:List (Nat×PL):=[]
noncomputable def ni:PUnit->Option ((List (LU×(Int×(Int×(Int×(List ((Int×(Int×Int))×(Int×Int))))))))×Int):=fun _ =>
 some (((([]:List UInt8),((0:Int),((1:Int),((1:Int),((((127:Int),((0:Int),(1440:Int))),((1000:Int),(1000:Int)))::([]:List ((Int×(Int×Int))×(Int×Int))))))))::([]:List (LU×(Int×(Int×(Int×(List ((Int×(Int×Int))×(Int×Int))))))))),(0:Int))
noncomputable def alD:List (Nat×CE):=[]
theorem aaM:dD Tryz.prog alD:=trivial
noncomputable def aop:CE:=⟨[],[(.tmp 0 true [(.dat (.list (.pair .str (.pair bT (.pair bT (.pair bT (.list (.pair (.pair qm (.pair bT bT)) (.pair bT bT))))))))),dI])],ni⟩
theorem aoq:aS Tryz.prog 15 aop :=kU alC dR aaM Tryz.func15
theorem Wq {α β:Type} {l:List α} {v:Int} (d:α) (f:α->Option β) (h:0<=v/\v<(l.length:Int)):ah l[Int.toNat v]? f=f (l.getD v.toNat d):=by rw [qN d (by omega)];rfl
theorem get_at {α:Type} {l:List α} {i:Nat} (d:α) (h:i<l.length):∃x,l.getD i d=x/\∀ {β:Type} (f:α->Option β),ah l[Int.toNat (i:Int)]? f=f x:=⟨_,rfl,fun f=>Wq d f (by omega)⟩
def Is (o:Option Bool) (P:Prop):Prop:=(P/\o=some true)\/(¬P/\o=some false)
theorem Is.t {P:Prop} (h:P):Is (some true) P := .inl ⟨h,rfl⟩
theorem Is.f {P:Prop} (h:¬P):Is (some false) P := .inr ⟨h,rfl⟩
theorem Is.d {P Q:Prop} [Decidable Q] (h:Q↔P):Is (some (decide Q)) P:=by
 by_cases k:Q
 ·exact .inl ⟨h.1 k,by rw [decide_eq_true k]⟩
 ·exact .inr ⟨fun p=>k (h.2 p),by rw [decide_eq_false k]⟩
theorem Is.eq {o o':Option Bool} {P:Prop} (h:Is o P) (k:Is o' P):o=o':=by
 rcases h with ⟨h,e⟩ | ⟨h,e⟩<;>rcases k with ⟨k,e'⟩ | ⟨k,e'⟩
 ·rw [e,e']
 ·exact (k h).elim
 ·exact (h k).elim
 ·rw [e,e']
theorem Is.iff {o:Option Bool} {P Q:Prop} (h:Is o P) (k:P↔Q):Is o Q:=by
 rcases h with ⟨h,e⟩ | ⟨h,e⟩
 ·exact .inl ⟨k.1 h,e⟩
 ·exact .inr ⟨fun q=>h (k.2 q),e⟩
theorem Is.some {o:Option Bool} {P:Prop} (h:Is o P):∃b,o=Option.some b:=by
 rcases h with ⟨_,e⟩ | ⟨_,e⟩<;>exact ⟨_,e⟩
theorem Ae {β:Type} {body:Int->Option (Int ⊕ β)} (n:Nat) (ok:Nat->Prop) (r0 r1:β) (h1:∀i:Nat,i<n->ok i->body (i:Int)=some (.inl ((i+1:Nat):Int))) (h2:∀i:Nat,i<n->¬ok i->body (i:Int)=some (.inr r1)) (h3:body (n:Int)=some (.inr r0)) :
 ((∀i,i<n->ok i)/\aA body (0:Int)=some r0)\/(¬(∀i,i<n->ok i)/\aA body (0:Int)=some r1):=by
 have hs:=pV (body:=body) (fun i=>(i:Int)) n (fun i=>¬ok i) (r0:=r0) (r1:=r1) (x:=0) rfl (fun i hi hb=>h1 i hi (Classical.not_not.1 hb)) h2 h3;rcases hs with ⟨⟨i,hi,hb⟩,e⟩ | ⟨hn,e⟩
 ·exact .inr ⟨fun h=>hb (h i hi),e⟩
 ·exact .inl ⟨fun i hi=>Classical.byContradiction fun h=>hn ⟨i,hi,h⟩,e⟩
theorem aaN {υ β:Type} {body:υ->Option (υ ⊕ β)} (st:Nat->υ) (n:Nat) (ok:Nat->Prop) (r0 r1:β) {x:υ} (hx:st 0=x) (h1:∀i:Nat,i<n->(∀j,j<i->ok j)->ok i->body (st i)=some (.inl (st (i+1)))) (h2:∀i:Nat,i<n->(∀j,j<i->ok j)->¬ok i->body (st i)=some (.inr r1)) (h3:(∀j,j<n->ok j)->body (st n)=some (.inr r0)) :
 ((∀i,i<n->ok i)/\aA body x=some r0)\/(¬(∀i,i<n->ok i)/\aA body x=some r1):=by
 by_cases h:∃i,i<n/\¬ok i
 ·obtain ⟨i,⟨k1,k2⟩,k3⟩:=least h;have k4:∀j,j<i->ok j:=fun j hj=>Classical.byContradiction fun hp=>k3 j hj ⟨by omega,hp⟩;exact .inr ⟨fun g=>k2 (g i k1),bQ st i hx (fun j hj=>h1 j (by omega) (fun q hq=>k4 q (by omega)) (k4 j hj)) (h2 i k1 k4 k2)⟩
 ·have k4:∀j,j<n->ok j:=fun j hj=>Classical.byContradiction fun hp=>h ⟨j,hj,hp⟩;exact .inl ⟨k4,bQ st n hx (fun j hj=>h1 j hj (fun q hq=>k4 q (by omega)) (k4 j hj)) (h3 k4)⟩
theorem ny {β:Type} {body:Int->Option (Int ⊕ β)} (n:Nat) (p:Nat->Prop) (g:Nat->β) (r0:β) (h1:∀i:Nat,i<n->¬p i->body (i:Int)=some (.inl ((i+1:Nat):Int))) (h2:∀i:Nat,i<n->p i->body (i:Int)=some (.inr (g i))) (h3:body (n:Int)=some (.inr r0)) :
 (∃i,i<n/\p i/\(∀j,j<i->¬p j)/\aA body (0:Int)=some (g i))\/((∀i,i<n->¬p i)/\aA body (0:Int)=some r0):=by
 by_cases h:∃i,i<n/\p i
 ·obtain ⟨i,⟨k1,k2⟩,k3⟩:=least h;exact .inl ⟨i,k1,k2,fun j hj hp=>k3 j hj ⟨by omega,hp⟩,bQ (fun i=>(i:Int)) i rfl (fun j hj=>h1 j (by omega) fun hp=>k3 j hj ⟨by omega,hp⟩) (h2 i k1 k2)⟩
 ·exact .inr ⟨fun i hi hp=>h ⟨i,hi,hp⟩,bQ (fun i=>(i:Int)) n rfl (fun j hj=>h1 j hj fun hp=>h ⟨j,hj,hp⟩) h3⟩
theorem getD_take {α:Type} (l:List α) (d:α) {i k:Nat} (h:k<i):(l.take i).getD k d=l.getD k d:=by
 rw [List.getD_eq_getElem?_getD,List.getD_eq_getElem?_getD,List.getElem?_take,if_pos h]
theorem take_snoc {α:Type} (l:List α) (d:α) {i:Nat} (h:i<l.length):l.take (i+1)=l.take i++[l.getD i d]:=by
 rw [List.take_add_one,List.getElem?_eq_getElem h,Ac d h];rfl
theorem aN:(∀ {α β:Type} (a:α) (f:α->Option β),ah (some a) f=f a)/\(∀ {α β:Type} (f:α->Option β),ah none f=none)/\(∀ {α β:Type} (a:α) (f:α->Option β),aB (some (.inl a)) f=f a)/\(∀ {α β:Type} (b:β) (f:α->Option β),aB (some (.inr b)) f=some b)/\(∀ {α β:Type} (f:α->Option β),aB none f=none)/\(∀ {α β:Type} (b:β),(au (some b):Option (α ⊕ β))=some (.inr b))/\(∀ {α β:Type},(au none:Option (α ⊕ β))=none)/\(∀ {α:Type} (a b:α),(bif true then a else b)=a)/\(∀ {α:Type} (a b:α),(bif false then a else b)=b)/\(∀ {α:Type} (p q:Bool) (a b:α),(bif (p&&q) then a else b)=bif p then (bif q then a else b) else b)/\(∀ {α:Type} (p q:Bool) (a b:α),(bif (p||q) then a else b)=bif p then a else (bif q then a else b))/\(∀ {α:Type} (p:Bool) (a b:α),(bif (!p) then a else b)=bif p then b else a)/\(∀ {α:Type} (p:Prop) [Decidable p] (a b:α),(bif decide p then a else b)=if p then a else b)/\(∀ {α:Type} (p:Prop) [Decidable p] (a b:α),p->(if p then a else b)=a)/\(∀ {α:Type} (p:Prop) [Decidable p] (a b:α),¬p->(if p then a else b)=b) :=
 ⟨ay,aI,aF,aG,aJ,aO,aP,fun _ _=>rfl,fun _ _=>rfl,adq,agi,cond_not,aK,fun _ _ _ _ h=>if_pos h,fun _ _ _ _ h=>if_neg h⟩
theorem aQ:(∀ {α:Type} (l:List α),List.take l.length l=l)/\(∀n:Nat,(n<=n)=True)/\(!true)=false/\(!false)=true/\(∀ {α:Type} (a b:α),(if True then a else b)=a)/\(∀ {α:Type} (a b:α),(if False then a else b)=b) :=
 ⟨fun l=>List.take_length,fun n=>eq_true (Nat.le_refl n),rfl,rfl,fun _ _=>if_true ..,fun _ _=>if_false ..⟩
theorem bM:(∀ {α:Type} (l:List α) (i:Nat) (a:α),(l.set i a).length=l.length)/\(∀ {α:Type} (l m:List α),(l++m).length=l.length+m.length)/\(∀ {α:Type} (a:α) (l:List α),(a::l).length=l.length+1)/\(∀ {α:Type},([]:List α).length=0)/\(∀ {α:Type} (l:List α),[]++l=l)/\(∀ {α:Type} (n:Nat) (l:List α),(l.take n).length=min n l.length)/\(∀ {α:Type} (n:Nat) (l:List α),(l.drop n).length=l.length-n) :=
 ⟨fun _ _ _=>List.length_set,fun _ _=>List.length_append,fun _ _=>rfl,rfl,fun _=>rfl,fun _ _=>List.length_take,fun _ _=>List.length_drop⟩
end Go.Proofs.YtkpijdndakljjaaGreat
