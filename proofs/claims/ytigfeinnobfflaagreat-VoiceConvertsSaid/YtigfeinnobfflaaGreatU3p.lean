import Derived.Test.YtigfeinnobfflaaGreatJ9p
import Derived.Test.YtigfeinnobfflaaGreatZ3p
import Derived.Test.YtigfeinnobfflaaGreatXBp
import Derived.Test.YtigfeinnobfflaaGreatZ2p
set_option linter.unusedSimpArgs false
set_option linter.unusedVariables false
set_option maxRecDepth 100000
set_option maxHeartbeats 4000000
namespace Go.Proofs.YtigfeinnobfflaaGreat
open Go.RowKit
theorem ahO {d:Int} {p:List WT} {a b:Int} (hd:a<=d/\d<=b) (hp:∀w∈p,w.2.1<=b):a<=maxS d p/\maxS d p<=b:=by
 induction p generalizing d with
 | nil=>exact hd
 | cons w p ih =>
   have hw:=hp w (List.mem_cons_self ..);have:=zC (a:=d) (b:=w.2.1);exact ih (d:=bf d w.2.1) (by omega) fun x hx=>hp x (List.mem_cons_of_mem _ hx)
theorem aat {j:Jt} (h:JV j) {n:Int} (hn:j.now<=n/\n<=1000000):JV (j.run n):=by
 have hl:=congrArg List.length (jP n j.q);rw [List.length_append] at hl;obtain ⟨⟨h1,h2,h3,h4,h5,h6,h7,h8,h9,h10,h11,h12⟩,ho,hp,hd,hw⟩:=h;have hM:=ahO (a := -1) (b:=1000) h6 fun w hw'=>by have:=hw w (sD (n:=n) hw');unfold WOk at this;omega
 refine ⟨⟨h1,by simp only [Jt.run];omega,h3,h4,h5,hM,h7,h8,h9,h10,?_,?_⟩,fun hf => ?_,hp.sublist (List.dropWhile_sublist _),hd.sublist ((List.dropWhile_sublist _).map _),fun w hw' => ?_⟩
 ·show 0<=j.played+((due n j.q).length:Int)
  omega
 ·show j.late+j.twice+(j.played+((due n j.q).length:Int))+((left n j.q).length:Int)<=190;omega
 ·obtain ⟨o1,o2,o3⟩:=ho hf;have e:due n j.q=[]:=by rw [o1];rfl
  exact ⟨by show left n j.q=[];rw [o1];rfl,o2,by show maxS j.done (due n j.q) = -1;rw [e];exact o3⟩
 ·have a:=hw w (mem_left hw');exact ⟨La hp hw',a.2⟩
theorem aep {β:Type} {q:List WT} (h:q.length<=1000) (hw:∀w∈q,w.2.2.2.2.2.length<=1500) {Q:β->Prop}:So (au (bn (fun (v28,v29) =>
 bif (decide (v28<(q.length:Int))) then
 bif (decide ((0<=v28)/\(v28<(q.length:Int)))) then
 ah q[v28.toNat]? fun x30 =>
 ah (eP (x30.2.1,(x30.2.2.1,(x30.2.2.2.1,(x30.2.2.2.2.1,x30.2.2.2.2.2))))) fun (x32,(x33,(x34,(x35,x36)))) =>
 bif (decide (v29.length<=v29.length)) then
 bif (decide (((List.length ((v29.take v29.length)++((x30.1,(x32,(x33,(x34,(x35,x36)))))::([]:List WT))))*56)<=140737488355328)) then
 ah (some ((v29.take v29.length)++((x30.1,(x32,(x33,(x34,(x35,x36)))))::([]:List WT)))) fun x37 =>
 bif (decide (x37.length<=x37.length)) then
 some (Sum.inl ((IntKind.wrap .i64 (v28+(1:Int))),(x37.take x37.length)))
 else none
 else none
 else none
 else none
 else
 aA (bif (decide (v29.length<=v29.length)) then
 some (Sum.inl (v29.take v29.length))
 else none)) ((0:Int),([]:List WT))) fun v39 =>
 bif (decide (v39.length<=v39.length)) then
 some (Sum.inl (v39.take v39.length))
 else (none:Option (List WT ⊕ β))) (Sm (fun v=>v=q) Q):=by
 refine So.join (P:=(· = q)) (So.loop (fun s=>∃k:Nat,s.1=(k:Int)/\k<=q.length/\s.2=q.take k) (fun s=>((q.length:Int)-s.1).toNat) (fun s hs => ?_) ⟨0,rfl,by omega,rfl⟩) fun v hv => ?_
 ·obtain ⟨i,v⟩:=s;obtain ⟨k,rfl,h2,rfl⟩:=hs;refine So.dec (fun hk=>So.pos (by omega) ?_) fun hk => .out (So.le (.inl ?_))
  ·have hk:k<q.length:=by omega
   refine So.is (iI hk) (So.is (KZ q[k].2 (by have:=hw _ (List.getElem_mem hk);omega)) (So.le (So.pos (by simp only [List.length_append,List.length_take,List.length_cons,List.length_nil];omega) (So.is rfl (So.le (.inl ⟨⟨k+1,?_,by omega,?_⟩,?_⟩))))))
   ·show IntKind.wrap .i64 ((k:Int)+1)=_;rw [aj (by omega)];omega
   ·simp only [List.take_length];rw [List.take_add_one,List.getElem?_eq_getElem hk];rfl
   ·show ((q.length:Int)-IntKind.wrap .i64 ((k:Int)+1)).toNat<_;rw [aj (by omega)];omega
  ·rw [List.take_length,List.take_of_length_le (by omega)]
 ·subst hv;exact So.le (.inl List.take_length)
theorem akc {j:Jt} (h:JV j) {n k t:Int} {mk:Bool} {ty:Int} {py:List Int} (hn:j.now<=n/\n<=1000000) (hk:0<=k/\k<=1000) (ht:0<=t/\t<=20000) (hy:py.length<=1500) :
 qX (j.t,(n,(k,(t,(mk,(ty,py))))))=some ((j.put n k t mk ty py).1.t,(due n j.q,((j.put n k t mk ty py).2,0))):=by
 have hR:=aat h hn;have hl:=h.len;have hd:=vI n j.q;have hl2:(left n j.q).length<=j.q.length:=by rw [<-xW,List.length_drop];omega
 have hpl:j.played<=190/\0<=j.played:=by obtain ⟨⟨_,_,_,_,_,_,_,_,h1,h2,h3,h4⟩,_⟩:=h;omega
 have hn0:0<=n:=by have:=h.1.2.1;omega
 unfold qX;refine So.eq (So.is (Ud h hn hk ht hy) (So.neg (by omega) ?_));refine So.join (P:=fun r=>r=((j.run n).t,due n j.q)) ?_ fun r hr => ?_
 ·refine So.join (aar (n:=n) (q:=j.q) (by omega) rfl) fun v hv=>So.join (P:=fun v=>v=((due n j.q).length:Int)) (So.dec (fun h => .inl (by show ((j.q.length:Nat):Int)=_;omega)) fun h => .inl (by omega)) fun v hv => ?_;subst hv;refine So.both (q:=0<=((due n j.q).length:Int)/\((due n j.q).length:Int)<=((Int.toNat ((due n j.q).length:Int):Nat):Int)) (show 0<=((due n j.q).length:Int)/\((due n j.q).length:Int)<=((j.q.length:Nat):Int) by omega) (by omega) ?_;have e1:List.take (Int.toNat ((due n j.q).length:Int)) j.q=due n j.q:=by rw [Int.toNat_natCast,Oj]
  have e2:List.drop (Int.toNat ((due n j.q).length:Int)) j.q=left n j.q:=by rw [Int.toNat_natCast,xW]
  refine So.is (congrArg some e1) (So.join (aep (by omega) fun w hw=>h.pay (sD hw)) fun v hv => ?_);subst hv;refine So.pos (show 0<=((due n j.q).length:Int)/\((due n j.q).length:Int)<=((j.q.length:Nat):Int) by omega) ?_;refine So.is (congrArg some e2) (So.join (aep (by omega) fun w hw=>h.pay (mem_left hw)) fun v hv => ?_);subst hv;have e3:IntKind.wrap .i64 (j.played+((due n j.q).length:Int))=j.played+((due n j.q).length:Int):=aj (by omega);refine So.join (P:=fun s=>s=({j with done:=maxS j.done (due n j.q),q:=left n j.q,played:=j.played+((due n j.q).length:Int)}:Jt).t) (So.le (So.loop (fun s=>∃k:Nat,k<=(due n j.q).length/\s=((k:Int),({j with done:=maxS j.done ((due n j.q).take k),q:=left n j.q,played:=j.played+((due n j.q).length:Int)}:Jt).t)) (fun s=>(((due n j.q).length:Int)-s.1).toNat) (fun s hs => ?_) ⟨0,by omega,?_⟩)) fun s hs => ?_
  ·obtain ⟨k,hk,rfl⟩:=hs;refine So.dec (p:=(k:Int)<(((due n j.q).length:Nat):Int)) (fun h1=>So.pos (p:=0<=(k:Int)/\(k:Int)<(((due n j.q).length:Nat):Int)) (by omega) ?_) fun h1 => .out (So.le (.inl ?_))
   ·have hk1:k<(due n j.q).length:=by omega
    refine So.is (iI hk1) (So.le (.inl ⟨⟨k+1,by omega,?_⟩,?_⟩))
    ·rw [List.take_add_one,List.getElem?_eq_getElem hk1];simp only [Option.toList_some,Di];show (IntKind.wrap .i64 ((k:Int)+1),_)=_;rw [aj (by omega)];simp only [Jt.t,List.take_length];rfl
    ·show (((due n j.q).length:Int)-IntKind.wrap .i64 ((k:Int)+1)).toNat<(((due n j.q).length:Int)-(k:Int)).toNat;rw [aj (by omega)];omega
   ·rw [List.take_of_length_le (l:=due n j.q) (by omega)];simp only [Jt.t,List.take_length]
  ·simp only [e3,List.take_length];rfl
  ·subst hs;refine So.both (Nat.le_refl _) (Nat.le_refl _) (.inl ?_);simp only [Jt.t,List.take_length];rfl
 ·subst hr;generalize hr:j.run n=r at hR;unfold Jt.put;simp only [hr];have hlr:r.q.length<=190:=hR.len;have hnv:=hR.1;obtain ⟨h1,h2,h3,h4,h5,h6,h7,h8,h9⟩:=hnv;refine So.join (P:=fun v=>(v>=0/\∃w∈r.q,w.2.1=k)\/(v<0/\¬ ∃w∈r.q,w.2.1=k)) (So.join (P:=fun _=>¬ ∃w∈r.q,w.2.1=k) (So.loop (fun v=>∃i:Nat,v=(i:Int)/\i<=r.q.length/\∀w∈r.q.take i,w.2.1≠k) (fun v=>((r.q.length:Int)-v).toNat) (fun v hv => ?_) ⟨0,rfl,by omega,fun w hw=>by simp at hw⟩) fun _ hx => .inl (.inr ⟨by omega,hx⟩)) fun v hv => ?_
  ·obtain ⟨i,rfl,hi,hno⟩:=hv;refine So.dec (p:=(i:Int)<((r.q.length:Nat):Int)) (fun hi2=>So.pos (p:=0<=(i:Int)/\(i:Int)<((r.q.length:Nat):Int)) (by omega) ?_) fun hi2 => .out (.inl ?_)
   ·have hi3:i<r.q.length:=by omega
    refine So.is (iI (l:=r.q) hi3) (So.dec (fun he => .out (.out (.mk (.inl ⟨by omega,_,List.getElem_mem hi3,he⟩)))) fun he => ?_);rw [aj (n:=(i:Int)+1) (by omega)];refine .inl ⟨⟨i+1,by omega,by omega,fun w hw => ?_⟩,by omega⟩;rw [List.take_add_one,List.getElem?_eq_getElem hi3] at hw;rcases List.mem_append.1 hw with hw | hw
    ·exact hno w hw
    ·rw [show w=r.q[i] by simpa using hw];exact he
   ·rw [List.take_of_length_le (by omega)] at hno;exact fun ⟨w,hw,he⟩=>hno w hw he
  ·have hX:=ahN (r:=r) hR.1 hR.2.2.1 (fun w hw=>by have:=hR.2.2.2.2 w hw;unfold WOk at this;omega) (mk:=mk) (ty:=ty) ⟨hn0,hn.2⟩ hk ht hy (due n j.q) (by omega);rcases hv with ⟨hv0,he⟩ | ⟨hv0,he⟩
   ·refine So.pos hv0 (So.both (Nat.le_refl _) (Nat.le_refl _) (.mk ?_));rw [if_pos he];simp only [Jt.t,List.take_length];rw [aj (n:=r.twice+1) (by omega)]
   ·refine So.neg (by omega) ?_;rw [if_neg he];refine So.if (fun hon => ?_) fun hoff => ?_
    ·have hon:r.on=true:=hon;refine So.dec (p:=k<=r.done) (fun hkd=>So.both (Nat.le_refl _) (Nat.le_refl _) (.mk ?_)) fun hkd => ?_
     ·rw [if_pos ⟨hon,hkd⟩];simp only [Jt.t,List.take_length];rw [aj (n:=r.late+1) (by omega)]
     ·rw [if_neg (by simp only [hon,true_and];exact hkd),if_neg (by omega)];exact ⟨_,hX,rfl⟩
    ·have hoff:r.on=false:=hoff;rw [if_neg (by simp [hoff]),if_neg (by omega)];exact ⟨_,hX,rfl⟩
def Jt.sum (j:Jt):Int:=j.late+j.twice+j.played+j.q.length
theorem adg (j:Jt) (n:Int):(j.run n).sum=j.sum:=by
 have hl:=congrArg List.length (jP n j.q);rw [List.length_append] at hl;show j.late+j.twice+(j.played+((due n j.q).length:Int))+((left n j.q).length:Int)=j.late+j.twice+j.played+(j.q.length:Int)
 omega
theorem G9 {w x:WT} {q:List WT}:x∈rC w q↔x=w\/x∈q:=by
 have e:=List.takeWhile_append_dropWhile (p:=aW w) (l:=q);unfold rC;generalize q.takeWhile (aW w)=a at e ⊢;generalize q.dropWhile (aW w)=b at e ⊢;subst e;simp only [List.mem_append,List.mem_cons];constructor
 ·rintro (h | h | h)
  ·exact .inr (.inl h)
  ·exact .inl h
  ·exact .inr (.inr h)
 ·rintro (h | h | h)
  ·exact .inr (.inl h)
  ·exact .inl h
  ·exact .inr (.inr h)
theorem aau {w:WT} {q:List WT}:(rC w q).length=q.length+1:=by
 have e:=congrArg List.length (List.takeWhile_append_dropWhile (p:=aW w) (l:=q));unfold rC;simp only [List.length_append,List.length_cons] at e ⊢;omega
theorem adh {n hi:Int} {q:List WT} (h:QV n hi q) {w:WT} (hw:WOk n hi w) (hno:∀x∈q,x.2.1≠w.2.1):QV n hi (rC w q):=by
 obtain ⟨hp,hd,hq⟩:=h;have e:=List.takeWhile_append_dropWhile (p:=aW w) (l:=q);have hb:∀x∈q.takeWhile (aW w),ER x w:=fun x hx=>by
  have:=List.all_takeWhile (p:=aW w) (l:=q);rw [List.all_eq_true] at this;have:=this x hx;exact vH.1 (by simpa [aW] using this)
 have ha:∀x∈q.dropWhile (aW w),ER w x:=by
  have hs:(q.dropWhile (aW w)).Pairwise ER:=hp.sublist (List.dropWhile_sublist _);have hm:∀x∈q.dropWhile (aW w),x∈q:=fun x hx=>(List.dropWhile_sublist _).subset hx;have h0:=List.head?_dropWhile_not (aW w) q;intro x hx;cases hc:q.dropWhile (aW w) with
  | nil=>rw [hc] at hx;cases hx
  | cons a r =>
    rw [hc] at hx hs h0;have ha:¬ER a w:=fun hl=>by
     have:=vH.2 hl;simp [aW] at h0;omega
    have hne:=hno a (hm a (by rw [hc];exact List.mem_cons_self ..));have ha:ER w a:=by unfold ER at ha ⊢;omega
    rcases List.mem_cons.1 hx with rfl | hx
    ·exact ha
    ·exact Dj ha ((List.pairwise_cons.1 hs).1 x hx)
 refine ⟨?_,?_,fun x hx => ?_⟩
 ·unfold rC;rw [List.pairwise_append];refine ⟨hp.sublist (List.takeWhile_sublist _),List.pairwise_cons.2 ⟨ha,hp.sublist (List.dropWhile_sublist _)⟩,fun x hx y hy => ?_⟩;rcases List.mem_cons.1 hy with rfl | hy
  ·exact hb x hx
  ·exact Dj (hb x hx) (ha y hy)
 ·have hpm:(rC w q).Perm (w::q):=by
   unfold rC;refine List.perm_middle.trans (List.Perm.cons _ ?_);rw [e]
  refine (hpm.map _).nodup_iff.2 ?_;rw [List.map_cons,List.nodup_cons];refine ⟨fun hm => ?_,hd⟩;obtain ⟨x,hx,he⟩:=List.mem_map.1 hm;exact hno x hx he
 ·rcases G9.1 hx with rfl | hx
  ·exact hw
  ·exact hq x hx
theorem QV.mono {n hi hi':Int} {q:List WT} (h:QV n hi q) (hh:hi<=hi'):QV n hi' q :=
 ⟨h.1,h.2.1,fun w hw=>by have:=h.2.2 w hw;unfold WOk at *;omega⟩
def aav (j:Jt) (n k t:Int) (mk:Bool) (ty:Int) (py:List Int) (r:Jt×Int):Prop :=
 JV r.1/\r.1.now=n/\r.1.done=maxS j.done (due n j.q)/\r.1.sum<=j.sum+1/\r.1.le=j.le/\r.1.mo=j.mo /\
 ((r.2=1/\n<r.1.at t/\maxS j.done (due n j.q)<k/\(∀w∈left n j.q,w.2.1≠k)/\r.1.q=rC (r.1.at t,(k,(t,(mk,(ty,py))))) (left n j.q)) \/
  (r.2≠1/\r.1.q=left n j.q/\¬(maxS j.done (due n j.q)<k/\(∀w∈left n j.q,w.2.1≠k)/\n<r.1.at t/\r.1.at t<=n+120000/\(left n j.q).length<200)))
theorem Ro {j:Jt} (h:JV j) {n k t:Int} {mk:Bool} {ty:Int} {py:List Int} (hn:j.now<=n/\n<=1000000) (hk:0<=k/\k<=1000) (ht:0<=t/\t<=20000) (hy:py.length<=1500) (hs:j.sum<=189):aav j n k t mk ty py (j.put n k t mk ty py):=by
 have hR:=aat h hn;have hS:=adg j n;obtain ⟨r,hr⟩:∃r,j.run n=r:=⟨_,rfl⟩
 have hq:left n j.q=r.q:=by rw [<-hr];rfl
 have hd:maxS j.done (due n j.q)=r.done:=by rw [<-hr];rfl
 have hnow:r.now=n:=by rw [<-hr];rfl
 have hle:j.le=r.le:=by rw [<-hr];rfl
 have hmo:j.mo=r.mo:=by rw [<-hr];rfl
 rw [hr] at hR hS;unfold aav Jt.put;rw [hr,hq,hd,hle,hmo,<-hS];have hS':r.sum<=189:=by omega
 clear hd hq hle hmo hS hs h hr;obtain ⟨⟨h1,h2,h3,h4,h5,h6,h7,h8,h9,h10,h11,h12⟩,ho,hqv⟩:=hR;have hnv:NV r:=⟨h1,h2,h3,h4,h5,h6,h7,h8,h9,h10,h11,h12⟩
 unfold Jt.sum at *
 by_cases c1:∃w∈r.q,w.2.1=k
 ·rw [if_pos c1];refine ⟨⟨⟨h1,h2,h3,h4,h5,h6,h7,h8,h9,by simp only;omega,h11,by simp only;omega⟩,ho,hqv⟩,hnow,rfl,by simp only;omega,rfl,rfl,.inr ⟨by simp,rfl,fun hx => ?_⟩⟩;obtain ⟨w,hw,he⟩:=c1;exact hx.2.1 w hw he
 ·rw [if_neg c1];have hno:∀w∈r.q,w.2.1≠k:=fun w hw he=>c1 ⟨w,hw,he⟩;by_cases c2:r.on=true/\k<=r.done
  ·rw [if_pos c2];refine ⟨⟨⟨h1,h2,h3,h4,h5,h6,h7,h8,by simp only;omega,h10,h11,by simp only;omega⟩,ho,hqv⟩,hnow,rfl,by simp only;omega,rfl,rfl,.inr ⟨by simp,rfl,fun hx => ?_⟩⟩;have:=hx.1;omega
  ·rw [if_neg c2];have hkd:r.done<k:=by
    cases hon:r.on with
    | true=>exact Int.not_le.1 fun hx=>c2 ⟨hon,hx⟩
    | false=>have:=(ho hon).2.2;omega
   by_cases c3:200<=r.q.length
   ·omega
   ·rw [if_neg c3];have hw3:∀w∈r.q,0<=w.1/\w.1<=3000000:=fun w hw=>by have:=hqv.2.2 w hw;unfold WOk at this;omega
    have hM:=Ug hnv hw3 hk ht mk;obtain ⟨m1,m2,m3,m4,m5,m6,m7,m8,m9,m10⟩:=G8 (r:=r) (k:=k) (t:=t) (mk:=mk);generalize r.meas k t mk=m at *
    have hmx:=zC (a:=r.high) (b:=k);have hQ:QV m.now m.high m.q:=by rw [m4,m1,m3];exact hqv.mono (by omega)
    obtain ⟨g1,g2,g3,g4,g5,g6,g7,g8,g9,g10,g11,g12⟩:=hM;have hMN:NV m:=⟨g1,g2,g3,g4,g5,g6,g7,g8,g9,g10,g11,g12⟩
    have hml:m.q.length=r.q.length:=by rw [m1]
    unfold Jt.take;by_cases c4:m.at t<=n
    ·rw [if_pos c4];refine ⟨⟨⟨g1,g2,g3,g4,g5,g6,g7,g8,by simp only;omega,g10,g11,by simp only;omega⟩,fun hf => ?_,hQ⟩,m4.trans hnow,m8,by simp only;omega,m6,m7,.inr ⟨by simp,m1,fun hx => ?_⟩⟩
     ·simp only [m2] at hf;cases hf
     ·have:m.at t > n:=hx.2.2.1;omega
    ·rw [if_neg c4];by_cases c5:m.at t > n+120000
     ·rw [if_pos c5];refine ⟨⟨hMN,fun hf => ?_,hQ⟩,m4.trans hnow,m8,by simp only;omega,m6,m7,.inr ⟨by simp,m1,fun hx => ?_⟩⟩
      ·simp only [m2] at hf;cases hf
      ·have:m.at t<=n+120000:=hx.2.2.2.1;omega
     ·rw [if_neg c5];have hil:=aau (w:=((m.at t,(k,(t,(mk,(ty,py))))):WT)) (q:=m.q);refine ⟨⟨⟨g1,g2,g3,g4,g5,g6,g7,g8,g9,g10,g11,?_⟩,fun hf => ?_,?_⟩,m4.trans hnow,m8,?_,m6,m7,.inl ⟨rfl,?_,hkd,hno,?_⟩⟩
      ·simp only [hil];omega
      ·simp only [m2] at hf;cases hf
      ·refine adh hQ ⟨?_,?_,?_,?_,?_,?_,?_⟩ (by rw [m1];exact hno)
       all_goals simp only;omega
      ·simp only [hil];omega
      ·show n<m.at t;omega
      ·show rC _ m.q=rC _ r.q;rw [m1];rfl
set_option maxRecDepth 1000000
set_option maxHeartbeats 0
def ahP:List (Nat×PL):=[]
noncomputable def aZ:Int->Option Bool:=fun a1 =>
 bif (decide (0=a1)) then
 some true
 else
 bif (decide (8=a1)) then
 some true
 else
 bif (decide (96=a1)) then
 some true
 else
 some false
noncomputable def ahQ:List (Nat×CE):=[]
theorem WZ:cu Tryz.prog ahQ:=trivial
noncomputable def Ol:CE:=⟨[(.tmp 0 false [fB])],[(.tmp 0 false [dO])],aZ⟩
theorem He:aB Tryz.prog 26 Ol :=nK ahP dD WZ Tryz.func26
def adi:List (Nat×PL):=[]
noncomputable def bH:(Int×(LN×Int))->Option (LN×Int):=fun (a1,(a2,a3)) =>
 bif (decide (a1=13)) then
 bif (decide ((a2.length:Int)≠1)) then
 some (([]:List Int),a3)
 else
 bif (decide (((0:Int)<=0)/\(0<(a2.length:Int)))) then
 ah a2[0]? fun x4 =>
 ah (pX (x4,(a3,(160:Int)))) fun (x6,(x7,x8)) =>
 bif (decide (x8≠0)) then
 some (([]:List Int),a3)
 else
 some (x6,x7)
 else none
 else
 bif (decide (0=a1)) then
 ah (um a2) fun (x10,x11) =>
 bif (decide (x11≠0)) then
 some (([]:List Int),a3)
 else
 some (x10,a3)
 else
 bif (decide (8=a1)) then
 ah (CZ a2) fun (x13,x14) =>
 bif (decide (x14≠0)) then
 some (([]:List Int),a3)
 else
 some (x13,a3)
 else
 bif (decide (96=a1)) then
 ah (fC (a2,(160:Int))) fun (x16,((x17,x18),x19)) =>
 bif (decide (x19≠0)) then
 some (([]:List Int),a3)
 else
 some (x16,a3)
 else
 some (([]:List Int),a3)
noncomputable def adk:List (Nat×CE):=[(3000000054,qR),(4000000054,uo),(55,acu),(123,aad),(26,Ol)]
theorem Rq:cu Tryz.prog adk:=⟨rZ,vw,ZK,aae,He,trivial⟩
noncomputable def aaw:CE:=⟨[(.tmp 0 false [fB]),(.tmp 1 false [dY]),(.tmp 2 false [(.dat (.int .u32))])],[(.tmp 0 false [(.dat (.list (.int .i16)))]),(.tmp 1 false [(.dat (.int .u32))])],bH⟩
theorem aax:aB Tryz.prog 106 aaw :=nK adi dD Rq Tryz.func106
def ahR:List (Nat×PL):=[]
noncomputable def bT:(Int×(Int×(LN×(Int×Int))))->Option (LN×((Int×Int)×Int)):=fun (a1,(a2,(a3,(a4,a5)))) =>
 bif (decide (0=a1)) then
 bif (decide (0=a2)) then
 bif (decide (a1=96)) then
 bif (decide ((a3.length:Int)<4)) then
 some (([]:List Int),(((0:Int),(0:Int)),(6:Int)))
 else
 ah (um a3) fun (x9,x10) =>
 bif (decide (x10≠0)) then
 some (([]:List Int),(((0:Int),(0:Int)),x10))
 else
 ah (oq x9) fun (x12,x13) =>
 bif (decide (x13≠0)) then
 some (([]:List Int),(((0:Int),(0:Int)),x13))
 else
 some (x12,((a4,a5),(0:Int)))
 else
 ah (um a3) fun (x17,x18) =>
 bif (decide (x18≠0)) then
 some (([]:List Int),(((0:Int),(0:Int)),x18))
 else
 ah (oq x17) fun (x20,x21) =>
 bif (decide (x21≠0)) then
 some (([]:List Int),(((0:Int),(0:Int)),x21))
 else
 some (x20,((a4,a5),(0:Int)))
 else
 bif (decide (8=a2)) then
 bif (decide (a1=96)) then
 bif (decide ((a3.length:Int)<4)) then
 some (([]:List Int),(((0:Int),(0:Int)),(6:Int)))
 else
 ah (um a3) fun (x25,x26) =>
 bif (decide (x26≠0)) then
 some (([]:List Int),(((0:Int),(0:Int)),x26))
 else
 ah (uj x25) fun (x28,x29) =>
 bif (decide (x29≠0)) then
 some (([]:List Int),(((0:Int),(0:Int)),x29))
 else
 some (x28,((a4,a5),(0:Int)))
 else
 ah (um a3) fun (x33,x34) =>
 bif (decide (x34≠0)) then
 some (([]:List Int),(((0:Int),(0:Int)),x34))
 else
 ah (uj x33) fun (x36,x37) =>
 bif (decide (x37≠0)) then
 some (([]:List Int),(((0:Int),(0:Int)),x37))
 else
 some (x36,((a4,a5),(0:Int)))
 else
 bif (decide (96=a2)) then
 bif (decide (a1=96)) then
 bif (decide ((a3.length:Int)<4)) then
 some (([]:List Int),(((0:Int),(0:Int)),(6:Int)))
 else
 ah (um a3) fun (x41,x42) =>
 bif (decide (x42≠0)) then
 some (([]:List Int),(((0:Int),(0:Int)),x42))
 else
 ah (iC ((a4,a5),x41)) fun (x44,((x45,x46),x47)) =>
 bif (decide (x47≠0)) then
 some (([]:List Int),(((0:Int),(0:Int)),x47))
 else
 some (x44,((x45,x46),(0:Int)))
 else
 ah (um a3) fun (x51,x52) =>
 bif (decide (x52≠0)) then
 some (([]:List Int),(((0:Int),(0:Int)),x52))
 else
 ah (iC ((a4,a5),x51)) fun (x54,((x55,x56),x57)) =>
 bif (decide (x57≠0)) then
 some (([]:List Int),(((0:Int),(0:Int)),x57))
 else
 some (x54,((x55,x56),(0:Int)))
 else
 some (([]:List Int),(((0:Int),(0:Int)),(15:Int)))
 else
 bif (decide (8=a1)) then
 bif (decide (0=a2)) then
 bif (decide (a1=96)) then
 bif (decide ((a3.length:Int)<4)) then
 some (([]:List Int),(((0:Int),(0:Int)),(6:Int)))
 else
 ah (CZ a3) fun (x61,x62) =>
 bif (decide (x62≠0)) then
 some (([]:List Int),(((0:Int),(0:Int)),x62))
 else
 ah (oq x61) fun (x64,x65) =>
 bif (decide (x65≠0)) then
 some (([]:List Int),(((0:Int),(0:Int)),x65))
 else
 some (x64,((a4,a5),(0:Int)))
 else
 ah (CZ a3) fun (x69,x70) =>
 bif (decide (x70≠0)) then
 some (([]:List Int),(((0:Int),(0:Int)),x70))
 else
 ah (oq x69) fun (x72,x73) =>
 bif (decide (x73≠0)) then
 some (([]:List Int),(((0:Int),(0:Int)),x73))
 else
 some (x72,((a4,a5),(0:Int)))
 else
 bif (decide (8=a2)) then
 bif (decide (a1=96)) then
 bif (decide ((a3.length:Int)<4)) then
 some (([]:List Int),(((0:Int),(0:Int)),(6:Int)))
 else
 ah (CZ a3) fun (x77,x78) =>
 bif (decide (x78≠0)) then
 some (([]:List Int),(((0:Int),(0:Int)),x78))
 else
 ah (uj x77) fun (x80,x81) =>
 bif (decide (x81≠0)) then
 some (([]:List Int),(((0:Int),(0:Int)),x81))
 else
 some (x80,((a4,a5),(0:Int)))
 else
 ah (CZ a3) fun (x85,x86) =>
 bif (decide (x86≠0)) then
 some (([]:List Int),(((0:Int),(0:Int)),x86))
 else
 ah (uj x85) fun (x88,x89) =>
 bif (decide (x89≠0)) then
 some (([]:List Int),(((0:Int),(0:Int)),x89))
 else
 some (x88,((a4,a5),(0:Int)))
 else
 bif (decide (96=a2)) then
 bif (decide (a1=96)) then
 bif (decide ((a3.length:Int)<4)) then
 some (([]:List Int),(((0:Int),(0:Int)),(6:Int)))
 else
 ah (CZ a3) fun (x93,x94) =>
 bif (decide (x94≠0)) then
 some (([]:List Int),(((0:Int),(0:Int)),x94))
 else
 ah (iC ((a4,a5),x93)) fun (x96,((x97,x98),x99)) =>
 bif (decide (x99≠0)) then
 some (([]:List Int),(((0:Int),(0:Int)),x99))
 else
 some (x96,((x97,x98),(0:Int)))
 else
 ah (CZ a3) fun (x103,x104) =>
 bif (decide (x104≠0)) then
 some (([]:List Int),(((0:Int),(0:Int)),x104))
 else
 ah (iC ((a4,a5),x103)) fun (x106,((x107,x108),x109)) =>
 bif (decide (x109≠0)) then
 some (([]:List Int),(((0:Int),(0:Int)),x109))
 else
 some (x106,((x107,x108),(0:Int)))
 else
 some (([]:List Int),(((0:Int),(0:Int)),(15:Int)))
 else
 bif (decide (96=a1)) then
 bif (decide (0=a2)) then
 bif (decide (a1=96)) then
 bif (decide ((a3.length:Int)<4)) then
 some (([]:List Int),(((0:Int),(0:Int)),(6:Int)))
 else
 ah (fC (a3,(IntKind.wrap .i64 ((2:Int)*(IntKind.wrap .i64 ((a3.length:Int)-(4:Int))))))) fun (x113,((x114,x115),x116)) =>
 bif (decide (x116≠0)) then
 some (([]:List Int),(((0:Int),(0:Int)),x116))
 else
 ah (oq x113) fun (x118,x119) =>
 bif (decide (x119≠0)) then
 some (([]:List Int),(((0:Int),(0:Int)),x119))
 else
 some (x118,((a4,a5),(0:Int)))
 else
 ah (fC (a3,(IntKind.wrap .i64 ((2:Int)*(IntKind.wrap .i64 ((a3.length:Int)-(4:Int))))))) fun (x123,((x124,x125),x126)) =>
 bif (decide (x126≠0)) then
 some (([]:List Int),(((0:Int),(0:Int)),x126))
 else
 ah (oq x123) fun (x128,x129) =>
 bif (decide (x129≠0)) then
 some (([]:List Int),(((0:Int),(0:Int)),x129))
 else
 some (x128,((a4,a5),(0:Int)))
 else
 bif (decide (8=a2)) then
 bif (decide (a1=96)) then
 bif (decide ((a3.length:Int)<4)) then
 some (([]:List Int),(((0:Int),(0:Int)),(6:Int)))
 else
 ah (fC (a3,(IntKind.wrap .i64 ((2:Int)*(IntKind.wrap .i64 ((a3.length:Int)-(4:Int))))))) fun (x133,((x134,x135),x136)) =>
 bif (decide (x136≠0)) then
 some (([]:List Int),(((0:Int),(0:Int)),x136))
 else
 ah (uj x133) fun (x138,x139) =>
 bif (decide (x139≠0)) then
 some (([]:List Int),(((0:Int),(0:Int)),x139))
 else
 some (x138,((a4,a5),(0:Int)))
 else
 ah (fC (a3,(IntKind.wrap .i64 ((2:Int)*(IntKind.wrap .i64 ((a3.length:Int)-(4:Int))))))) fun (x143,((x144,x145),x146)) =>
 bif (decide (x146≠0)) then
 some (([]:List Int),(((0:Int),(0:Int)),x146))
 else
 ah (uj x143) fun (x148,x149) =>
 bif (decide (x149≠0)) then
 some (([]:List Int),(((0:Int),(0:Int)),x149))
 else
 some (x148,((a4,a5),(0:Int)))
 else
 bif (decide (96=a2)) then
 bif (decide (a1=96)) then
 bif (decide ((a3.length:Int)<4)) then
 some (([]:List Int),(((0:Int),(0:Int)),(6:Int)))
 else
 ah (fC (a3,(IntKind.wrap .i64 ((2:Int)*(IntKind.wrap .i64 ((a3.length:Int)-(4:Int))))))) fun (x153,((x154,x155),x156)) =>
 bif (decide (x156≠0)) then
 some (([]:List Int),(((0:Int),(0:Int)),x156))
 else
 ah (iC ((a4,a5),x153)) fun (x158,((x159,x160),x161)) =>
 bif (decide (x161≠0)) then
 some (([]:List Int),(((0:Int),(0:Int)),x161))
 else
 some (x158,((x159,x160),(0:Int)))
 else
 ah (fC (a3,(IntKind.wrap .i64 ((2:Int)*(IntKind.wrap .i64 ((a3.length:Int)-(4:Int))))))) fun (x165,((x166,x167),x168)) =>
 bif (decide (x168≠0)) then
 some (([]:List Int),(((0:Int),(0:Int)),x168))
 else
 ah (iC ((a4,a5),x165)) fun (x170,((x171,x172),x173)) =>
 bif (decide (x173≠0)) then
 some (([]:List Int),(((0:Int),(0:Int)),x173))
 else
 some (x170,((x171,x172),(0:Int)))
 else
 some (([]:List Int),(((0:Int),(0:Int)),(15:Int)))
 else
 bif (decide (0=a2)) then
 some (([]:List Int),(((0:Int),(0:Int)),(15:Int)))
 else
 bif (decide (8=a2)) then
 some (([]:List Int),(((0:Int),(0:Int)),(15:Int)))
 else
 bif (decide (96=a2)) then
 some (([]:List Int),(((0:Int),(0:Int)),(15:Int)))
 else
 some (([]:List Int),(((0:Int),(0:Int)),(15:Int)))
noncomputable def ahS:List (Nat×CE):=[(3000000052,o9),(4000000052,qQ),(3000000054,qR),(4000000054,uo),(53,ZJ),(55,acu),(106,aaw)]
theorem W9:cu Tryz.prog ahS:=⟨pW,rY,rZ,vw,TM,ZK,aax,trivial⟩
noncomputable def ahT:CE:=⟨[(.tmp 0 false [fB]),(.tmp 1 false [fB]),(.tmp 2 false [dY]),(.tmp 3 true [dI,dI])],[(.tmp 0 false [dY]),(.tmp 1 true [dI,dI]),(.tmp 2 false [fB])],bT⟩
theorem aer:aB Tryz.prog 19 ahT :=nK ahR dD W9 Tryz.func19
def ahU:List (Nat×PL):=[(68853694481,(.carry [.tmp 0 false [dO]])),(18049582886027777,(.carry [])),(68853956626,(.carry [.tmp 0 true [(.ki .i64 (1)),(.ki .i64 (1)),(.ki .i64 (0)),(.kb false),(.ki .i64 (0)),(.ki .i64 (0)),(.ki .i64 (-1)),(.ki .i64 (-1)),(.ki .i64 (0)),(.ki .i64 (0)),.nil,(.ki .i64 (0)),(.ki .i64 (0)),(.ki .i64 (0))]])),(9241421622152528385,(.carry [])),(1240362613615386829156255750,(.carry []))]
noncomputable def pq:((Int×(Int×(Int×(Bool×(Int×(Int×(Int×(Int×Int))))))))×LN)->Option ((Int×(Int×(Int×(Bool×(Int×(Int×(Int×(Int×Int))))))))×((List (Bool×(Int×(Int×(Int×(Int×(LN×(Bool×(Int×(LN×(LN×Int)))))))))))×Int)):=fun ((a1,(a2,(a3,(a4,(a5,(a6,(a7,(a8,a9)))))))),a10) =>
 au (au (ah (aZ a1) fun x11 =>
 bif (!x11) then
 aA (some (Sum.inl false))
 else
 ah (kR (a6,a7)) fun x12 =>
 bif (!x12) then
 aA (some (Sum.inl false))
 else
 ah (iJ ((1:Int),((1:Int),((0:Int),(false,((0:Int),((0:Int),((-1:Int),((-1:Int),((0:Int),((0:Int),(([]:List (Int×(Int×(Int×(Bool×(Int×LN)))))),((0:Int),((0:Int),(0:Int))))))))))))))) fun x13 =>
 bif (!x13) then
 aA (some (Sum.inl false))
 else
 some (Sum.inl ())) fun _ =>
 ah (nG (false,((0:Int),((0:Int),((0:Int),((0:Int),(0:Int))))))) fun ((x15,(x16,(x17,(x18,(x19,x20))))),x21) =>
 bif (decide (x21=2)) then
 some (Sum.inl false)
 else
 some (Sum.inl true)) fun v22 =>
 bif (!v22) then
 none
 else
 bif (decide ((a10.length:Int)≠160)) then
 none
 else
 au (au (bn (fun _ =>
 aA (some (Sum.inl ()))) ()) fun _ =>
 some (Sum.inl ())) fun _ =>
 ah (nD (a5,a10)) fun (x24,x25) =>
 bif x25 then
 bif (decide (a5<10)) then
 ah (nC a10) fun x26 =>
 ah (some ((false,((13:Int),(a2,(a3,((7:Int),(([]:List Int),(false,((0:Int),(([]:List Int),((x26::([]:List Int)),(0:Int)))))))))))::([]:List (Bool×(Int×(Int×(Int×(Int×(LN×(Bool×(Int×(LN×(LN×Int))))))))))))) fun x27 =>
 bif (decide (x27.length<=x27.length)) then
 some ((a1,((IntKind.wrap .u16 (a2+(1:Int))),((IntKind.wrap .u32 (a3+(160:Int))),(true,(x24,(a6,(a7,((IntKind.wrap .u32 (a8+(1:Int))),(IntKind.wrap .u32 (a9+(1:Int))))))))))),((x27.take x27.length),(0:Int)))
 else none
 else
 some ((a1,(a2,((IntKind.wrap .u32 (a3+(160:Int))),(true,(x24,(a6,(a7,(a8,a9)))))))),(([]:List (Bool×(Int×(Int×(Int×(Int×(LN×(Bool×(Int×(LN×(LN×Int))))))))))),(0:Int)))
 else
 bif (decide (0=a1)) then
 ah (oq a10) fun (x35,x36) =>
 bif (decide (x36≠0)) then
 none
 else
 ah (some ((a4,(a1,(a2,(a3,((7:Int),(([]:List Int),(false,((0:Int),(([]:List Int),(x35,(0:Int)))))))))))::([]:List (Bool×(Int×(Int×(Int×(Int×(LN×(Bool×(Int×(LN×(LN×Int))))))))))))) fun x37 =>
 bif (decide (x37.length<=x37.length)) then
 some ((a1,((IntKind.wrap .u16 (a2+(1:Int))),((IntKind.wrap .u32 (a3+(160:Int))),(false,(x24,(a6,(a7,((IntKind.wrap .u32 (a8+(1:Int))),(IntKind.wrap .u32 (a9+(IntKind.wrap .u32 (x35.length:Int)))))))))))),((x37.take x37.length),(0:Int)))
 else none
 else
 bif (decide (8=a1)) then
 ah (uj a10) fun (x44,x45) =>
 bif (decide (x45≠0)) then
 none
 else
 ah (some ((a4,(a1,(a2,(a3,((7:Int),(([]:List Int),(false,((0:Int),(([]:List Int),(x44,(0:Int)))))))))))::([]:List (Bool×(Int×(Int×(Int×(Int×(LN×(Bool×(Int×(LN×(LN×Int))))))))))))) fun x46 =>
 bif (decide (x46.length<=x46.length)) then
 some ((a1,((IntKind.wrap .u16 (a2+(1:Int))),((IntKind.wrap .u32 (a3+(160:Int))),(false,(x24,(a6,(a7,((IntKind.wrap .u32 (a8+(1:Int))),(IntKind.wrap .u32 (a9+(IntKind.wrap .u32 (x44.length:Int)))))))))))),((x46.take x46.length),(0:Int)))
 else none
 else
 bif (decide (96=a1)) then
 ah (iC ((a6,a7),a10)) fun (x53,((x54,x55),x56)) =>
 bif (decide (x56≠0)) then
 none
 else
 ah (some ((a4,(a1,(a2,(a3,((7:Int),(([]:List Int),(false,((0:Int),(([]:List Int),(x53,(0:Int)))))))))))::([]:List (Bool×(Int×(Int×(Int×(Int×(LN×(Bool×(Int×(LN×(LN×Int))))))))))))) fun x57 =>
 bif (decide (x57.length<=x57.length)) then
 some ((a1,((IntKind.wrap .u16 (a2+(1:Int))),((IntKind.wrap .u32 (a3+(160:Int))),(false,(x24,(x54,(x55,((IntKind.wrap .u32 (a8+(1:Int))),(IntKind.wrap .u32 (a9+(IntKind.wrap .u32 (x53.length:Int)))))))))))),((x57.take x57.length),(0:Int)))
 else none
 else
 none
noncomputable def ahV:List (Nat×CE):=[(3000000052,o9),(4000000052,qQ),(78,ZH),(53,ZJ),(50,agS),(47,agV),(79,ac5),(76,ZN),(26,Ol),(19,ahT)]
theorem Xa:cu Tryz.prog ahV:=⟨pW,rY,TL,TM,aeb,aec,aaf,N8,He,aer,trivial⟩
noncomputable def ahW:CE:=⟨[.tmp 0 true Zv,.tmp 1 false [.dat (.list (.int .i16))]],[.tmp 0 true Zv,.tmp 1 false [.dat (.list UPk)],.tmp 2 false [.dat aX]],pq⟩
theorem aes:aB Tryz.prog 18 ahW :=
 dF (bV (plan:=fA ahU) (eg:=dD) KK dM (bM Xa) Tryz.func18 (by kernel_rfl) (by kernel_rfl) 10000 (fun a r h=>Eq.trans (show _=pq a from by kernel_rfl) h)) (by rfl)
def ahX:List (Nat×PL):=[(68853694481,(.carry [.tmp 0 false [dO]])),(18049582886027777,(.carry []))]
noncomputable def iP:((Int×(Int×(Int×(Int×(Bool×(Int×(Int×(Int×(Int×(Int×(Int×((List (Int×(Int×(Int×(Bool×(Int×LN))))))×(Int×(Int×(Int×(Bool×(Int×(Int×(Int×(Bool×(Int×(Int×(Int×(Int×(Int×(Int×(Int×Int)))))))))))))))))))))))))))×Int)->Option Int:=fun ((a1,(a2,(a3,(a4,(a5,(a6,(a7,(a8,(a9,(a10,(a11,(a12,(a13,(a14,(a15,(a16,(a17,(a18,(a19,(a20,(a21,(a22,(a23,(a24,(a25,(a26,(a27,a28))))))))))))))))))))))))))),a29) =>
 au (au (ah (aZ a1) fun x30 =>
 bif (!x30) then
 aA (some (Sum.inl false))
 else
 ah (kR ((0:Int),(0:Int))) fun x31 =>
 bif (!x31) then
 aA (some (Sum.inl false))
 else
 ah (iJ (a2,(a3,(a4,(a5,(a6,(a7,(a8,(a9,(a10,(a11,(a12,(a13,(a14,a15)))))))))))))) fun x32 =>
 bif (!x32) then
 aA (some (Sum.inl false))
 else
 some (Sum.inl ())) fun _ =>
 ah (nG (false,((0:Int),((0:Int),((0:Int),((0:Int),(0:Int))))))) fun ((x34,(x35,(x36,(x37,(x38,x39))))),x40) =>
 bif (decide (x40=2)) then
 some (Sum.inl false)
 else
 bif (decide (a17>=0)) then
 bif (decide (a17<=140737488355328)) then
 bif (decide (a18>=(-1:Int))) then
 bif (decide (a18<=65535)) then
 bif (decide (a19>=(-140737488355328:Int))) then
 some (Sum.inl (decide (a19<=140737488355328)))
 else
 some (Sum.inl false)
 else
 some (Sum.inl false)
 else
 some (Sum.inl false)
 else
 some (Sum.inl false)
 else
 some (Sum.inl false)) fun v41 =>
 bif (!v41) then
 some (2:Int)
 else
 bif (decide (a29 > 281474976710656)) then
 some (2:Int)
 else
 bif (decide (a29<a4)) then
 some (9:Int)
 else
 some (0:Int)
noncomputable def ahY:List (Nat×CE):=[(78,ZH),(79,ac5),(76,ZN),(26,Ol),(18,ahW)]
theorem Xb:cu Tryz.prog ahY:=⟨TL,aaf,N8,He,aes,trivial⟩
noncomputable def adl:CE:=⟨[.tmp 0 true TK,.tmp 1 false [.dat ak]],[.tmp 0 false [.dat aX]],iP⟩
theorem aay:aB Tryz.prog 58 adl :=
 dF (bV (plan:=fA ahX) (eg:=dD) KK dM (bM Xb) Tryz.func58 (by kernel_rfl) (by kernel_rfl) 10000 (fun a r h=>Eq.trans (show _=iP a from by kernel_rfl) h)) (by rfl)
def ahZ:List (Nat×PL):=[(68853957121,(.carry [.mix 3 [(.own 10000002 160 (.pair ak (.pair (.list (.int .i16)) (.list (.pair aX (.pair .bool (.pair (.int .u32) ak)))))))],.mix 0 [fB,(.ki .u32 (8)),(.ki .u16 (0)),(.ki .u32 (0)),(.kb true),(.ki .i64 (0)),(.ki .i64 (0)),(.ki .i64 (0)),(.kb false),(.ki .u8 (0)),(.ki .u8 (0)),(.ki .u32 (0)),(.ki .i64 (0)),(.ki .i64 (0)),dI,dI,dI,dO,dI,dI,dI,dI,dI,dI,(.dat (.list (.pair ak (.pair ak (.pair ak (.pair .bool (.pair aX (.list aX)))))))),dI,dI,dI,dO,dI,dI,dI,dO,dI,dI,dI,dI,dI,dI,dI,(.kb false),(.ki .u32 (0)),(.ki .u8 (0)),(.ki .i64 (0)),(.kb false),(.dat (.int .u32)),(.ki .u32 (0)),(.ki .u32 (0))]])),(9241421688456087558,(.carry [.tmp 15 false [dI],.mix 3 [(.own 10000001 160 (.pair ak (.pair (.list (.int .i16)) (.list (.pair aX (.pair .bool (.pair (.int .u32) ak)))))))],.mix 0 [fB,(.ki .u32 (8)),(.ki .u16 (0)),(.ki .u32 (0)),(.kb true),(.ki .i64 (0)),(.ki .i64 (0)),(.ki .i64 (0)),(.kb false),(.ki .u8 (0)),(.ki .u8 (0)),(.ki .u32 (0)),(.ki .i64 (0)),(.ki .i64 (0)),dI,dI,dI,dO,dI,dI,dI,dI,dI,dI,(.dat (.list (.pair ak (.pair ak (.pair ak (.pair .bool (.pair aX (.list aX)))))))),dI,dI,dI,dO,dI,dI,dI,dO,dI,dI,dI,dI,dI,dI,dI,(.kb false),(.ki .u32 (0)),(.ki .u8 (0)),(.ki .i64 (0)),(.kb false),(.dat (.int .u32)),(.ki .u32 (0)),(.ki .u32 (0))]]))]
noncomputable def iL:((Int×(Int×(Int×(Int×(Bool×(Int×(Int×(Int×(Int×(Int×(Int×((List (Int×(Int×(Int×(Bool×(Int×LN))))))×(Int×(Int×(Int×(Bool×(Int×(Int×(Int×(Bool×(Int×(Int×(Int×(Int×(Int×(Int×(Int×Int)))))))))))))))))))))))))))×(List (Int×(Int×(Int×(Bool×(Int×LN)))))))->Option ((Int×(Int×(Int×(Int×(Bool×(Int×(Int×(Int×(Int×(Int×(Int×((List (Int×(Int×(Int×(Bool×(Int×LN))))))×(Int×(Int×(Int×(Bool×(Int×(Int×(Int×(Bool×(Int×(Int×(Int×(Int×(Int×(Int×(Int×Int)))))))))))))))))))))))))))×(List (Int×(LN×(List (Int×(Bool×(Int×Int)))))))):=fun ((a1,(a2,(a3,(a4,(a5,(a6,(a7,(a8,(a9,(a10,(a11,(a12,(a13,(a14,(a15,(a16,(a17,(a18,(a19,(a20,(a21,(a22,(a23,(a24,(a25,(a26,(a27,a28))))))))))))))))))))))))))),a29) =>
 au (bn (fun (v30,(v31,(v32,(v33,(v34,(v35,(v36,(v37,(v38,(v39,(v40,(v41,(v42,(v43,(v44,(v45,(v46,(v47,(v48,(v49,(v50,(v51,(v52,(v53,(v54,(v55,(v56,(v57,(v58,v59))))))))))))))))))))))))))))) =>
 bif (decide (v30<(a29.length:Int))) then
 bif (decide ((0<=v30)/\(v30<(a29.length:Int)))) then
 ah a29[v30.toNat]? fun x60 =>
 ah (bH (x60.2.2.2.2.1,(x60.2.2.2.2.2,v59))) fun (x62,x63) =>
 bif (decide (v31.length<=v31.length)) then
 bif (decide (((List.length ((v31.take v31.length)++((x60.1,(x62,([]:List (Int×(Bool×(Int×Int))))))::([]:List (Int×(LN×(List (Int×(Bool×(Int×Int))))))))))*56)<=140737488355328)) then
 ah (some ((v31.take v31.length)++((x60.1,(x62,([]:List (Int×(Bool×(Int×Int))))))::([]:List (Int×(LN×(List (Int×(Bool×(Int×Int)))))))))) fun x64 =>
 bif (decide (x64.length<=x64.length)) then
 some (Sum.inl ((IntKind.wrap .i64 (v30+(1:Int))),((x64.take x64.length),(v32,(v33,(v34,(v35,(v36,(v37,(v38,(v39,(v40,(v41,(v42,(v43,(v44,(v45,(v46,(v47,(v48,(v49,(v50,(v51,(v52,(v53,(v54,(v55,(v56,(v57,(v58,x63))))))))))))))))))))))))))))))
 else none
 else none
 else none
 else none
 else
 aA (bif (decide (v31.length<=v31.length)) then
 some (Sum.inl ((v31.take v31.length),(v32,(v33,(v34,(v35,(v36,(v37,(v38,(v39,(v40,(v41,(v42,(v43,(v44,(v45,(v46,(v47,(v48,(v49,(v50,(v51,(v52,(v53,(v54,(v55,(v56,(v57,(v58,v59)))))))))))))))))))))))))))))
 else none)) ((0:Int),(([]:List (Int×(LN×(List (Int×(Bool×(Int×Int))))))),(a1,(a2,(a3,(a4,(a5,(a6,(a7,(a8,(a9,(a10,(a11,(a12,(a13,(a14,(a15,(a16,(a17,(a18,(a19,(a20,(a21,(a22,(a23,(a24,(a25,(a26,(a27,a28)))))))))))))))))))))))))))))) fun (v66,(v67,(v68,(v69,(v70,(v71,(v72,(v73,(v74,(v75,(v76,(v77,(v78,(v79,(v80,(v81,(v82,(v83,(v84,(v85,(v86,(v87,(v88,(v89,(v90,(v91,(v92,(v93,v94)))))))))))))))))))))))))))) =>
 bif (decide (v66.length<=v66.length)) then
 some ((v67,(v68,(v69,(v70,(v71,(v72,(v73,(v74,(v75,(v76,(v77,(v78,(v79,(v80,(v81,(v82,(v83,(v84,(v85,(v86,(v87,(v88,(v89,(v90,(v91,(v92,(v93,v94))))))))))))))))))))))))))),(v66.take v66.length))
 else none
noncomputable def ah0:List (Nat×CE):=[(106,aaw),(58,adl)]
theorem Xc:cu Tryz.prog ah0:=⟨aax,aay,trivial⟩
noncomputable def ah1:CE:=⟨[.tmp 0 true TK,.tmp 1 false [.dat (.list Bo)]],[.tmp 0 true TK,.tmp 1 false [.dat (.list USd)]],iL⟩
theorem aeu:aB Tryz.prog 75 ah1 :=
 dF (bV (plan:=fA ahZ) (eg:=dD) KK dM (bM Xc) Tryz.func75 (by kernel_rfl) (by kernel_rfl) 10000 (fun a r h=>Eq.trans (show _=iL a from by kernel_rfl) h)) (by rfl)
def ah2:List (Nat×PL):=[]
noncomputable def fD:((Int×(Int×(Int×(Int×(Bool×(Int×(Int×(Int×(Int×(Int×(Int×((List (Int×(Int×(Int×(Bool×(Int×LN))))))×(Int×(Int×(Int×(Bool×(Int×(Int×(Int×(Bool×(Int×(Int×(Int×(Int×(Int×(Int×(Int×Int)))))))))))))))))))))))))))×(Int×Int))->Option ((Int×(Int×(Int×(Int×(Bool×(Int×(Int×(Int×(Int×(Int×(Int×((List (Int×(Int×(Int×(Bool×(Int×LN))))))×(Int×(Int×(Int×(Bool×(Int×(Int×(Int×(Bool×(Int×(Int×(Int×(Int×(Int×(Int×(Int×Int)))))))))))))))))))))))))))×(Int×((List (Int×(LN×(List (Int×(Bool×(Int×Int)))))))×Int))):=fun ((a1,(a2,(a3,(a4,(a5,(a6,(a7,(a8,(a9,(a10,(a11,(a12,(a13,(a14,(a15,(a16,(a17,(a18,(a19,(a20,(a21,(a22,(a23,(a24,(a25,(a26,(a27,a28))))))))))))))))))))))))))),(a29,a30)) =>
 ah (qV ((a2,(a3,(a4,(a5,(a6,(a7,(a8,(a9,(a10,(a11,(a12,(a13,(a14,a15))))))))))))),a29)) fun ((x32,(x33,(x34,(x35,(x36,(x37,(x38,(x39,(x40,(x41,(x42,(x43,(x44,x45))))))))))))),(x46,x47)) =>
 bif (decide (x47≠0)) then
 none
 else
 ah (iL ((a1,(x32,(x33,(x34,(x35,(x36,(x37,(x38,(x39,(x40,(x41,(x42,(x43,(x44,(x45,(a16,(a17,(a18,(a19,(a20,(a21,(a22,(a23,(a24,(a25,(a26,(a27,a28))))))))))))))))))))))))))),x46)) fun ((x49,(x50,(x51,(x52,(x53,(x54,(x55,(x56,(x57,(x58,(x59,(x60,(x61,(x62,(x63,(x64,(x65,(x66,(x67,(x68,(x69,(x70,(x71,(x72,(x73,(x74,(x75,x76))))))))))))))))))))))))))),x77) =>
 some ((x49,(x50,(x51,(x52,(x53,(x54,(x55,(x56,(x57,(x58,(x59,(x60,(x61,(x62,(x63,(x64,(x65,(x66,(x67,(x68,(x69,(x70,(x71,(x72,(x73,(x74,(x75,x76))))))))))))))))))))))))))),(a30,(x77,(0:Int))))
noncomputable def ah3:List (Nat×CE):=[(89,agk),(75,ah1)]
theorem Xd:cu Tryz.prog ah3:=⟨ZQ,aeu,trivial⟩
noncomputable def ah4:CE:=⟨[.tmp 0 true TK,.tmp 1 false [.dat ak],.tmp 2 false [.dat aX]],[.tmp 0 true TK,.tmp 1 false [.dat aX],.tmp 2 false [.dat (.list USd)],.tmp 3 false [.dat aX]],fD⟩
theorem aev:aB Tryz.prog 59 ah4 :=
 dF (bV (plan:=fA ah2) (eg:=dD) KK dM (bM Xd) Tryz.func59 (by kernel_rfl) (by kernel_rfl) 10000 (fun a r h=>Eq.trans (show _=fD a from by kernel_rfl) h)) (by rfl)
def ah5:List (Nat×PL):=[]
noncomputable def pz:((Int×(Int×(Int×(Int×(Bool×(Int×(Int×(Int×(Int×(Int×(Int×((List (Int×(Int×(Int×(Bool×(Int×LN))))))×(Int×(Int×(Int×(Bool×(Int×(Int×(Int×(Bool×(Int×(Int×(Int×(Int×(Int×(Int×(Int×Int)))))))))))))))))))))))))))×Int)->Option ((Int×(Int×(Int×(Int×(Bool×(Int×(Int×(Int×(Int×(Int×(Int×((List (Int×(Int×(Int×(Bool×(Int×LN))))))×(Int×(Int×(Int×(Bool×(Int×(Int×(Int×(Bool×(Int×(Int×(Int×(Int×(Int×(Int×(Int×Int)))))))))))))))))))))))))))×((List (Int×(LN×(List (Int×(Bool×(Int×Int)))))))×Int)):=fun ((a1,(a2,(a3,(a4,(a5,(a6,(a7,(a8,(a9,(a10,(a11,(a12,(a13,(a14,(a15,(a16,(a17,(a18,(a19,(a20,(a21,(a22,(a23,(a24,(a25,(a26,(a27,a28))))))))))))))))))))))))))),a29) =>
 ah (iP ((a1,(a2,(a3,(a4,(a5,(a6,(a7,(a8,(a9,(a10,(a11,(a12,(a13,(a14,(a15,(a16,(a17,(a18,(a19,(a20,(a21,(a22,(a23,(a24,(a25,(a26,(a27,a28))))))))))))))))))))))))))),a29)) fun x30 =>
 bif (decide (x30≠0)) then
 none
 else
 ah (fD ((a1,(a2,(a3,(a4,(a5,(a6,(a7,(a8,(a9,(a10,(a11,(a12,(a13,(a14,(a15,(a16,(a17,(a18,(a19,(a20,(a21,(a22,(a23,(a24,(a25,(a26,(a27,a28))))))))))))))))))))))))))),(a29,(0:Int)))) fun ((x32,(x33,(x34,(x35,(x36,(x37,(x38,(x39,(x40,(x41,(x42,(x43,(x44,(x45,(x46,(x47,(x48,(x49,(x50,(x51,(x52,(x53,(x54,(x55,(x56,(x57,(x58,x59))))))))))))))))))))))))))),(x60,(x61,x62))) =>
 some ((x32,(x33,(x34,(x35,(x36,(x37,(x38,(x39,(x40,(x41,(x42,(x43,(x44,(x45,(x46,(x47,(x48,(x49,(x50,(x51,(x52,(x53,(x54,(x55,(x56,(x57,(x58,x59))))))))))))))))))))))))))),(x61,x62))
noncomputable def ah6:List (Nat×CE):=[(58,adl),(59,ah4)]
theorem Xe:cu Tryz.prog ah6:=⟨aay,aev,trivial⟩
noncomputable def ah7:CE:=⟨[.tmp 0 true TK,.tmp 1 false [.dat ak]],[.tmp 0 true TK,.tmp 1 false [.dat (.list USd)],.tmp 2 false [.dat aX]],pz⟩
theorem aew:aB Tryz.prog 24 ah7 :=
 dF (bV (plan:=fA ah5) (eg:=dD) KK dM (bM Xe) Tryz.func24 (by kernel_rfl) (by kernel_rfl) 10000 (fun a r h=>Eq.trans (show _=pz a from by kernel_rfl) h)) (by rfl)
def ah8:List (Nat×PL):=[(9241421688590303745,(.carry [.tmp 12 false [dO],.tmp 10 false [fB],.mix 20 [fB,dO,fB,(.dat (.int .u16))]])),(43641380036263450374825280377002664395265,(.carry [.tmp 17 false [dI]])),(22344386578566886591910543553025364170375681,(.carry [.mix 0 [fB,(.ki .u32 (8)),(.ki .u16 (0)),(.ki .u32 (0)),(.kb true),(.ki .i64 (0)),(.ki .i64 (0)),(.ki .i64 (0)),(.kb false),(.ki .u8 (0)),(.ki .u8 (0)),(.ki .u32 (0)),(.ki .i64 (0)),(.ki .i64 (0)),dI,dI,dI,dO,dI,dI,dI,dI,dI,dI,(.dat (.list (.pair ak (.pair ak (.pair ak (.pair .bool (.pair aX (.list aX)))))))),dI,dI,dI,dO,dI,dI,dI,dO,dI,dI,dI,dI,dI,dI,dI,(.kb false),(.ki .u32 (0)),(.ki .u8 (0)),(.ki .i64 (0)),(.kb false),(.dat (.int .u32)),(.ki .u32 (0)),(.ki .u32 (0))]]))]
noncomputable def kS:((Int×(Int×(Int×(Int×(Bool×(Int×(Int×(Int×(Int×(Int×(Int×((List (Int×(Int×(Int×(Bool×(Int×LN))))))×(Int×(Int×(Int×(Bool×(Int×(Int×(Int×(Bool×(Int×(Int×(Int×(Int×(Int×(Int×(Int×Int)))))))))))))))))))))))))))×(Int×(Bool×(Int×(Int×(Int×(Int×(LN×(Bool×(Int×(LN×(LN×Int))))))))))))->Option ((Int×(Int×(Int×(Int×(Bool×(Int×(Int×(Int×(Int×(Int×(Int×((List (Int×(Int×(Int×(Bool×(Int×LN))))))×(Int×(Int×(Int×(Bool×(Int×(Int×(Int×(Bool×(Int×(Int×(Int×(Int×(Int×(Int×(Int×Int)))))))))))))))))))))))))))×(Int×((List (Int×(LN×(List (Int×(Bool×(Int×Int)))))))×Int))):=fun ((a1,(a2,(a3,(a4,(a5,(a6,(a7,(a8,(a9,(a10,(a11,(a12,(a13,(a14,(a15,(a16,(a17,(a18,(a19,(a20,(a21,(a22,(a23,(a24,(a25,(a26,(a27,a28))))))))))))))))))))))))))),(a29,(a30,(a31,(a32,(a33,(a34,(a35,(a36,(a37,(a38,(a39,a40)))))))))))) =>
 ah (iP ((a1,(a2,(a3,(a4,(a5,(a6,(a7,(a8,(a9,(a10,(a11,(a12,(a13,(a14,(a15,(a16,(a17,(a18,(a19,(a20,(a21,(a22,(a23,(a24,(a25,(a26,(a27,a28))))))))))))))))))))))))))),a29)) fun x41 =>
 bif (decide (x41=2)) then
 none
 else
 bif (decide ((a39.length:Int) > 1500)) then
 none
 else
 bif (decide (x41≠0)) then
 none
 else
 ah (aZ a31) fun x42 =>
 bif x42 then
 au (bif (decide (a31=101)) then
 ah (xU a39) fun ((x44,(x45,(x46,x47))),x48) =>
 some (Sum.inl ((decide (x48=0)),(x48,(x44,(x45,(x46,x47))))))
 else
 some (Sum.inl (true,(x41,((0:Int),(false,((0:Int),(0:Int)))))))) fun (v49,(v50,(v51,(v52,(v53,v54))))) =>
 bif (!v49) then
 ah (fD ((a1,(a2,(a3,(a4,(a5,(a6,(a7,(a8,(a9,(a10,(a11,(a12,(a13,(a14,(a15,(a16,(a17,(a18,(a19,(a20,(a21,(a22,(a23,(a24,(a25,(a26,(a27,a28))))))))))))))))))))))))))),(a29,(5:Int)))) fun ((x56,(x57,(x58,(x59,(x60,(x61,(x62,(x63,(x64,(x65,(x66,(x67,(x68,(x69,(x70,(x71,(x72,(x73,(x74,(x75,(x76,(x77,(x78,(x79,(x80,(x81,(x82,x83))))))))))))))))))))))))))),(x84,(x85,x86))) =>
 some ((x56,(x57,(x58,(x59,(x60,(x61,(x62,(x63,(x64,(x65,(x66,(x67,(x68,(x69,(x70,(x71,(x72,(x73,(x74,(x75,(x76,(x77,(x78,(x79,(x80,(x81,(x82,x83))))))))))))))))))))))))))),(x84,(x85,x86)))
 else
 ah (lH ((a16,(a17,a18)),a32)) fun ((x88,(x89,x90)),(x91,x92)) =>
 bif (!x92) then
 ah (fD ((a1,(a2,(a3,(a4,(a5,(a6,(a7,(a8,(a9,(a10,(a11,(a12,(a13,(a14,(a15,(x88,(x89,(x90,(a19,(a20,(a21,(a22,(a23,(a24,(a25,(a26,(a27,a28))))))))))))))))))))))))))),(a29,(5:Int)))) fun ((x94,(x95,(x96,(x97,(x98,(x99,(x100,(x101,(x102,(x103,(x104,(x105,(x106,(x107,(x108,(x109,(x110,(x111,(x112,(x113,(x114,(x115,(x116,(x117,(x118,(x119,(x120,x121))))))))))))))))))))))))))),(x122,(x123,x124))) =>
 some ((x94,(x95,(x96,(x97,(x98,(x99,(x100,(x101,(x102,(x103,(x104,(x105,(x106,(x107,(x108,(x109,(x110,(x111,(x112,(x113,(x114,(x115,(x116,(x117,(x118,(x119,(x120,x121))))))))))))))))))))))))))),(x122,(x123,x124)))
 else
 bif (decide (a31=101)) then
 ah (xU ((a1,(a2,(a3,(a4,(a5,(a6,(a7,(a8,(a9,(a10,(a11,(a12,(a13,(a14,(a15,(x88,(x89,(x90,(a19,(a20,(a21,(a22,(a23,(a24,(a25,(a26,(a27,a28))))))))))))))))))))))))))),(a29,(a33,(v51,(v52,(v53,v54))))))) fun ((x126,(x127,(x128,(x129,(x130,(x131,(x132,(x133,(x134,(x135,(x136,(x137,(x138,(x139,(x140,(x141,(x142,(x143,(x144,(x145,(x146,(x147,(x148,(x149,(x150,(x151,(x152,x153))))))))))))))))))))))))))),(x154,(x155,x156))) =>
 some ((x126,(x127,(x128,(x129,(x130,(x131,(x132,(x133,(x134,(x135,(x136,(x137,(x138,(x139,(x140,(x141,(x142,(x143,(x144,(x145,(x146,(x147,(x148,(x149,(x150,(x151,(x152,x153))))))))))))))))))))))))))),(x154,(x155,x156)))
 else
 au (bif a16 then
 ah (jq (a19,a33)) fun x158 =>
 some (Sum.inl x158)
 else
 some (Sum.inl (IntKind.wrap .i64 a33))) fun v159 =>
 au (bif (!a16) then
 some (Sum.inl (a1,(a2,(a3,(a4,(a5,(a6,(a7,(a8,(a9,(a10,(a11,(a12,(a13,(a14,(a15,(x88,(x89,(x90,(v159,(a20,(a21,(a22,(a23,(a24,(a25,(a26,(a27,a28))))))))))))))))))))))))))))
 else
 bif (decide (v159 > a19)) then
 some (Sum.inl (a1,(a2,(a3,(a4,(a5,(a6,(a7,(a8,(a9,(a10,(a11,(a12,(a13,(a14,(a15,(x88,(x89,(x90,(v159,(a20,(a21,(a22,(a23,(a24,(a25,(a26,(a27,a28))))))))))))))))))))))))))))
 else
 some (Sum.inl (a1,(a2,(a3,(a4,(a5,(a6,(a7,(a8,(a9,(a10,(a11,(a12,(a13,(a14,(a15,(x88,(x89,(x90,(a19,(a20,(a21,(a22,(a23,(a24,(a25,(a26,(a27,a28))))))))))))))))))))))))))))) fun (v160,(v161,(v162,(v163,(v164,(v165,(v166,(v167,(v168,(v169,(v170,(v171,(v172,(v173,(v174,(v175,(v176,(v177,(v178,(v179,(v180,(v181,(v182,(v183,(v184,(v185,(v186,v187))))))))))))))))))))))))))) =>
 ah (lJ ((v179,(v180,(v181,(v182,(v183,(v184,(v185,v186))))))),(x91,((IntKind.wrap .i64 ((8:Int)*a29)),v159)))) fun (x190,(x191,(x192,(x193,(x194,(x195,(x196,x197))))))) =>
 ah (qX ((v161,(v162,(v163,(v164,(v165,(v166,(v167,(v168,(v169,(v170,(v171,(v172,(v173,v174))))))))))))),(a29,(x91,(v159,(a30,(a31,a39))))))) fun ((x199,(x200,(x201,(x202,(x203,(x204,(x205,(x206,(x207,(x208,(x209,(x210,(x211,x212))))))))))))),(x213,(x214,x215))) =>
 bif (decide (x215≠0)) then
 none
 else
 ah (iL ((v160,(x199,(x200,(x201,(x202,(x203,(x204,(x205,(x206,(x207,(x208,(x209,(x210,(x211,(x212,(v175,(v176,(v177,(v178,(x190,(x191,(x192,(x193,(x194,(x195,(x196,(x197,v187))))))))))))))))))))))))))),x213)) fun ((x217,(x218,(x219,(x220,(x221,(x222,(x223,(x224,(x225,(x226,(x227,(x228,(x229,(x230,(x231,(x232,(x233,(x234,(x235,(x236,(x237,(x238,(x239,(x240,(x241,(x242,(x243,x244))))))))))))))))))))))))))),x245) =>
 some ((x217,(x218,(x219,(x220,(x221,(x222,(x223,(x224,(x225,(x226,(x227,(x228,(x229,(x230,(x231,(x232,(x233,(x234,(x235,(x236,(x237,(x238,(x239,(x240,(x241,(x242,(x243,x244))))))))))))))))))))))))))),(x214,(x245,(0:Int))))
 else
 au (bif (decide (a31=101)) then
 ah (xU a39) fun ((x247,(x248,(x249,x250))),x251) =>
 some (Sum.inl ((decide (x251=0)),(x251,(x247,(x248,(x249,x250))))))
 else
 some (Sum.inl ((decide (a31=13)),(x41,((0:Int),(false,((0:Int),(0:Int)))))))) fun (v252,(v253,(v254,(v255,(v256,v257))))) =>
 bif (!v252) then
 ah (fD ((a1,(a2,(a3,(a4,(a5,(a6,(a7,(a8,(a9,(a10,(a11,(a12,(a13,(a14,(a15,(a16,(a17,(a18,(a19,(a20,(a21,(a22,(a23,(a24,(a25,(a26,(a27,a28))))))))))))))))))))))))))),(a29,(5:Int)))) fun ((x259,(x260,(x261,(x262,(x263,(x264,(x265,(x266,(x267,(x268,(x269,(x270,(x271,(x272,(x273,(x274,(x275,(x276,(x277,(x278,(x279,(x280,(x281,(x282,(x283,(x284,(x285,x286))))))))))))))))))))))))))),(x287,(x288,x289))) =>
 some ((x259,(x260,(x261,(x262,(x263,(x264,(x265,(x266,(x267,(x268,(x269,(x270,(x271,(x272,(x273,(x274,(x275,(x276,(x277,(x278,(x279,(x280,(x281,(x282,(x283,(x284,(x285,x286))))))))))))))))))))))))))),(x287,(x288,x289)))
 else
 ah (lH ((a16,(a17,a18)),a32)) fun ((x291,(x292,x293)),(x294,x295)) =>
 bif (!x295) then
 ah (fD ((a1,(a2,(a3,(a4,(a5,(a6,(a7,(a8,(a9,(a10,(a11,(a12,(a13,(a14,(a15,(x291,(x292,(x293,(a19,(a20,(a21,(a22,(a23,(a24,(a25,(a26,(a27,a28))))))))))))))))))))))))))),(a29,(5:Int)))) fun ((x297,(x298,(x299,(x300,(x301,(x302,(x303,(x304,(x305,(x306,(x307,(x308,(x309,(x310,(x311,(x312,(x313,(x314,(x315,(x316,(x317,(x318,(x319,(x320,(x321,(x322,(x323,x324))))))))))))))))))))))))))),(x325,(x326,x327))) =>
 some ((x297,(x298,(x299,(x300,(x301,(x302,(x303,(x304,(x305,(x306,(x307,(x308,(x309,(x310,(x311,(x312,(x313,(x314,(x315,(x316,(x317,(x318,(x319,(x320,(x321,(x322,(x323,x324))))))))))))))))))))))))))),(x325,(x326,x327)))
 else
 bif (decide (a31=101)) then
 ah (xU ((a1,(a2,(a3,(a4,(a5,(a6,(a7,(a8,(a9,(a10,(a11,(a12,(a13,(a14,(a15,(x291,(x292,(x293,(a19,(a20,(a21,(a22,(a23,(a24,(a25,(a26,(a27,a28))))))))))))))))))))))))))),(a29,(a33,(v254,(v255,(v256,v257))))))) fun ((x329,(x330,(x331,(x332,(x333,(x334,(x335,(x336,(x337,(x338,(x339,(x340,(x341,(x342,(x343,(x344,(x345,(x346,(x347,(x348,(x349,(x350,(x351,(x352,(x353,(x354,(x355,x356))))))))))))))))))))))))))),(x357,(x358,x359))) =>
 some ((x329,(x330,(x331,(x332,(x333,(x334,(x335,(x336,(x337,(x338,(x339,(x340,(x341,(x342,(x343,(x344,(x345,(x346,(x347,(x348,(x349,(x350,(x351,(x352,(x353,(x354,(x355,x356))))))))))))))))))))))))))),(x357,(x358,x359)))
 else
 au (bif a16 then
 ah (jq (a19,a33)) fun x361 =>
 some (Sum.inl x361)
 else
 some (Sum.inl (IntKind.wrap .i64 a33))) fun v362 =>
 au (bif (!a16) then
 some (Sum.inl (a1,(a2,(a3,(a4,(a5,(a6,(a7,(a8,(a9,(a10,(a11,(a12,(a13,(a14,(a15,(x291,(x292,(x293,(v362,(a20,(a21,(a22,(a23,(a24,(a25,(a26,(a27,a28))))))))))))))))))))))))))))
 else
 bif (decide (v362 > a19)) then
 some (Sum.inl (a1,(a2,(a3,(a4,(a5,(a6,(a7,(a8,(a9,(a10,(a11,(a12,(a13,(a14,(a15,(x291,(x292,(x293,(v362,(a20,(a21,(a22,(a23,(a24,(a25,(a26,(a27,a28))))))))))))))))))))))))))))
 else
 some (Sum.inl (a1,(a2,(a3,(a4,(a5,(a6,(a7,(a8,(a9,(a10,(a11,(a12,(a13,(a14,(a15,(x291,(x292,(x293,(a19,(a20,(a21,(a22,(a23,(a24,(a25,(a26,(a27,a28))))))))))))))))))))))))))))) fun (v363,(v364,(v365,(v366,(v367,(v368,(v369,(v370,(v371,(v372,(v373,(v374,(v375,(v376,(v377,(v378,(v379,(v380,(v381,(v382,(v383,(v384,(v385,(v386,(v387,(v388,(v389,v390))))))))))))))))))))))))))) =>
 ah (lJ ((v382,(v383,(v384,(v385,(v386,(v387,(v388,v389))))))),(x294,((IntKind.wrap .i64 ((8:Int)*a29)),v362)))) fun (x393,(x394,(x395,(x396,(x397,(x398,(x399,x400))))))) =>
 ah (qX ((v364,(v365,(v366,(v367,(v368,(v369,(v370,(v371,(v372,(v373,(v374,(v375,(v376,v377))))))))))))),(a29,(x294,(v362,(a30,(a31,a39))))))) fun ((x402,(x403,(x404,(x405,(x406,(x407,(x408,(x409,(x410,(x411,(x412,(x413,(x414,x415))))))))))))),(x416,(x417,x418))) =>
 bif (decide (x418≠0)) then
 none
 else
 ah (iL ((v363,(x402,(x403,(x404,(x405,(x406,(x407,(x408,(x409,(x410,(x411,(x412,(x413,(x414,(x415,(v378,(v379,(v380,(v381,(x393,(x394,(x395,(x396,(x397,(x398,(x399,(x400,v390))))))))))))))))))))))))))),x416)) fun ((x420,(x421,(x422,(x423,(x424,(x425,(x426,(x427,(x428,(x429,(x430,(x431,(x432,(x433,(x434,(x435,(x436,(x437,(x438,(x439,(x440,(x441,(x442,(x443,(x444,(x445,(x446,x447))))))))))))))))))))))))))),x448) =>
 some ((x420,(x421,(x422,(x423,(x424,(x425,(x426,(x427,(x428,(x429,(x430,(x431,(x432,(x433,(x434,(x435,(x436,(x437,(x438,(x439,(x440,(x441,(x442,(x443,(x444,(x445,(x446,x447))))))))))))))))))))))))))),(x417,(x448,(0:Int))))
noncomputable def Ld:CE:=⟨[.tmp 0 true TK,.tmp 1 false [.dat ak],.tmp 2 false [.dat (.int .u32)],.tmp 3 true [.dat aX,.dat .bool,.dat aX,.dat (.int .u16)]],[.tmp 0 true TK,.tmp 1 false [.dat aX],.tmp 2 false [.dat (.list USd)],.tmp 3 false [.dat aX]],xU⟩
noncomputable def Ii:CE:=⟨[.tmp 0 false [.dat (.list aX)]],[.tmp 0 true [.dat aX,.dat .bool,.dat aX,.dat (.int .u16)],.tmp 1 false [.dat aX]],xU⟩
noncomputable def ah9:List (Nat×CE):=[(68,Ee),(72,ahr),(70,ahu),(73,ajY),(74,aj7),(26,Ol),(58,adl),(75,ah1),(59,ah4),(71,Ld),(69,Ii),(24,ah7)]
theorem Xf:cu Tryz.prog ah9:=⟨Oe,aek,ael,ajZ,aj8,He,aay,aeu,aev,Wp,QZ,aew,trivial⟩
noncomputable def akd:CE:=⟨[.tmp 0 true TK,.tmp 1 false [.dat ak],.tmp 2 true [.dat .bool,.dat aX,.dat (.int .u16),.dat (.int .u32),.dat (.int .u32),.dat (.list (.int .u32)),.dat .bool,.dat (.int .u16),.dat (.list aX),.dat (.list aX),.dat ak]],[.tmp 0 true TK,.tmp 1 false [.dat aX],.tmp 2 false [.dat (.list USd)],.tmp 3 false [.dat aX]],kS⟩
theorem ake:aB Tryz.prog 40 akd :=
 dF (bV (plan:=fA ah8) (eg:=dD) KK dM (bM Xf) Tryz.func40 (by kernel_rfl) (by kernel_rfl) 10000 (fun a r h=>Eq.trans (show _=kS a from by kernel_rfl) h)) (by rfl)
abbrev ST:=Bool×(Int×(Int×(Int×(Int×(Int×(Int×Int))))))
abbrev SD:=Int×(List Int×List (Int×(Bool×(Int×Int))))
structure Pt where
 cd:Int
 j:Jt
 o:Bool
 hi:Int
 ju:Int
 ht:Int
 st:ST
 sd:Int
abbrev PTT:=Int×(Int×(Int×(Int×(Bool×(Int×(Int×(Int×(Int×(Int×(Int×(List WT×(Int×(Int×(Int×(Bool×(Int×(Int×(Int×(Bool×(Int×(Int×(Int×(Int×(Int×(Int×(Int×Int))))))))))))))))))))))))))
def Pt.t (p:Pt):PTT:=(p.cd,(p.j.le,(p.j.mo,(p.j.now,(p.j.on,(p.j.zero,(p.j.first,(p.j.high,(p.j.done,(p.j.spread,(p.j.transit,(p.j.q,(p.j.late,(p.j.twice,(p.j.played,(p.o,(p.hi,(p.ju,(p.ht,(p.st.1,(p.st.2.1,(p.st.2.2.1,(p.st.2.2.2.1,(p.st.2.2.2.2.1,(p.st.2.2.2.2.2.1,(p.st.2.2.2.2.2.2.1,(p.st.2.2.2.2.2.2.2,p.sd)))))))))))))))))))))))))))
def ET (c:Int):Prop:=c=0\/c=8\/c=96
def pO (ty:Int) (py:List Int):Prop:=(ty=13/\∃b,py=[b]/\0<=b/\b<=255)\/((ty=0\/ty=8)/\py.length=160/\Bytes py)\/(ty=96/\Blk py)
theorem pO.len {ty:Int} {py:List Int} (h:pO ty py):py.length<=1500/\Ty4 ty:=by
 unfold Ty4;rcases h with ⟨rfl,b,rfl,_⟩ | ⟨rfl | rfl,h,_⟩ | ⟨rfl,h,_⟩<;>simp<;>omega
noncomputable def Le (ty:Int) (py:List Int):List Int:=match bH (ty,(py,0)) with | some r=>r.1 | none=>[]
theorem Lh {ty:Int} {py:List Int} {f:List Int->Option (List Int×Int)} (h:f=um\/f=CZ) (hl:py.length=160) (hb:Bytes py):So (f py) (fun r=>r.2=0/\r.1.length=160/\Oy r.1):=by
 rcases h with rfl | rfl
 ·rw [Z4];exact (TY (B:=fun x=>0<=x/\x<=255) (R:=fun x => -32768<=x/\x<=32767) Wj (by omega) (by omega) (by omega) hb).imp fun r h=>⟨h.1,h.2.1.trans hl,h.2.2⟩
 ·rw [ac1];exact (TY (B:=fun x=>0<=x/\x<=255) (R:=fun x => -32768<=x/\x<=32767) (fun x _=>ZX x) (by omega) (by omega) (by omega) hb).imp fun r h=>⟨h.1,h.2.1.trans hl,h.2.2⟩
theorem Jw {ty:Int} {py:List Int} (h:pO ty py) (sd:Int):So (bH (ty,(py,sd))) (fun r=>r.1.length=160/\(ty≠13->r.1=Le ty py/\Oy r.1)):=by
 have main:∀sd,So (bH (ty,(py,sd))) (fun r=>r.1.length=160/\(ty≠13->Oy r.1/\∀sd',bH (ty,(py,sd'))=some (r.1,sd'))):=by
  intro sd;rcases h with ⟨rfl,b,rfl,hb⟩ | ⟨ht,hl,hb⟩ | ⟨rfl,hb⟩
  ·unfold bH;refine So.pos rfl (So.neg (by simp) (So.pos (by simp) (So.is rfl (So.bind (aah hb sd) fun r hr=>So.neg (by rw [hr.2];simp) (.mk ⟨hr.1,fun hn=>(hn rfl).elim⟩)))))
  ·rcases ht with rfl | rfl
   ·obtain ⟨⟨l,e⟩,hr,h1,h2,h3⟩:=Lh (ty:=0) (.inl rfl) hl hb;simp only at h1 h2 h3;subst h1;have hs:∀sd',bH (0,(py,sd'))=some (l,sd'):=fun sd'=>by
     unfold bH;exact So.eq (So.neg (by omega) (So.pos rfl (So.is hr (So.neg (by omega) (.mk rfl)))))
    exact ⟨_,hs sd,h2,fun _=>⟨h3,hs⟩⟩
   ·obtain ⟨⟨l,e⟩,hr,h1,h2,h3⟩:=Lh (ty:=0) (.inr rfl) hl hb;simp only at h1 h2 h3;subst h1;have hs:∀sd',bH (8,(py,sd'))=some (l,sd'):=fun sd'=>by
     unfold bH;exact So.eq (So.neg (by omega) (So.neg (by omega) (So.pos rfl (So.is hr (So.neg (by omega) (.mk rfl))))))
    exact ⟨_,hs sd,h2,fun _=>⟨h3,hs⟩⟩
  ·obtain ⟨⟨l,s,e⟩,hr,h1,h2,h3⟩:=Ub hb;simp only at h1 h2 h3;subst h3;have hs:∀sd',bH (96,(py,sd'))=some (l,sd'):=fun sd'=>by
    unfold bH;exact So.eq (So.neg (by omega) (So.neg (by omega) (So.neg (by omega) (So.pos rfl (So.is hr (So.neg (by simp) (.mk rfl)))))))
   exact ⟨_,hs sd,h1,fun _=>⟨h2,hs⟩⟩
 refine (main sd).imp fun r hr=>⟨hr.1,fun hn => ?_⟩
 obtain ⟨h2,h3⟩:=hr.2 hn;refine ⟨?_,h2⟩;unfold Le;rw [h3 0]
def zD {α β:Type} (R:α->β->Prop):List α->List β->Prop
 | [],[]=>True
 | a::l,b::m=>R a b/\zD R l m
 | _,_=>False
theorem zD.snoc {α β:Type} {R:α->β->Prop}:∀ {l:List α} {m:List β} {a:α} {b:β},zD R l m->R a b->zD R (l++[a]) (m++[b])
 | [],[],_,_,_,h=>⟨h,trivial⟩
 | _::_,_::_,_,_,h,k=>⟨h.1,h.2.snoc k⟩
theorem zD.len {α β:Type} {R:α->β->Prop}:∀ {l:List α} {m:List β},zD R l m->l.length=m.length
 | [],[],_=>rfl
 | _::_,_::_,h=>by rw [List.length_cons,List.length_cons,h.2.len]
def Hf (w:WT) (s:SD):Prop:=s.1=w.1/\s.2.1.length=160/\s.2.2=[]/\(w.2.2.2.2.1≠13->s.2.1=Le w.2.2.2.2.1 w.2.2.2.2.2)
theorem Jy (p:Pt) {pl:List WT} (hl:pl.length<=1000) (hp:∀w∈pl,pO w.2.2.2.2.1 w.2.2.2.2.2):So (iL (p.t,pl)) (fun r=>(∃sd,r.1=({p with sd:=sd}:Pt).t)/\zD Hf pl r.2):=by
 unfold iL;refine So.join (P:=fun s=>(∃sd,s.2=({p with sd:=sd}:Pt).t)/\zD Hf pl s.1) (So.loop (fun s=>∃(k:Nat) (sd:Int),k<=pl.length/\s.1=(k:Int)/\s.2.2=({p with sd:=sd}:Pt).t/\zD Hf (pl.take k) s.2.1) (fun s=>((pl.length:Int)-s.1).toNat) (fun s hs => ?_) ⟨0,p.sd,by omega,rfl,rfl,by rw [List.take_zero];trivial⟩) fun s hs => ?_
 ·obtain ⟨i,l,x⟩:=s;obtain ⟨k,sd,hk,h1,h2,h3⟩:=hs;simp only at h1 h2 h3;subst h1 h2;refine So.dec (fun hk1=>So.pos (by omega) ?_) fun hk1 => .out (So.le (.inl ⟨⟨sd,rfl⟩,?_⟩))
  ·have hk2:k<pl.length:=by omega
   have hll:=h3.len;rw [List.length_take] at hll;refine So.is (iI hk2) (So.bind (Jw (hp _ (List.getElem_mem hk2)) sd) fun r hr=>So.le (So.pos (by simp only [List.length_append,List.length_take,List.length_cons,List.length_nil];omega) (So.is rfl (So.le (.inl ⟨⟨k+1,r.2,by omega,?_,rfl,?_⟩,?_⟩)))))
   ·show IntKind.wrap .i64 ((k:Int)+1)=_;rw [aj (by omega)];omega
   ·simp only [List.take_length];rw [List.take_add_one,List.getElem?_eq_getElem hk2];exact h3.snoc ⟨rfl,hr.1,rfl,fun hn=>(hr.2 hn).1⟩
   ·show ((pl.length:Int)-IntKind.wrap .i64 ((k:Int)+1)).toNat<_;rw [aj (by omega)];simp only;omega
  ·rw [List.take_length];rw [List.take_of_length_le (by omega)] at h3;exact h3
 ·obtain ⟨l,x⟩:=s;obtain ⟨⟨sd,h1⟩,h2⟩:=hs;simp only at h1 h2;subst h1;exact So.le (.mk ⟨⟨sd,rfl⟩,by rw [List.take_length];exact h2⟩)
def PV (n:Int) (p:Pt):Prop:=ET p.cd/\JV p.j/\KW n (p.o,(p.hi,p.ju))/\(0<=p.ht/\p.ht<=20000)/\∀w∈p.j.q,pO w.2.2.2.2.1 w.2.2.2.2.2
theorem lK {c:Int} (h:ET c):aZ c=some true:=by
 rcases h with rfl | rfl | rfl<;>rfl
theorem aex:nG (false,(0,(0,(0,(0,0)))))=some ((false,(0,(0,(0,(0,0))))),9):=rfl
theorem akf:kR (0,0)=some true:=rfl
theorem aey {n:Int} (hn:n<=100) {p:Pt} (h:PV n p) {now:Int} (h1:p.j.now<=now/\now<=1000000):iP (p.t,now)=some 0:=by
 obtain ⟨hc,hj,ht,hh,_⟩:=h;unfold KW at ht;simp only at ht;unfold iP;refine So.eq ?_;refine So.join (P:=(· = true)) (So.join (P:=fun _=>True) (So.is (lK hc) (So.if (fun h=>by cases h) fun _=>So.is akf (So.if (fun h=>by cases h) fun _=>So.is (ES hj) (So.if (fun h=>by cases h) fun _ => .inl trivial)))) fun _ _=>So.is aex (So.neg (by omega) (So.pos (p:=p.hi>=0) (by omega) (So.pos (p:=p.hi<=140737488355328) (by omega) (So.pos (p:=p.ju >= -1) (by omega) (So.pos (p:=p.ju<=65535) (by omega) (So.pos (p:=p.ht >= -140737488355328) (by omega) (.inl (decide_eq_true (by show p.ht<=140737488355328;omega)))))))))) fun v hv => ?_;subst hv;exact So.if (fun h=>by cases h) fun _=>So.neg (by omega) (So.neg (p:=now<p.j.now) (by omega) (.mk rfl))
theorem aaz {n:Int} {p:Pt} (h:PV n p) {now v:Int} (h1:p.j.now<=now/\now<=1000000):So (fD (p.t,(now,v))) (fun r=>(∃sd,r.1=({p with j:=p.j.run now,sd:=sd}:Pt).t)/\r.2.1=v/\zD Hf (due now p.j.q) r.2.2.1/\r.2.2.2=0):=by
 unfold fD;refine So.is (akb h.2.1 h1) (So.neg (by omega) ?_);have hl:=vI now p.j.q;have hl2:=h.2.1.len;refine So.bind (Jy ({p with j:=p.j.run now}:Pt) (pl:=due now p.j.q) (by omega) fun w hw=>h.2.2.2.2 w (sD hw)) fun r hr => ?_;obtain ⟨⟨sd,e⟩,h2⟩:=hr;exact .mk ⟨⟨sd,e⟩,rfl,h2,rfl⟩
theorem adn {n:Int} (hn:n<=100) {p:Pt} (h:PV n p) {now:Int} (h1:p.j.now<=now/\now<=1000000):So (pz (p.t,now)) (fun r=>(∃sd,r.1=({p with j:=p.j.run now,sd:=sd}:Pt).t)/\zD Hf (due now p.j.q) r.2.1/\r.2.2=0):=by
 unfold pz;refine So.is (aey hn h h1) (So.neg (by omega) (So.bind (aaz h h1) fun r hr => ?_));obtain ⟨⟨sd,e⟩,_,h2,h3⟩:=hr;exact .mk ⟨⟨sd,e⟩,h2,h3⟩
theorem aez {j:Jt} {n k t:Int} {mk:Bool} {ty:Int} {py:List Int} {r:Jt×Int} (h:aav j n k t mk ty py r) {w:WT} (hw:w∈r.1.q):w∈left n j.q\/w=(r.1.at t,(k,(t,(mk,(ty,py))))):=by
 obtain ⟨_,_,_,_,_,_,h⟩:=h;rcases h with ⟨_,_,_,_,e⟩ | ⟨_,e,_⟩
 ·rw [e] at hw;rcases G9.1 hw with e | e
  ·exact .inr e
  ·exact .inl e
 ·rw [e] at hw;exact .inl hw
def aeA (n:Int) (p:Pt) (now k t:Int) (mk:Bool) (ty:Int) (py:List Int) (r:PTT×(Int×(List SD×Int))):Prop :=
 (∃p':Pt,r.1=p'.t/\PV n p'/\p'.cd=p.cd/\p'.j=(p.j.put now k t mk ty py).1/\p'.o=true)/\r.2.1=(p.j.put now k t mk ty py).2/\zD Hf (due now p.j.q) r.2.2.1/\r.2.2.2=0
theorem Rt {n:Int} (hn:n<=100) {p:Pt} (h:PV n p) {now k t sr:Int} {mk:Bool} {ty:Int} {py:List Int} (h1:p.j.now<=now/\now<=1000000) (hk:0<=k/\k<n) (ht:0<=t/\t<=20000) (hp:pO ty py) (hs:p.j.sum<=189) :
 So (kS (p.t,(now,(mk,(ty,(k,(t,(sr,([],(false,(0,([],(py,0)))))))))))))  (aeA n p now k t mk ty py):=by
 have hlen:=hp.len;have hput:=Ro (mk:=mk) (ty:=ty) h.2.1 h1 (k:=k) (by omega) ht hlen.1 hs;have hPut:=akc (mk:=mk) (ty:=ty) h.2.1 h1 (k:=k) (by omega) ht hlen.1;have hchk:=aey hn h h1;have hl:=vI now p.j.q;have hl2:=h.2.1.len;obtain ⟨hc,hj,htr,hht,hpay⟩:=h;unfold kS;refine So.is hchk (So.neg (by omega) (So.neg (by omega) (So.neg (by omega) ?_)));have tail:∀(o:Bool) (hi ju ht':Int) (st:ST),o=true->KW n (o,(hi,ju))->(0<=ht'/\ht'<=20000)->∀f:PTT×List SD->Option (PTT×(Int×(List SD×Int))),(∀x y,f (x,y)=some (x,((p.j.put now k t mk ty py).2,(y,0))))->So (ah (iL (({p with j:=(p.j.put now k t mk ty py).1,o:=o,hi:=hi,ju:=ju,ht:=ht',st:=st}:Pt).t,due now p.j.q)) f) (aeA n p now k t mk ty py):=by
  intro o hi ju ht' st ho htr' hht' f hf;refine So.bind (Jy _ (by omega) fun w hw=>hpay w (sD hw)) fun r hr => ?_;obtain ⟨a,b⟩:=r;obtain ⟨⟨sd,e⟩,h2⟩:=hr;rw [hf];refine .mk ⟨⟨_,e,⟨hc,hput.1,htr',hht',fun w hw => ?_⟩,rfl,rfl,ho⟩,rfl,h2,rfl⟩;rcases aez hput hw with hw | rfl
  ·exact hpay w (mem_left hw)
  ·exact hp
 have hsp:So (aZ ty) (fun b=>b=false->ty=13):=by
  rcases hlen.2 with rfl | rfl | rfl | rfl
  ·exact ⟨true,rfl,fun h=>by cases h⟩
  ·exact ⟨true,rfl,fun h=>by cases h⟩
  ·exact ⟨true,rfl,fun h=>by cases h⟩
  ·exact ⟨false,rfl,fun _=>rfl⟩
 have n101:¬ty=101:=by have:=hlen.2;unfold Ty4 at this;omega
 refine So.bind hsp fun b hb=>So.if (fun hbt=>So.join (P:=fun v=>v.1=true) (So.neg n101 (.inl rfl)) fun v hv => ?_) fun hbf=>So.join (P:=fun v=>v.1=true) (So.neg n101 (.inl (decide_eq_true (hb hbf)))) fun v hv => ?_
 all_goals
  obtain ⟨v1,v2⟩:=v;simp only at hv;subst hv;refine So.if (fun h=>by cases h) fun _=>So.bind (WU hn htr hk) fun r hr => ?_;obtain ⟨⟨o,hi,ju⟩,a,b'⟩:=r;obtain ⟨r1,r2,r3,r4⟩:=hr;simp only at r1 r2 r3 r4;subst r3 r4;refine So.if (fun h=>by cases h) fun _=>So.neg n101 ?_;refine So.join (P:=(· = t)) ?_ fun v hv => ?_
  ·refine So.if (fun _=>So.is (ahE hht ht) (.inl rfl)) fun _ => .inl (aj (by omega))
  ·subst hv;refine So.join (P:=fun s=>∃ht',(0<=ht'/\ht'<=20000)/\s=({p with o:=o,hi:=hi,ju:=ju,ht:=ht'}:Pt).t) ?_ fun s hs => ?_
   ·exact So.if (fun _ => .inl ⟨v,ht,rfl⟩) fun _=>So.dec (fun _ => .inl ⟨v,ht,rfl⟩) fun _ => .inl ⟨p.ht,hht,rfl⟩
   ·obtain ⟨ht',hv',rfl⟩:=hs;refine So.bind (WV _) fun st _=>So.is hPut (So.neg (by omega) ?_);exact tail o hi ju ht' st r2 r1 hv' _ fun x y=>rfl
def aia:List (Nat×PL):=[(68853957121,(.carry [.row 1 98 (.int .i16)])),(9241421688456087558,(.carry [.tmp 7 false [dI],.row 1 98 (.int .i16)]))]
noncomputable def gK:(Int×Int)->Option LN:=fun (a1,a2) =>
 au (bn (fun (v5,v6) =>
 bif (decide (v5<160)) then
 bif (decide ((0<=v5)/\(v5<160))) then
 ah v6[v5.toNat]? fun x13 =>
 some (Sum.inl ((IntKind.wrap .i64 (v5+(1:Int))),(List.set v6 v5.toNat (IntKind.wrap .i16 (IntKind.wrap .i64 (Int.tdiv (IntKind.wrap .i64 ((Int.tmod (IntKind.wrap .i64 a1) (32768:Int))*(IntKind.wrap .i64 ((Int.tmod (IntKind.wrap .i64 (v5+a2)) (16:Int))-(8:Int))))) (8:Int)))))))
 else none
 else
 aA (some (Sum.inl v6))) ((0:Int),(List.replicate 160 (0:Int)))) fun v15 =>
 bif (decide (160<=v15.length)) then
 some (List.take 160 v15)
 else none
noncomputable def aib:List (Nat×CE):=[]
theorem Xg:cu Tryz.prog aib:=trivial
noncomputable def ado:CE:=⟨[(.tmp 0 false [(.dat (.int .u16))]),(.tmp 1 false [dI])],[(.tmp 0 false [(.dat (.list (.int .i16)))])],gK⟩
theorem aaA:aB Tryz.prog 10 ado :=nK aia dD Xg Tryz.func10
def aic:List (Nat×PL):=[(134480385,(.carry [])),(18049651601311750,(.carry [.tmp 5 false [dI]]))]
noncomputable def jc:(LN×LN)->Option Bool:=fun (a1,a2) =>
 bif (decide ((a1.length:Int)≠(a2.length:Int))) then
 some false
 else
 au (bn (fun v3 =>
 bif (decide (v3<(a1.length:Int))) then
 bif (decide ((0<=v3)/\(v3<(a1.length:Int)))) then
 ah a1[v3.toNat]? fun x4 =>
 bif (decide ((0<=v3)/\(v3<(a2.length:Int)))) then
 ah a2[v3.toNat]? fun x5 =>
 bif (decide (x4≠x5)) then
 aA (aA (some false))
 else
 some (Sum.inl (IntKind.wrap .i64 (v3+(1:Int))))
 else none
 else none
 else
 aA (some (Sum.inl ()))) (0:Int)) fun _ =>
 some true
noncomputable def aie:List (Nat×CE):=[(10,ado)]
theorem Xh:cu Tryz.prog aie:=⟨aaA,trivial⟩
noncomputable def aif:CE:=⟨[(.tmp 0 false [(.dat (.list (.int .i16)))]),(.tmp 1 false [(.dat (.list (.int .i16)))])],[(.tmp 0 false [dO])],jc⟩
theorem aeB:aB Tryz.prog 60 aif :=nK aic dD Xh Tryz.func60
def aii:List (Nat×PL):=[]
noncomputable def aJ:Int->Option Int:=fun a1 =>
 ah (some (Int.tmod a1 (3:Int))) fun x2 =>
 bif (decide ((0<=x2)/\(x2<3))) then
 some (List.getD ((0:Int)::((8:Int)::((96:Int)::([]:List Int)))) x2.toNat (0:Int))
 else none
noncomputable def aij:List (Nat×CE):=[(60,aif)]
theorem Xi:cu Tryz.prog aij:=⟨aeB,trivial⟩
noncomputable def aaB:CE:=⟨[(.tmp 0 false [fB])],[(.tmp 0 false [fB])],aJ⟩
theorem Uh:aB Tryz.prog 13 aaB :=nK aii dD Xi Tryz.func13
def aik:List (Nat×PL):=[]
noncomputable def dN:(Int×(LN×(Int×Int)))->Option (LN×(Int×Int)):=fun (a1,(a2,(a3,a4))) =>
 bif (decide (a1=0)) then
 ah (oq a2) fun (x6,x7) =>
 some (x6,(a3,a4))
 else
 bif (decide (a1=8)) then
 ah (uj a2) fun (x9,x10) =>
 some (x9,(a3,a4))
 else
 ah (iC ((a3,a4),a2)) fun (x12,((x13,x14),x15)) =>
 some (x12,(x13,x14))
noncomputable def ail:List (Nat×CE):=[(3000000052,o9),(4000000052,qQ),(53,ZJ),(13,aaB)]
theorem Xj:cu Tryz.prog ail:=⟨pW,rY,TM,Uh,trivial⟩
noncomputable def ain:CE:=⟨[(.tmp 0 false [fB]),(.tmp 1 false [(.dat (.list (.int .i16)))]),(.tmp 2 true [dI,dI])],[(.tmp 0 false [dY]),(.tmp 1 true [dI,dI])],dN⟩
theorem aeC:aB Tryz.prog 20 ain :=nK aik dD Xj Tryz.func20
def aio:List (Nat×PL):=[]
noncomputable def bP:(Int×LN)->Option LN:=fun (a1,a2) =>
 bif (decide (a1=0)) then
 ah (um a2) fun (x4,x5) =>
 some x4
 else
 bif (decide (a1=8)) then
 ah (CZ a2) fun (x7,x8) =>
 some x7
 else
 ah (fC (a2,(160:Int))) fun (x10,((x11,x12),x13)) =>
 some x10
noncomputable def aip:List (Nat×CE):=[(3000000054,qR),(4000000054,uo),(55,acu),(20,ain)]
theorem Xk:cu Tryz.prog aip:=⟨rZ,vw,ZK,aeC,trivial⟩
noncomputable def akg:CE:=⟨[(.tmp 0 false [fB]),(.tmp 1 false [dY])],[(.tmp 0 false [(.dat (.list (.int .i16)))])],bP⟩
theorem akh:aB Tryz.prog 21 akg :=nK aio dD Xk Tryz.func21
theorem Ru {c:Int} (h:ET c):c≠13/\c≠101:=by unfold ET at h;omega
theorem aki {c:Int} {py:List Int} (hc:ET c) (h:pO c py):∃l,l.length=160/\Oy l/\Le c py=l/\bP (c,py)=some l/\((c=0/\um py=some (l,0))\/(c=8/\CZ py=some (l,0))\/(c=96/\py.length=84/\∃s,fC (py,160)=some (l,(s,0)))):=by
 obtain ⟨r,e1,e2,e3⟩:=Jw h 0;obtain ⟨e4,e5⟩:=e3 (Ru hc).1;rcases h with ⟨rfl,_⟩ | ⟨ht,hl,hb⟩ | ⟨rfl,hb⟩
 ·exact ((Ru hc).1 rfl).elim
 ·rcases ht with rfl | rfl
  ·obtain ⟨⟨l,e⟩,hr,h1,h2,h3⟩:=Lh (ty:=0) (.inl rfl) hl hb;simp only at h1 h2 h3;subst h1;have hs:bH (0,(py,0))=some (l,0):=by
    unfold bH;exact So.eq (So.neg (by omega) (So.pos rfl (So.is hr (So.neg (by omega) (.mk rfl)))))
   refine ⟨l,h2,h3,?_,?_,.inl ⟨rfl,hr⟩⟩
   ·unfold Le;rw [hs]
   ·unfold bP;exact So.eq (So.pos rfl (So.is hr (.mk rfl)))
  ·obtain ⟨⟨l,e⟩,hr,h1,h2,h3⟩:=Lh (ty:=0) (.inr rfl) hl hb;simp only at h1 h2 h3;subst h1;have hs:bH (8,(py,0))=some (l,0):=by
    unfold bH;exact So.eq (So.neg (by omega) (So.neg (by omega) (So.pos rfl (So.is hr (So.neg (by omega) (.mk rfl))))))
   refine ⟨l,h2,h3,?_,?_,.inr (.inl ⟨rfl,hr⟩)⟩
   ·unfold Le;rw [hs]
   ·unfold bP;exact So.eq (So.neg (by omega) (So.pos rfl (So.is hr (.mk rfl))))
 ·obtain ⟨⟨l,s,e⟩,hr,h1,h2,h3⟩:=Ub hb;simp only at h1 h2 h3;subst h3;have hs:bH (96,(py,0))=some (l,0):=by
   unfold bH;exact So.eq (So.neg (by omega) (So.neg (by omega) (So.neg (by omega) (So.pos rfl (So.is hr (So.neg (by simp) (.mk rfl)))))))
  refine ⟨l,h1,h2,?_,?_,.inr (.inr ⟨rfl,hb.1,s,hr⟩)⟩
  ·unfold Le;rw [hs]
  ·unfold bP;exact So.eq (So.neg (by omega) (So.neg (by omega) (So.is hr (.mk rfl))))
theorem enc3 {c:Int} (hc:ET c) {l:List Int} (hl:l.length=160) (hs:Oy l) {s:Int×Int} (hv:vF s):∃py s',pO c py/\vF s'/\dN (c,(l,s))=some (py,s')/\((c=0/\oq l=some (py,0)/\s'=s)\/(c=8/\uj l=some (py,0)/\s'=s)\/(c=96/\iC (s,l)=some (py,(s',0)))):=by
 rcases hc with rfl | rfl | rfl
 ·obtain ⟨⟨b,e⟩,hr,h1,h2,h3⟩:=(Wn▸TY (B:=fun _=>True) (R:=fun x=>0<=x/\x<=255) (c:=1) (fun x _=>ajN x) (by omega) (by omega) (by omega) (fun _ _=>trivial):So (oq l) _)
  simp only at h1 h2 h3;subst h1;refine ⟨b,s,.inr (.inl ⟨.inl rfl,h2.trans hl,h3⟩),hv,?_,.inl ⟨rfl,hr,rfl⟩⟩;unfold dN;exact So.eq (So.pos rfl (So.is hr (.mk rfl)))
 ·obtain ⟨⟨b,e⟩,hr,h1,h2,h3⟩:=(ZY▸TY (B:=fun _=>True) (R:=fun x=>0<=x/\x<=255) (c:=1) (fun x _=>aln x) (by omega) (by omega) (by omega) (fun _ _=>trivial):So (uj l) _)
  simp only at h1 h2 h3;subst h1;refine ⟨b,s,.inr (.inl ⟨.inr rfl,h2.trans hl,h3⟩),hv,?_,.inr (.inl ⟨rfl,hr,rfl⟩)⟩;unfold dN;exact So.eq (So.neg (by omega) (So.pos rfl (So.is hr (.mk rfl))))
 ·obtain ⟨⟨b,s',e⟩,hr,h1,h2,h3⟩:=aac hv hl hs;simp only at h1 h2 h3;subst h3;refine ⟨b,s',.inr (.inr ⟨rfl,h1⟩),h2,?_,.inr (.inr ⟨rfl,hr⟩)⟩;unfold dN;exact So.eq (So.neg (by omega) (So.neg (by omega) (So.is hr (.mk rfl))))
theorem adp {a b:Int} (ha:ET a) (hb:ET b) {py:List Int} (hp:pO a py) {s:Int×Int} (hv:vF s):∃l pb s',bP (a,py)=some l/\dN (b,(l,s))=some (pb,s')/\bT (a,(b,(py,s)))=some (pb,(s',0))/\pO b pb/\vF s':=by
 obtain ⟨l,h1,h2,_,h4,h5⟩:=aki ha hp;obtain ⟨pb,s',g1,g2,g3,g4⟩:=enc3 hb h1 h2 hv;refine ⟨l,pb,s',h4,g3,?_,g1,g2⟩;have e84:py.length=84->IntKind.wrap .i64 (2*IntKind.wrap .i64 ((py.length:Int)-4))=160:=fun h=>by rw [h];decide
 rcases h5 with ⟨rfl,hu⟩ | ⟨rfl,hu⟩ | ⟨rfl,hl,s0,hu⟩
 ·rcases g4 with ⟨rfl,hk,rfl⟩ | ⟨rfl,hk,rfl⟩ | ⟨rfl,hk⟩
  ·unfold bT;exact So.eq (So.pos rfl (So.pos rfl (So.neg (by omega) (So.is hu (So.neg (by simp) (So.is hk (So.neg (by simp) (.mk rfl))))))))
  ·unfold bT;exact So.eq (So.pos rfl (So.neg (by omega) (So.pos rfl (So.neg (by omega) (So.is hu (So.neg (by simp) (So.is hk (So.neg (by simp) (.mk rfl)))))))))
  ·unfold bT;exact So.eq (So.pos rfl (So.neg (by omega) (So.neg (by omega) (So.pos rfl (So.neg (by omega) (So.is hu (So.neg (by simp) (So.is hk (So.neg (by simp) (.mk rfl))))))))))
 ·rcases g4 with ⟨rfl,hk,rfl⟩ | ⟨rfl,hk,rfl⟩ | ⟨rfl,hk⟩
  ·unfold bT;exact So.eq (So.neg (by omega) (So.pos rfl (So.pos rfl (So.neg (by omega) (So.is hu (So.neg (by simp) (So.is hk (So.neg (by simp) (.mk rfl)))))))))
  ·unfold bT;exact So.eq (So.neg (by omega) (So.pos rfl (So.neg (by omega) (So.pos rfl (So.neg (by omega) (So.is hu (So.neg (by simp) (So.is hk (So.neg (by simp) (.mk rfl))))))))))
  ·unfold bT;exact So.eq (So.neg (by omega) (So.pos rfl (So.neg (by omega) (So.neg (by omega) (So.pos rfl (So.neg (by omega) (So.is hu (So.neg (by simp) (So.is hk (So.neg (by simp) (.mk rfl)))))))))))
 ·rw [<-e84 hl] at hu;rcases g4 with ⟨rfl,hk,rfl⟩ | ⟨rfl,hk,rfl⟩ | ⟨rfl,hk⟩
  ·unfold bT;exact So.eq (So.neg (by omega) (So.neg (by omega) (So.pos rfl (So.pos rfl (So.pos rfl (So.neg (by omega) (So.is hu (So.neg (by simp) (So.is hk (So.neg (by simp) (.mk rfl)))))))))))
  ·unfold bT;exact So.eq (So.neg (by omega) (So.neg (by omega) (So.pos rfl (So.neg (by omega) (So.pos rfl (So.pos rfl (So.neg (by omega) (So.is hu (So.neg (by simp) (So.is hk (So.neg (by simp) (.mk rfl))))))))))))
  ·unfold bT;exact So.eq (So.neg (by omega) (So.neg (by omega) (So.pos rfl (So.neg (by omega) (So.neg (by omega) (So.pos rfl (So.pos rfl (So.neg (by omega) (So.is hu (So.neg (by simp) (So.is hk (So.neg (by simp) (.mk rfl)))))))))))))
structure Pf where
 cd:Int
 sq:Int
 tm:Int
 mr:Bool
 qu:Int
 cs:Int×Int
 pk:Int
 oc:Int
def Pf.t (f:Pf):Int×(Int×(Int×(Bool×(Int×(Int×(Int×(Int×Int))))))):=(f.cd,(f.sq,(f.tm,(f.mr,(f.qu,(f.cs.1,(f.cs.2,(f.pk,f.oc))))))))
abbrev PKT:=Bool×(Int×(Int×(Int×(Int×(List Int×(Bool×(Int×(List Int×(List Int×Int)))))))))
def Ui (mk:Bool) (ty sq tm:Int) (py:List Int):PKT:=(mk,(ty,(sq,(tm,(7,([],(false,(0,([],(py,0))))))))))
def FV (f:Pf):Prop:=ET f.cd/\(0<=f.sq/\f.sq<=1000)/\(0<=f.tm/\f.tm<=15000)/\vF f.cs
def aaC (f:Pf) (r:(Int×(Int×(Int×(Bool×(Int×(Int×(Int×(Int×Int))))))))×(List PKT×Int)):Prop :=
 r.2.2=0/\∃f':Pf,r.1=f'.t/\f'.cd=f.cd/\f'.tm=f.tm+160/\vF f'.cs/\((r.2.1=[]/\f'.sq=f.sq/\10<=f.qu)\/(f'.sq=f.sq+1/\∃mk ty py,r.2.1=[Ui mk ty f.sq f.tm py]/\pO ty py/\(ty=13\/ty=f.cd)))
theorem akj:iJ (1,(1,(0,(false,(0,(0,(-1,(-1,(0,(0,([],(0,(0,0)))))))))))))=some true:=by
 refine ES (j:=⟨1,1,0,false,0,0,-1,-1,0,0,[],0,0,0⟩) ⟨⟨by simp,by simp,by simp,by simp,by simp,by simp,by simp,by simp,by simp,by simp,by simp,by simp⟩,fun _=>⟨rfl,rfl,rfl⟩,?_⟩;exact ⟨List.Pairwise.nil,List.Pairwise.nil,fun w hw=>by cases hw⟩
theorem adq {f:Pf} (h:FV f) {fr:List Int} (hl:fr.length=160) (hf:Oy fr):So (pq (f.t,fr)) (aaC f):=by
 obtain ⟨hc,hs,ht,hv⟩:=h;unfold pq;refine So.join (P:=(· = true)) (So.join (P:=fun _=>True) (So.is (lK hc) (So.if (fun h=>by cases h) fun _=>So.is (Z5 hv) (So.if (fun h=>by cases h) fun _=>So.is akj (So.if (fun h=>by cases h) fun _ => .inl trivial)))) fun _ _=>So.is aex (So.neg (by omega) (.inl rfl))) fun v hv' => ?_;subst hv';refine So.if (fun h=>by cases h) fun _=>So.neg (by rw [hl];simp) ?_;refine So.join (P:=fun _=>True) (So.join (P:=fun _=>True) (So.loop (fun _=>True) (fun _=>0) (fun _ _ => .out (.inl trivial)) trivial) fun _ _ => .inl trivial) fun _ _ => ?_;have e1:IntKind.wrap .u16 (f.sq+1)=f.sq+1:=by rw [Zt,Int.emod_eq_of_lt (by omega) (by omega)]
 have e2:IntKind.wrap .u32 (f.tm+160)=f.tm+160:=by rw [GX,Int.emod_eq_of_lt (by omega) (by omega)]
 refine So.bind (Q7 hl f.qu) fun q hq=>So.if (fun _=>So.dec (p:=f.qu<10) (fun _ => ?_) fun hq10 => .mk ?_) fun _ => ?_
 ·refine So.bind (Og hl) fun b hb=>So.is rfl (So.le (.mk ⟨rfl,⟨f.cd,f.sq+1,f.tm+160,true,q.1,f.cs,IntKind.wrap .u32 (f.pk+1),IntKind.wrap .u32 (f.oc+1)⟩,?_,rfl,rfl,hv,.inr ⟨rfl,false,13,[b],?_,.inl ⟨rfl,b,rfl,hb⟩,.inl rfl⟩⟩))
  ·show (f.cd,(IntKind.wrap .u16 (f.sq+1),(IntKind.wrap .u32 (f.tm+160),_)))=_;rw [e1,e2];rfl
  ·rfl
 ·refine ⟨rfl,⟨f.cd,f.sq,f.tm+160,true,q.1,f.cs,f.pk,f.oc⟩,?_,rfl,rfl,hv,.inl ⟨rfl,rfl,by omega⟩⟩;show (f.cd,(f.sq,(IntKind.wrap .u32 (f.tm+160),_)))=_;rw [e2];rfl
 ·obtain ⟨py,s',g1,g2,_,g4⟩:=enc3 hc hl hf hv;have hfin:∀(k:List PKT) (o:Int),k=[Ui f.mr f.cd f.sq f.tm py]->aaC f ((f.cd,(IntKind.wrap .u16 (f.sq+1),(IntKind.wrap .u32 (f.tm+160),(false,(q.1,(s'.1,(s'.2,(IntKind.wrap .u32 (f.pk+1),o)))))))),(k,0)):=fun k o hk=>by
   refine ⟨rfl,⟨f.cd,f.sq+1,f.tm+160,false,q.1,s',IntKind.wrap .u32 (f.pk+1),o⟩,?_,rfl,rfl,g2,.inr ⟨rfl,f.mr,f.cd,py,hk,g1,.inr rfl⟩⟩;rw [e1,e2];rfl
  rcases g4 with ⟨hc',hk,rfl⟩ | ⟨hc',hk,rfl⟩ | ⟨hc',hk⟩
  ·refine So.pos (p:=0=f.cd) hc'.symm (So.is hk (So.neg (by simp) (So.is rfl (So.le (.mk (hfin _ _ ?_))))));rfl
  ·refine So.neg (p:=0=f.cd) (by omega) (So.pos (p:=8=f.cd) hc'.symm (So.is hk (So.neg (by simp) (So.is rfl (So.le (.mk (hfin _ _ ?_)))))));rfl
  ·refine So.neg (p:=0=f.cd) (by omega) (So.neg (p:=8=f.cd) (by omega) (So.pos (p:=96=f.cd) hc'.symm (So.is hk (So.neg (by simp) (So.is rfl (So.le (.mk (hfin _ _ ?_))))))));rfl
abbrev UKy:U := .pair (.int .u8) (.pair .bool (.pair (.int .u32) (.int .i64)))
def cVl:List CS:=Zv++TK++[.pt 20000010 0,.dat (.int .i64),.dat (.int .i64),.own 20000051 62 (.list (.int .i16)),.dat (.list (.pair (.int .i64) (.int .i64))),.own 20000052 234 UKy,.own 20000053 31 (.int .u32),.dat (.int .i64),.dat (.int .i64),.dat (.int .i64),.dat (.int .i64),.dat (.int .i64),.dat (.int .i64),.dat (.int .i64),.dat .bool]
end Go.Proofs.YtigfeinnobfflaaGreat
