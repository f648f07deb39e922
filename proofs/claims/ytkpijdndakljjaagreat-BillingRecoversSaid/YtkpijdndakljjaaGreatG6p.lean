import Derived.Test.YtkpijdndakljjaaGreatY3p
import Derived.Test.YtkpijdndakljjaaGreatZrp
import Derived.Test.YtkpijdndakljjaaGreatV5p
set_option linter.unusedSimpArgs false
set_option linter.unusedVariables false
set_option maxRecDepth 100000
namespace Go.Proofs.YtkpijdndakljjaaGreat.Rt
open Go.RowKit
theorem Wq {α β:Type} {l:List α} {v:Int} (d:α) (f:α->Option β) (h:0<=v/\v<(l.length:Int)):ah l[Int.toNat v]? f=f (l.getD v.toNat d):=by rw [qN d (by omega)];rfl
theorem get_at {α:Type} {l:List α} {i:Nat} (d:α) (h:i<l.length):∃x,l.getD i d=x/\∀ {β:Type} (f:α->Option β),ah l[Int.toNat (i:Int)]? f=f x:=⟨_,rfl,fun f=>Wq d f (by omega)⟩
def Is (o:Option Bool) (P:Prop):Prop:=(P/\o=some true)\/(¬P/\o=some false)
theorem Is.t {P:Prop} (h:P):Is (some true) P := .inl ⟨h,rfl⟩
theorem Is.f {P:Prop} (h:¬P):Is (some false) P := .inr ⟨h,rfl⟩
theorem Is.d {P Q:Prop} [Decidable Q] (h:Q↔P):Is (some (decide Q)) P:=by
 by_cases k:Q
 ·exact .inl ⟨h.1 k,by rw [decide_eq_true k]⟩
 ·exact .inr ⟨fun p=>k (h.2 p),by rw [decide_eq_false k]⟩
theorem Is.eq {o o':Option Bool} {P:Prop} (h:Is o P) (k:Is o' P):o=o':=by
 rcases h with ⟨h,e⟩ | ⟨h,e⟩<;>rcases k with ⟨k,e'⟩ | ⟨k,e'⟩
 ·rw [e,e']
 ·exact (k h).elim
 ·exact (h k).elim
 ·rw [e,e']
theorem Is.and {γ:Type} {k:γ->Option Bool} {P Q:Prop} (x:Option (γ ⊕ Bool)) (h:(P/\∃g,x=some (.inl g)/\Is (k g) Q)\/(¬P/\x=some (.inr false))):Is (aB x k) (P/\Q):=by
 rcases h with ⟨h,g,e,hp⟩ | ⟨h,e⟩
 ·rw [e];show Is (k g) _;rcases hp with ⟨q,e'⟩ | ⟨q,e'⟩
  ·exact .inl ⟨⟨h,q⟩,e'⟩
  ·exact .inr ⟨fun k=>q k.2,e'⟩
 ·rw [e];exact .inr ⟨fun q=>h q.1,rfl⟩
theorem iJ {β:Type} (a b c:Int) (f:Bool->Option β):ah (bf (a,(b,c))) f=f (decide (b<=a/\a<=c)):=by
 have e:bf (a,(b,c))=bif decide (a>=b) then some (decide (a<=c)) else some false:=rfl;rw [e,aK];by_cases h:b<=a
 ·rw [if_pos (show a>=b from h)];simp [h,ay]
 ·rw [if_neg (show ¬a>=b from h)];simp [h,ay]
theorem rD {β:Type} (a:Int) (f:Bool->Option β):ah (dM a) f=f (decide (0<=a/\a<=1000000000)):=by
 have e:dM a=bif decide (a>=0) then some (decide (a<=1000000000)) else some false:=rfl;rw [e,aK];by_cases h:0<=a
 ·rw [if_pos (show a>=0 from h)];simp [h,ay]
 ·rw [if_neg (show ¬a>=0 from h)];simp [h,ay]
abbrev Uh (d f t:Int):Prop:=(1<=d/\d<=127)/\0<=f/\f<t/\t<=1440
theorem ag8 (d f t:Int):kY (d,(f,t))=some (decide (Uh d f t)):=by
 unfold kY;by_cases h1:1<=d<;>by_cases h2:d<=127<;>by_cases h3:0<=f<;>by_cases h4:f<t<;>simp [h1,h2,h3,h4,Uh]
theorem ag9 (d f t:Int):gW (d,(f,t))=some (decide (Uh d f t)):=by
 unfold gW;by_cases h1:1<=d<;>by_cases h2:d<=127<;>by_cases h3:0<=f<;>by_cases h4:f<t<;>simp [h1,h2,h3,h4,Uh]
abbrev Qz (a:Int):Prop:=0<=a/\a<=1000000000
abbrev Pok (p:tJ):Prop:=Uh p.1.1 p.1.2.1 p.1.2.2/\Qz p.2.1/\Qz p.2.2
theorem Jc {β:Type} (d f t:Int) (k:Bool->Option β):ah (gW (d,(f,t))) k=k (decide (Uh d f t)):=by rw [ag9];rfl
theorem Ui {β:Type} (p:tJ) (k:Bool->Option β):ah (gy (p.1.1,(p.1.2.1,(p.1.2.2,(p.2.1,p.2.2))))) k=k (decide (Pok p)):=by
 obtain ⟨⟨d,f,t⟩,m,n⟩:=p;have e:gy (d,(f,(t,(m,n))))=some (decide (Pok ((d,(f,t)),(m,n)))):=by
  unfold gy;simp only [ag8,ay];by_cases h:Uh d f t<;>by_cases h1:0<=m<;>by_cases h2:m<=1000000000<;>by_cases h3:0<=n<;>simp [h,h1,h2,h3,Pok,Qz]
 show ah (gy (d,(f,(t,(m,n))))) k=_;rw [e];rfl
abbrev p0:tJ:=((0,(0,0)),(0,0))
abbrev r0:Ra:=([],(0,(0,(0,[]))))
noncomputable def dgB (a1:List UInt8):Int->Option (Int ⊕ (Unit ⊕ Bool)) :=
(fun v8 =>
 bif (decide (v8<(a1.length:Int))) then
 bif (decide (((0:Int)<=v8)/\(v8<(a1.length:Int)))) then
 bif (decide ((((UInt8.toNat (List.getD a1 v8.toNat (0:UInt8))):Nat):Int)<(48:Int))) then
 au (au (some false))
 else
 bif (decide (((0:Int)<=v8)/\(v8<(a1.length:Int)))) then
 bif (decide ((((UInt8.toNat (List.getD a1 v8.toNat (0:UInt8))):Nat):Int) > (57:Int))) then
 au (au (some false))
 else
 some (Sum.inl (IntKind.wrap .i64 (v8+(1:Int))))
 else none
 else none
 else
 au (some (Sum.inl ())))
noncomputable def ppB (a5:List tJ):Int->Option (Int ⊕ (Unit ⊕ Bool)) :=
(fun v10 =>
 bif (decide (v10<(a5.length:Int))) then
 bif (decide (((0:Int)<=v10)/\(v10<(a5.length:Int)))) then
 ah a5[v10.toNat]? fun x11 =>
 ah (gy (x11.1.1,(x11.1.2.1,(x11.1.2.2,(x11.2.1,x11.2.2))))) fun x12 =>
 bif (!x12) then
 au (au (some false))
 else
 some (Sum.inl (IntKind.wrap .i64 (v10+(1:Int))))
 else none
 else
 au (some (Sum.inl ())))
noncomputable def prB (a5:List tJ):Int->Option (Int ⊕ (Unit ⊕ Bool)) :=
(fun v9 =>
 bif (decide (v9<(a5.length:Int))) then
 bif (decide (((0:Int)<=v9)/\(v9<(a5.length:Int)))) then
 ah a5[v9.toNat]? fun x10 =>
 ah (gW (x10.1.1,(x10.1.2.1,x10.1.2.2))) fun x11 =>
 bif (!x11) then
 au (au (some false))
 else
 ah (dM x10.2.1) fun x12 =>
 bif (!x12) then
 au (au (some false))
 else
 ah (dM x10.2.2) fun x13 =>
 bif (!x13) then
 au (au (some false))
 else
 some (Sum.inl (IntKind.wrap .i64 (v9+(1:Int))))
 else none
 else
 au (some (Sum.inl ())))
theorem QA (a1:List UInt8) (a2 a3 a4:Int) (a5:List tJ):eF (a1,(a2,(a3,(a4,a5)))) =
 aB (bif (decide ((a1.length:Int) > (20:Int))) then
 au (some false)
 else
 bif (decide (a2<(0:Int))) then
 au (some false)
 else
 bif (decide (a2 > (1000000000:Int))) then
 au (some false)
 else
 ah (bf (a3,((1:Int),(3600:Int)))) fun x6 =>
 bif (!x6) then
 au (some false)
 else
 ah (bf (a4,((1:Int),(3600:Int)))) fun x7 =>
 bif (!x7) then
 au (some false)
 else
 some (Sum.inl ())) fun _ =>
 aB (aA (dgB a1) (0:Int)) fun _ =>
 bif (decide ((a5.length:Int)<(1:Int))) then
  some false
 else
  bif (decide ((a5.length:Int) > (20:Int))) then
   some false
  else
   aB (aA (ppB a5) (0:Int)) fun _ =>
   ah (some (IntKind.wrap .i64 ((a5.length:Int)-(1:Int)))) fun x14 =>
   bif (decide (((0:Int)<=x14)/\(x14<(a5.length:Int)))) then
    ah a5[x14.toNat]? fun x15 =>
    some ((decide (x15.1.1=(127:Int)))&&((decide (x15.1.2.1=(0:Int)))&&(decide (x15.1.2.2=(1440:Int)))))
   else none:=rfl
theorem aha (a1:List UInt8) (a2 a3 a4:Int) (a5:List tJ):dG (a1,(a2,(a3,(a4,a5)))) =
 aB (bif (decide ((a1.length:Int) > (20:Int))) then
 au (some false)
 else
 ah (dM a2) fun x6 =>
 bif (!x6) then
 au (some false)
 else
 bif (decide (a3<(1:Int))) then
 au (some false)
 else
 bif (decide (a3 > (3600:Int))) then
 au (some false)
 else
 bif (decide (a4<(1:Int))) then
 au (some false)
 else
 bif (decide (a4 > (3600:Int))) then
 au (some false)
 else
 some (Sum.inl ())) fun _ =>
 aB (aA (dgB a1) (0:Int)) fun _ =>
 bif (decide ((a5.length:Int)<(1:Int))) then
  some false
 else
  bif (decide ((a5.length:Int) > (20:Int))) then
   some false
  else
   aB (aA (prB a5) (0:Int)) fun _ =>
   ah (some (IntKind.wrap .i64 ((a5.length:Int)-(1:Int)))) fun x15 =>
   bif (decide (((0:Int)<=x15)/\(x15<(a5.length:Int)))) then
    ah a5[x15.toNat]? fun x16 =>
    bif (decide (x16.1.1=(127:Int))) then
     bif (decide (x16.1.2.1=(0:Int))) then
      some (decide (x16.1.2.2=(1440:Int)))
     else
      some false
    else
     some false
   else none:=rfl
theorem Ae {body:Int->Option (Int ⊕ (Unit ⊕ Bool))} (n:Nat) (ok:Nat->Prop) (h1:∀i:Nat,i<n->ok i->body (i:Int)=some (.inl ((i+1:Nat):Int))) (h2:∀i:Nat,i<n->¬ok i->body (i:Int)=some (.inr (.inr false))) (h3:body (n:Int)=some (.inr (.inl ()))) :
 ((∀i,i<n->ok i)/\aA body (0:Int)=some (.inl ()))\/(¬(∀i,i<n->ok i)/\aA body (0:Int)=some (.inr false)):=by
 have hs:=pV (body:=body) (fun i=>(i:Int)) n (fun i=>¬ok i) (r0 := .inl ()) (r1 := .inr false) (x:=0) rfl (fun i hi hb=>h1 i hi (Classical.not_not.1 hb)) h2 h3;rcases hs with ⟨⟨i,hi,hb⟩,e⟩ | ⟨hn,e⟩
 ·exact .inr ⟨fun h=>hb (h i hi),e⟩
 ·exact .inl ⟨fun i hi=>Classical.byContradiction fun h=>hn ⟨i,hi,h⟩,e⟩
abbrev DgC (c:UInt8):Prop:=48<=c.toNat/\c.toNat<=57
def Dg (s:List UInt8):Prop:=∀i,i<s.length->DgC (s.getD i 0)
theorem Yt (a1:List UInt8) (hl:a1.length<=1000):(Dg a1/\aA (dgB a1) 0=some (.inl ()))\/(¬Dg a1/\aA (dgB a1) 0=some (.inr false)):=by
 refine Ae (body:=dgB a1) a1.length (fun i=>DgC (a1.getD i 0)) (fun i hi hb' => ?_) (fun i hi hb => ?_) ?_
 ·have hn:((i:Int)+1)=((i+1:Nat):Int):=rfl;unfold dgB;simp (disch:=(first | omega | (simp only [bM];omega))) only [↓aN,aQ,if_pos,if_neg,Int.toNat_natCast,aj,hn]
 ·unfold dgB;by_cases h:(a1.getD i 0).toNat<48
  ·simp (disch:=(first | omega | (simp only [bM];omega))) only [↓aN,aQ,if_pos,if_neg,Int.toNat_natCast]
  ·have h2:(a1.getD i 0).toNat > 57:=by unfold DgC at hb;omega
   simp (disch:=(first | omega | (simp only [bM];omega))) only [↓aN,aQ,if_pos,if_neg,Int.toNat_natCast]
 ·unfold dgB;simp (disch:=(first | omega | (simp only [bM];omega))) only [↓aN,aQ,if_pos,if_neg,Int.toNat_natCast]
def Pks (l:List tJ):Prop:=∀i,i<l.length->Pok (l.getD i p0)
theorem ahb (l:List tJ) (hl:l.length<=1000):(Pks l/\aA (ppB l) 0=some (.inl ()))\/(¬Pks l/\aA (ppB l) 0=some (.inr false)):=by
 refine Ae (body:=ppB l) l.length (fun i=>Pok (l.getD i p0)) (fun i hi hb' => ?_) (fun i hi hb => ?_) ?_
 ·obtain ⟨x,hx,hxb⟩:=get_at p0 hi;rw [hx] at hb';have hn:((i:Int)+1)=((i+1:Nat):Int):=rfl;unfold ppB;simp (disch:=(first | omega | (simp only [bM];omega))) only [↓aN,aQ,if_pos,if_neg,↓hxb,Ui,aj,hn,hb',decide_true]
 ·obtain ⟨x,hx,hxb⟩:=get_at p0 hi;rw [hx] at hb;unfold ppB;simp (disch:=(first | omega | (simp only [bM];omega))) only [↓aN,aQ,if_pos,if_neg,↓hxb,Ui,hb,decide_false]
 ·unfold ppB;simp (disch:=(first | omega | (simp only [bM];omega))) only [↓aN,aQ,if_pos,if_neg]
theorem ahc (l:List tJ) (hl:l.length<=1000):(Pks l/\aA (prB l) 0=some (.inl ()))\/(¬Pks l/\aA (prB l) 0=some (.inr false)):=by
 refine Ae (body:=prB l) l.length (fun i=>Pok (l.getD i p0)) (fun i hi hb' => ?_) (fun i hi hb => ?_) ?_
 ·obtain ⟨x,hx,hxb⟩:=get_at p0 hi;rw [hx] at hb';have hn:((i:Int)+1)=((i+1:Nat):Int):=rfl;unfold prB;simp (disch:=(first | omega | (simp only [bM];omega))) only [↓aN,aQ,if_pos,if_neg,↓hxb,Jc,rD,aj,hn,hb'.1,hb'.2.1,hb'.2.2,and_self,decide_true]
 ·obtain ⟨x,hx,hxb⟩:=get_at p0 hi;rw [hx] at hb;unfold prB;by_cases h1:Uh x.1.1 x.1.2.1 x.1.2.2
  ·by_cases h2:Qz x.2.1
   ·have h3:¬Qz x.2.2:=fun h=>hb ⟨h1,h2,h⟩;simp (disch:=(first | omega | (simp only [bM];omega))) only [↓aN,aQ,if_pos,if_neg,↓hxb,Jc,rD,h1,h2,h3,and_self,decide_true,decide_false]
   ·simp (disch:=(first | omega | (simp only [bM];omega))) only [↓aN,aQ,if_pos,if_neg,↓hxb,Jc,rD,h1,h2,and_self,decide_true,decide_false]
  ·simp (disch:=(first | omega | (simp only [bM];omega))) only [↓aN,aQ,if_pos,if_neg,↓hxb,Jc,rD,h1,decide_false]
 ·unfold prB;simp (disch:=(first | omega | (simp only [bM];omega))) only [↓aN,aQ,if_pos,if_neg]
abbrev Lst (p:tJ):Prop:=p.1.1=127/\p.1.2.1=0/\p.1.2.2=1440
abbrev RVa (a1:List UInt8) (a2 a3 a4:Int):Prop:=a1.length<=20/\Qz a2/\(1<=a3/\a3<=3600)/\(1<=a4/\a4<=3600)
abbrev RVl (l:List tJ):Prop:=(1<=l.length/\l.length<=20)/\Pks l/\Lst (l.getD (l.length-1) p0)
def RV (r:Ra):Prop:=RVa r.1 r.2.1 r.2.2.1 r.2.2.2.1/\Dg r.1/\RVl r.2.2.2.2
theorem vX (a1:List UInt8) (a2 a3 a4:Int) (a5:List tJ):Is (eF (a1,(a2,(a3,(a4,a5))))) (RV (a1,(a2,(a3,(a4,a5))))):=by
 rw [QA];refine Is.and _ ?_;by_cases h:RVa a1 a2 a3 a4
 ·obtain ⟨h1,h2,h3,h4⟩:=h;refine .inl ⟨⟨h1,h2,h3,h4⟩,(),?_,?_⟩
  ·simp (disch:=(first | omega | (simp only [bM];omega))) only [↓aN,aQ,if_pos,if_neg,iJ,h3,h4,and_self,decide_true]
  ·refine Is.and _ ?_;rcases Yt a1 (by omega) with ⟨d,e⟩ | ⟨d,e⟩
   ·refine .inl ⟨d,(),e,?_⟩;by_cases hl:1<=a5.length/\a5.length<=20
    ·simp (disch:=(first | omega | (simp only [bM];omega))) only [↓aN,aQ,if_pos,if_neg];rcases ahb a5 (by omega) with ⟨d,e⟩ | ⟨d,e⟩
     ·simp only [e,↓aN,aQ];obtain ⟨x,hx,hxb⟩:=get_at p0 (show a5.length-1<a5.length by omega);have hi:((a5.length:Int)-1)=((a5.length-1:Nat):Int):=by omega
      simp (disch:=(first | omega | (simp only [bM];omega))) only [↓aN,aQ,aj,hi,if_pos,↓hxb,ED];refine Is.d ?_;show _↔(_/\_/\Lst (a5.getD (a5.length-1) p0))
      rw [hx];exact ⟨fun k=>⟨hl,d,k⟩,fun k=>k.2.2⟩
     ·simp only [e,↓aN,aQ];exact Is.f fun k=>d k.2.1
    ·have:Is (some false) (RVl a5):=Is.f fun k=>hl k.1;rcases Nat.lt_or_ge a5.length 1 with k | k
     ·simp (disch:=(first | omega | (simp only [bM];omega))) only [↓aN,aQ,if_pos,if_neg];exact this
     ·simp (disch:=(first | omega | (simp only [bM];omega))) only [↓aN,aQ,if_pos,if_neg];exact this
   ·exact .inr ⟨d,e⟩
 ·refine .inr ⟨h,?_⟩;by_cases h1:a1.length<=20
  ·by_cases h2:0<=a2
   ·by_cases h3:a2<=1000000000
    ·by_cases h4:1<=a3/\a3<=3600
     ·have h5:¬(1<=a4/\a4<=3600):=fun k=>h ⟨h1,⟨h2,h3⟩,h4,k⟩;simp (disch:=(first | omega | (simp only [bM];omega))) only [↓aN,aQ,if_pos,if_neg,iJ,h4,h5,and_self,decide_true,decide_false]
     ·simp (disch:=(first | omega | (simp only [bM];omega))) only [↓aN,aQ,if_pos,if_neg,iJ,h4,decide_false]
    ·simp (disch:=(first | omega | (simp only [bM];omega))) only [↓aN,aQ,if_pos,if_neg]
   ·simp (disch:=(first | omega | (simp only [bM];omega))) only [↓aN,aQ,if_pos,if_neg]
  ·simp (disch:=(first | omega | (simp only [bM];omega))) only [↓aN,aQ,if_pos,if_neg]
theorem ahd (a1:List UInt8) (a2 a3 a4:Int) (a5:List tJ):Is (dG (a1,(a2,(a3,(a4,a5))))) (RV (a1,(a2,(a3,(a4,a5))))):=by
 rw [aha];refine Is.and _ ?_;by_cases h:RVa a1 a2 a3 a4
 ·obtain ⟨h1,h2,h3,h4⟩:=h;refine .inl ⟨⟨h1,h2,h3,h4⟩,(),?_,?_⟩
  ·simp (disch:=(first | omega | (simp only [bM];omega))) only [↓aN,aQ,if_pos,if_neg,rD,h2,and_self,decide_true]
  ·refine Is.and _ ?_;rcases Yt a1 (by omega) with ⟨d,e⟩ | ⟨d,e⟩
   ·refine .inl ⟨d,(),e,?_⟩;by_cases hl:1<=a5.length/\a5.length<=20
    ·simp (disch:=(first | omega | (simp only [bM];omega))) only [↓aN,aQ,if_pos,if_neg];rcases ahc a5 (by omega) with ⟨d,e⟩ | ⟨d,e⟩
     ·simp only [e,↓aN,aQ];obtain ⟨x,hx,hxb⟩:=get_at p0 (show a5.length-1<a5.length by omega);have hi:((a5.length:Int)-1)=((a5.length-1:Nat):Int):=by omega
      simp (disch:=(first | omega | (simp only [bM];omega))) only [↓aN,aQ,aj,hi,if_pos,↓hxb];have key:Is (some (decide (Lst x))) (RVl a5):=by
       refine Is.d ?_;show _↔(_/\_/\Lst (a5.getD (a5.length-1) p0))
       rw [hx];exact ⟨fun k=>⟨hl,d,k⟩,fun k=>k.2.2⟩
      by_cases k1:x.1.1=127
      ·by_cases k2:x.1.2.1=0
       ·simpa [k1,k2,Lst] using key
       ·simpa [k1,k2,Lst] using key
      ·simpa [k1,Lst] using key
     ·simp only [e,↓aN,aQ];exact Is.f fun k=>d k.2.1
    ·have:Is (some false) (RVl a5):=Is.f fun k=>hl k.1;rcases Nat.lt_or_ge a5.length 1 with k | k
     ·simp (disch:=(first | omega | (simp only [bM];omega))) only [↓aN,aQ,if_pos,if_neg];exact this
     ·simp (disch:=(first | omega | (simp only [bM];omega))) only [↓aN,aQ,if_pos,if_neg];exact this
   ·exact .inr ⟨d,e⟩
 ·refine .inr ⟨h,?_⟩;by_cases h1:a1.length<=20
  ·by_cases h2:Qz a2
   ·by_cases h3:1<=a3
    ·by_cases h4:a3<=3600
     ·by_cases h5:1<=a4
      ·have h6:¬a4<=3600:=fun k=>h ⟨h1,h2,⟨h3,h4⟩,⟨h5,k⟩⟩;simp (disch:=(first | omega | (simp only [bM];omega))) only [↓aN,aQ,if_pos,if_neg,rD,h2,and_self,decide_true]
      ·simp (disch:=(first | omega | (simp only [bM];omega))) only [↓aN,aQ,if_pos,if_neg,rD,h2,and_self,decide_true]
     ·simp (disch:=(first | omega | (simp only [bM];omega))) only [↓aN,aQ,if_pos,if_neg,rD,h2,and_self,decide_true]
    ·simp (disch:=(first | omega | (simp only [bM];omega))) only [↓aN,aQ,if_pos,if_neg,rD,h2,and_self,decide_true]
   ·simp (disch:=(first | omega | (simp only [bM];omega))) only [↓aN,aQ,if_pos,if_neg,rD,h2,decide_false]
  ·simp (disch:=(first | omega | (simp only [bM];omega))) only [↓aN,aQ,if_pos,if_neg]
theorem xG (a1:List UInt8) (a2 a3 a4:Int) (a5:List tJ):dG (a1,(a2,(a3,(a4,a5))))=eF (a1,(a2,(a3,(a4,a5)))):=(ahd a1 a2 a3 a4 a5).eq (vX a1 a2 a3 a4 a5)
noncomputable def vpB (a1:List Ra):(Int×List (List UInt8))->Option ((Int×List (List UInt8)) ⊕ (List (List UInt8) ⊕ Bool)) :=
(fun (v4,v5) =>
 bif (decide (v4<(a1.length:Int))) then
 bif (decide (((0:Int)<=v4)/\(v4<(a1.length:Int)))) then
 ah a1[v4.toNat]? fun x6 =>
 bif (decide (Membership.mem v5 x6.1)) then
 au (au (some false))
 else
 ah (eF (x6.1,(x6.2.1,(x6.2.2.1,(x6.2.2.2.1,x6.2.2.2.2))))) fun x7 =>
 bif (!x7) then
 au (au (some false))
 else
 some (Sum.inl ((IntKind.wrap .i64 (v4+(1:Int))),(Du v5 x6.1)))
 else none
 else
 au (some (Sum.inl v5)))
noncomputable def viB (a1:List Ra) (v3:Int):Int->Option (Int ⊕ (Int ⊕ (Int ⊕ (Unit ⊕ Bool)))) :=
(fun v6 =>
 bif (decide (v6<v3)) then
 bif (decide (((0:Int)<=v6)/\(v6<(a1.length:Int)))) then
 ah a1[v6.toNat]? fun x7 =>
 bif (decide (((0:Int)<=v3)/\(v3<(a1.length:Int)))) then
 ah a1[v3.toNat]? fun x8 =>
 bif (decide (x7.1=x8.1)) then
 au (au (au (au (some false))))
 else
 some (Sum.inl (IntKind.wrap .i64 (v6+(1:Int))))
 else none
 else none
 else
 au (some (Sum.inl v6)))
noncomputable def vrB (a1:List Ra):Int->Option (Int ⊕ (Unit ⊕ Bool)) :=
(fun v3 =>
 bif (decide (v3<(a1.length:Int))) then
 aB (bif (decide (((0:Int)<=v3)/\(v3<(a1.length:Int)))) then
 ah a1[v3.toNat]? fun x4 =>
 ah (dG (x4.1,(x4.2.1,(x4.2.2.1,(x4.2.2.2.1,x4.2.2.2.2))))) fun x5 =>
 bif (!x5) then
 au (au (au (some false)))
 else
 aA (viB a1 v3) (0:Int)
 else none) fun v10 =>
 some (Sum.inl (IntKind.wrap .i64 (v3+(1:Int))))
 else
 au (some (Sum.inl ())))
theorem aaO (a1:List Ra) (a2:Int):bC (a1,a2) =
 bif (decide ((a1.length:Int) > (1000:Int))) then
  some false
 else
  ah (bf (a2,((0:Int),(3600:Int)))) fun x3 =>
  bif (!x3) then
   some false
  else
   aB (aA (vpB a1) ((0:Int),([]:List (List UInt8)))) fun v9 =>
   some true:=rfl
theorem aaP (a1:List Ra) (a2:Int):bK (a1,a2) =
 aB (bif (decide ((a1.length:Int) > (1000:Int))) then
 au (some false)
 else
 bif (decide (a2<(0:Int))) then
 au (some false)
 else
 bif (decide (a2 > (3600:Int))) then
 au (some false)
 else
 some (Sum.inl ())) fun _ =>
 aB (aA (vrB a1) (0:Int)) fun _ =>
 some true:=rfl
noncomputable def fpB (a1:List Ra) (a3:List UInt8):(Int×Int)->Option ((Int×Int) ⊕ (Int ⊕ (Int×Bool))) :=
(fun (v5,v6) =>
 bif (decide (v5<(a1.length:Int))) then
 bif (decide (((0:Int)<=v5)/\(v5<(a1.length:Int)))) then
 ah a1[v5.toNat]? fun x7 =>
 ah (strings_HasPrefix (a3,x7.1)) fun x8 =>
 bif x8 then
 bif (decide (v6<(0:Int))) then
 some (Sum.inl ((IntKind.wrap .i64 (v5+(1:Int))),v5))
 else
 bif (decide (((0:Int)<=v6)/\(v6<(a1.length:Int)))) then
 ah a1[v6.toNat]? fun x10 =>
 bif (decide ((x7.1.length:Int) > (x10.1.length:Int))) then
 some (Sum.inl ((IntKind.wrap .i64 (v5+(1:Int))),v5))
 else
 some (Sum.inl ((IntKind.wrap .i64 (v5+(1:Int))),v6))
 else none
 else
 some (Sum.inl ((IntKind.wrap .i64 (v5+(1:Int))),v6))
 else none
 else
 au (some (Sum.inl v6)))
noncomputable def Yu (a1:List Ra) (a3:List UInt8) (v5:Int):Int->Option (Int ⊕ (Int ⊕ (Int ⊕ (Unit ⊕ (Int×Bool))))) :=
(fun v6 =>
 bif (decide (v6<(a1.length:Int))) then
 bif (decide (((0:Int)<=v6)/\(v6<(a1.length:Int)))) then
 ah a1[v6.toNat]? fun x7 =>
 bif (decide ((x7.1.length:Int)=v5)) then
 bif (decide (((0:Int)<=v6)/\(v6<(a1.length:Int)))) then
 ah a1[v6.toNat]? fun x8 =>
 ah (fM (a3,x8.1)) fun x9 =>
 bif x9 then
 au (au (au (au (some (v6,true)))))
 else
 some (Sum.inl (IntKind.wrap .i64 (v6+(1:Int))))
 else none
 else
 some (Sum.inl (IntKind.wrap .i64 (v6+(1:Int))))
 else none
 else
 au (some (Sum.inl v6)))
noncomputable def frB (a1:List Ra) (a3:List UInt8):Int->Option (Int ⊕ (Unit ⊕ (Int×Bool))) :=
(fun v5 =>
 bif (decide (v5>=(0:Int))) then
 aB (aA (Yu a1 a3 v5) (0:Int)) fun v12 =>
 some (Sum.inl (IntKind.wrap .i64 (v5-(1:Int))))
 else
 au (some (Sum.inl ())))
theorem Uj (a1:List Ra) (a2:Int) (a3:List UInt8):iy ((a1,a2),a3) =
 ah (bC (a1,a2)) fun x4 =>
 bif (!x4) then
  some ((0:Int),false)
 else
  aB (aA (fpB a1 a3) ((0:Int),(-1:Int))) fun v14 =>
  bif (decide (v14<(0:Int))) then
   some ((0:Int),false)
  else
   some (v14,true):=rfl
theorem Uk (a1:List Ra) (a2:Int) (a3:List UInt8):eX ((a1,a2),a3) =
 ah (bK (a1,a2)) fun x4 =>
 bif (!x4) then
  some ((0:Int),false)
 else
  aB (aA (frB a1 a3) (20:Int)) fun _ =>
  some ((0:Int),false):=rfl
theorem ny {β:Type} {body:Int->Option (Int ⊕ β)} (n:Nat) (p:Nat->Prop) (g:Nat->β) (r0:β) (h1:∀i:Nat,i<n->¬p i->body (i:Int)=some (.inl ((i+1:Nat):Int))) (h2:∀i:Nat,i<n->p i->body (i:Int)=some (.inr (g i))) (h3:body (n:Int)=some (.inr r0)) :
 (∃i,i<n/\p i/\(∀j,j<i->¬p j)/\aA body (0:Int)=some (g i))\/((∀i,i<n->¬p i)/\aA body (0:Int)=some r0):=by
 by_cases h:∃i,i<n/\p i
 ·obtain ⟨i,⟨k1,k2⟩,k3⟩:=least h;exact .inl ⟨i,k1,k2,fun j hj hp=>k3 j hj ⟨by omega,hp⟩,bQ (fun i=>(i:Int)) i rfl (fun j hj=>h1 j (by omega) fun hp=>k3 j hj ⟨by omega,hp⟩) (h2 i k1 k2)⟩
 ·exact .inr ⟨fun i hi hp=>h ⟨i,hi,hp⟩,bQ (fun i=>(i:Int)) n rfl (fun j hj=>h1 j hj fun hp=>h ⟨j,hj,hp⟩) h3⟩
theorem aed {ks:List (List UInt8)} {k u:List UInt8}:u∈Du ks k↔u=k\/u∈ks:=by
 unfold Du;by_cases h:k∈ks
 ·rw [if_pos h];exact ⟨.inr,fun h'=>h'.elim (fun e=>by rw [e];exact h) id⟩
 ·rw [if_neg h];simp [or_comm]
theorem Is.iff {o:Option Bool} {P Q:Prop} (h:Is o P) (k:P↔Q):Is o Q:=by
 rcases h with ⟨h,e⟩ | ⟨h,e⟩
 ·exact .inl ⟨k.1 h,e⟩
 ·exact .inr ⟨fun q=>h (k.2 q),e⟩
theorem Ws {β:Type} (x:Ra) {P:Prop} (f:Bool->Option β) (h:RV x):ah (eF (x.1,(x.2.1,(x.2.2.1,(x.2.2.2.1,x.2.2.2.2))))) f=f true:=by
 rcases vX x.1 x.2.1 x.2.2.1 x.2.2.2.1 x.2.2.2.2 with ⟨_,e⟩ | ⟨k,e⟩
 ·rw [e];rfl
 ·exact (k h).elim
theorem Yv {β:Type} (x:Ra) (f:Bool->Option β) (h:¬RV x):ah (eF (x.1,(x.2.1,(x.2.2.1,(x.2.2.2.1,x.2.2.2.2))))) f=f false:=by
 rcases vX x.1 x.2.1 x.2.2.1 x.2.2.2.1 x.2.2.2.2 with ⟨k,e⟩ | ⟨_,e⟩
 ·exact (h k).elim
 ·rw [e];rfl
def ks (l:List Ra):Nat->List (List UInt8)
 | 0=>[]
 | k+1=>Du (ks l k) (l.getD k r0).1
theorem Wu {l:List Ra} {u:List UInt8}:∀ {k:Nat},u∈ks l k↔∃i,i<k/\(l.getD i r0).1=u
 | 0=>by simp [ks]
 | k+1=>by
   rw [ks,aed,Wu];constructor
   ·rintro (h | ⟨i,h1,h2⟩)
    ·exact ⟨k,by omega,h.symm⟩
    ·exact ⟨i,by omega,h2⟩
   ·rintro ⟨i,h1,h2⟩;by_cases e:i=k
    ·subst e;exact .inl h2.symm
    ·exact .inr ⟨i,by omega,h2⟩
def Rok (l:List Ra) (i:Nat):Prop:=RV (l.getD i r0)/\∀k,k<i->(l.getD k r0).1≠(l.getD i r0).1
def TV (l:List Ra) (f:Int):Prop:=(l.length<=1000/\(0<=f/\f<=3600))/\∀i,i<l.length->Rok l i
theorem ahe (l:List Ra) (hl:l.length<=1000):((∀i,i<l.length->Rok l i)/\∃v,aA (vpB l) ((0:Int),[])=some (.inl v))\/(¬(∀i,i<l.length->Rok l i)/\aA (vpB l) ((0:Int),[])=some (.inr false)):=by
 have hs:=pV (body:=vpB l) (fun i=>((i:Int),ks l i)) l.length (fun i=>¬Rok l i) (r0 := .inl (ks l l.length)) (r1 := .inr false) (x:=((0:Int),[])) rfl
  (fun i hi hb=>by
    obtain ⟨h1,h2⟩:=Classical.not_not.1 hb;obtain ⟨x,hx,hxb⟩:=get_at r0 hi;have hm:¬x.1∈ks l i:=fun h=>by
     obtain ⟨k,k1,k2⟩:=Wu.1 h;exact h2 k k1 (by rw [hx];exact k2)
    rw [hx] at h1;have hn:((i:Int)+1)=((i+1:Nat):Int):=rfl;have hk:ks l (i+1)=Du (ks l i) x.1:=by rw [ks,hx]
    unfold vpB;simp (disch:=(first | omega | (simp only [bM];omega))) only [↓aN,aQ,if_pos,if_neg,↓hxb,hm,Ws x (P:=True) _ h1,aj,hn,hk,decide_false])
  (fun i hi hb=>by
    obtain ⟨x,hx,hxb⟩:=get_at r0 hi;unfold vpB;by_cases hm:x.1∈ks l i
    ·simp (disch:=(first | omega | (simp only [bM];omega))) only [↓aN,aQ,if_pos,if_neg,↓hxb,hm,decide_true]
    ·have h1:¬RV x:=fun h=>hb ⟨by rw [hx];exact h,fun k hk e=>hm (Wu.2 ⟨k,hk,by rw [hx] at e;exact e⟩)⟩;simp (disch:=(first | omega | (simp only [bM];omega))) only [↓aN,aQ,if_pos,if_neg,↓hxb,hm,Yv x _ h1,decide_false])
  (by unfold vpB;simp (disch:=(first | omega | (simp only [bM];omega))) only [↓aN,aQ,if_pos,if_neg])
 rcases hs with ⟨⟨i,hi,hb⟩,e⟩ | ⟨hn,e⟩
 ·exact .inr ⟨fun h=>hb (h i hi),e⟩
 ·exact .inl ⟨fun i hi=>Classical.byContradiction fun h=>hn ⟨i,hi,h⟩,_,e⟩
theorem Af (l:List Ra) (f:Int):Is (bC (l,f)) (TV l f):=by
 rw [aaO];by_cases h1:l.length<=1000
 ·by_cases h2:0<=f/\f<=3600
  ·simp (disch:=(first | omega | (simp only [bM];omega))) only [↓aN,aQ,if_pos,if_neg,iJ,h2,and_self,decide_true];rcases ahe l h1 with ⟨d,v,e⟩ | ⟨d,e⟩
   ·rw [e];exact Is.t ⟨⟨h1,h2⟩,d⟩
   ·rw [e];exact Is.f fun k=>d k.2
  ·simp (disch:=(first | omega | (simp only [bM];omega))) only [↓aN,aQ,if_pos,if_neg,iJ,h2,decide_false];exact Is.f fun k=>h2 k.1.2
 ·simp (disch:=(first | omega | (simp only [bM];omega))) only [↓aN,aQ,if_pos,if_neg];exact Is.f fun k=>h1 k.1.1
theorem Yw (l:List Ra) {i:Nat} (hi:i<l.length) (hl:l.length<=1000):((∀k,k<i->(l.getD k r0).1≠(l.getD i r0).1)/\aA (viB l i) (0:Int)=some (.inl (i:Int)))\/(¬(∀k,k<i->(l.getD k r0).1≠(l.getD i r0).1)/\aA (viB l i) (0:Int)=some (.inr (.inr (.inr false)))):=by
 obtain ⟨y,hy,hyb⟩:=get_at r0 hi
 rcases ny (body:=viB l i) i (fun k=>(l.getD k r0).1=(l.getD i r0).1) (fun _ => .inr (.inr (.inr false))) (.inl (i:Int))
  (fun k hk hb=>by
    obtain ⟨x,hx,hxb⟩:=get_at r0 (show k<l.length by omega);rw [hx,hy] at hb;have hn:((k:Int)+1)=((k+1:Nat):Int):=rfl;unfold viB;simp (disch:=(first | omega | (simp only [bM];omega))) only [↓aN,aQ,if_pos,if_neg,↓hxb,↓hyb,hb,aj,hn,decide_false])
  (fun k hk hb=>by
    obtain ⟨x,hx,hxb⟩:=get_at r0 (show k<l.length by omega);rw [hx,hy] at hb;unfold viB;simp (disch:=(first | omega | (simp only [bM];omega))) only [↓aN,aQ,if_pos,if_neg,↓hxb,↓hyb,hb,decide_true])
  (by unfold viB;simp (disch:=(first | omega | (simp only [bM];omega))) only [↓aN,aQ,if_pos,if_neg]) with ⟨k,h1,h2,_,e⟩ | ⟨h,e⟩
 ·exact .inr ⟨fun g=>g k h1 h2,e⟩
 ·exact .inl ⟨h,e⟩
theorem ahf (l:List Ra) (hl:l.length<=1000):((∀i,i<l.length->Rok l i)/\aA (vrB l) (0:Int)=some (.inl ()))\/(¬(∀i,i<l.length->Rok l i)/\aA (vrB l) (0:Int)=some (.inr false)):=by
 refine Ae (body:=vrB l) l.length (Rok l) (fun i hi hb => ?_) (fun i hi hb => ?_) ?_
 ·obtain ⟨h1,h2⟩:=hb;obtain ⟨x,hx,hxb⟩:=get_at r0 hi;rw [hx] at h1;have hn:((i:Int)+1)=((i+1:Nat):Int):=rfl;rcases Yw l hi hl with ⟨_,e⟩ | ⟨k,_⟩
  ·unfold vrB;simp (disch:=(first | omega | (simp only [bM];omega))) only [↓aN,aQ,if_pos,if_neg,↓hxb,xG,Ws x (P:=True) _ h1,e,aj,hn]
  ·exact (k h2).elim
 ·obtain ⟨x,hx,hxb⟩:=get_at r0 hi;by_cases h1:RV x
  ·have h2:¬ ∀k,k<i->(l.getD k r0).1≠(l.getD i r0).1:=fun k=>hb ⟨by rw [hx];exact h1,k⟩;rcases Yw l hi hl with ⟨k,_⟩ | ⟨_,e⟩
   ·exact (h2 k).elim
   ·unfold vrB;simp (disch:=(first | omega | (simp only [bM];omega))) only [↓aN,aQ,if_pos,if_neg,↓hxb,xG,Ws x (P:=True) _ h1,e]
  ·unfold vrB;simp (disch:=(first | omega | (simp only [bM];omega))) only [↓aN,aQ,if_pos,if_neg,↓hxb,xG,Yv x _ h1]
 ·unfold vrB;simp (disch:=(first | omega | (simp only [bM];omega))) only [↓aN,aQ,if_pos,if_neg]
theorem Ul (l:List Ra) (f:Int):Is (bK (l,f)) (TV l f):=by
 rw [aaP];refine Is.and _ ?_;by_cases h1:l.length<=1000
 ·by_cases h2:0<=f
  ·by_cases h3:f<=3600
   ·refine .inl ⟨⟨h1,h2,h3⟩,(),by simp (disch:=(first | omega | (simp only [bM];omega))) only [↓aN,aQ,if_pos,if_neg],?_⟩;rcases ahf l h1 with ⟨d,e⟩ | ⟨d,e⟩
    ·rw [e];exact Is.t d
    ·rw [e];exact Is.f d
   ·exact .inr ⟨fun k=>h3 k.2.2,by simp (disch:=(first | omega | (simp only [bM];omega))) only [↓aN,aQ,if_pos,if_neg]⟩
  ·exact .inr ⟨fun k=>h2 k.2.1,by simp (disch:=(first | omega | (simp only [bM];omega))) only [↓aN,aQ,if_pos,if_neg]⟩
 ·exact .inr ⟨fun k=>h1 k.1,by simp (disch:=(first | omega | (simp only [bM];omega))) only [↓aN,aQ,if_pos,if_neg]⟩
theorem nC (l:List Ra) (f:Int):bK (l,f)=bC (l,f):=(Ul l f).eq (Af l f)
abbrev Bg (num p:List UInt8):Prop:=p.length<=num.length/\num.take p.length=p
theorem aee {β:Type} (num p:List UInt8) (f:Bool->Option β):ah (fM (num,p)) f=f (decide (Bg num p)):=by
 have e:fM (num,p)=some (decide (Bg num p)):=by
  unfold fM;by_cases h:p.length<=num.length
  ·simp (disch:=omega) only [↓aN,aQ,if_pos,if_neg,Int.toNat_natCast,Bg,h,true_and]
  ·simp (disch:=omega) only [↓aN,aQ,if_pos,if_neg,Bg,h,false_and,decide_false]
 rw [e];rfl
theorem QB {β:Type} (num p:List UInt8) (f:Bool->Option β):ah (strings_HasPrefix (num,p)) f=f (decide (Bg num p)):=by
 have e:strings_HasPrefix (num,p)=some (decide (Bg num p)):=by
  unfold strings_HasPrefix;by_cases h:p.length<=num.length
  ·simp (disch:=omega) only [↓aN,aQ,if_pos,if_neg,Int.toNat_natCast,Bg,h,true_and]
  ·simp (disch:=omega) only [↓aN,aQ,if_pos,if_neg,Bg,h,false_and,decide_false]
 rw [e];rfl
abbrev Mt (l:List Ra) (num:List UInt8) (i:Nat):Prop:=Bg num (l.getD i r0).1
def FB (l:List Ra) (num:List UInt8) (n:Nat) (x:Int):Prop:=(x = -1/\∀j,j<n->¬Mt l num j)\/∃i:Nat,i<n/\x=(i:Int)/\Mt l num i/\∀j,j<n->Mt l num j->(l.getD j r0).1.length<=(l.getD i r0).1.length
theorem ahg (l:List Ra) (num:List UInt8) (hl:l.length<=1000):∃r,aA (fpB l num) ((0:Int),(-1:Int))=some r/\∃x,r = .inl x/\FB l num l.length x:=by
 refine Dh (fun s=>∃(k:Nat) (x:Int),s=((k:Int),x)/\k<=l.length/\FB l num k x) _ (fun s=>l.length-s.1.toNat) (fun s hs => ?_) ⟨0,-1,rfl,by omega,.inl ⟨rfl,fun j hj=>by omega⟩⟩;obtain ⟨k,x,rfl,hk,hF⟩:=hs;by_cases ck:k<l.length
 ·refine .inr ?_;obtain ⟨y,hy,hyb⟩:=get_at r0 ck;have hn:((k:Int)+1)=((k+1:Nat):Int):=rfl;have hlt:l.length-(((k+1:Nat):Int)).toNat<l.length-((k:Nat):Int).toNat:=by rw [Int.toNat_natCast,Int.toNat_natCast];omega
  by_cases hm:Bg num y.1
  ·have hmk:Mt l num k:=by unfold Mt;rw [hy];exact hm
   rcases hF with ⟨rfl,hno⟩ | ⟨i,hi,rfl,hmi,hmax⟩
   ·refine ⟨(((k+1:Nat):Int),(k:Int)),?_,⟨k+1,_,rfl,by omega,.inr ⟨k,by omega,rfl,hmk,fun j hj hmj => ?_⟩⟩,hlt⟩
    ·unfold fpB;simp (disch:=(first | omega | (simp only [bM];omega))) only [↓aN,aQ,if_pos,if_neg,↓hyb,QB,hm,aj,hn,decide_true]
    ·by_cases e:j=k
     ·subst e;exact Nat.le_refl _
     ·exact (hno j (by omega) hmj).elim
   ·obtain ⟨z,hz,hzb⟩:=get_at r0 (show i<l.length by omega);by_cases hg:z.1.length<y.1.length
    ·refine ⟨(((k+1:Nat):Int),(k:Int)),?_,⟨k+1,_,rfl,by omega,.inr ⟨k,by omega,rfl,hmk,fun j hj hmj => ?_⟩⟩,hlt⟩
     ·unfold fpB;simp (disch:=(first | omega | (simp only [bM];omega))) only [↓aN,aQ,if_pos,if_neg,↓hyb,↓hzb,QB,hm,aj,hn,decide_true]
     ·by_cases e:j=k
      ·subst e;exact Nat.le_refl _
      ·have:=hmax j (by omega) hmj;rw [hz] at this;rw [hy];omega
    ·refine ⟨(((k+1:Nat):Int),(i:Int)),?_,⟨k+1,_,rfl,by omega,.inr ⟨i,by omega,rfl,hmi,fun j hj hmj => ?_⟩⟩,hlt⟩
     ·unfold fpB;simp (disch:=(first | omega | (simp only [bM];omega))) only [↓aN,aQ,if_pos,if_neg,↓hyb,↓hzb,QB,hm,aj,hn,decide_true]
     ·by_cases e:j=k
      ·subst e;rw [hy,hz];omega
      ·exact hmax j (by omega) hmj
  ·have hmk:¬Mt l num k:=by unfold Mt;rw [hy];exact hm
   refine ⟨(((k+1:Nat):Int),x),?_,⟨k+1,_,rfl,by omega,?_⟩,hlt⟩
   ·unfold fpB;simp (disch:=(first | omega | (simp only [bM];omega))) only [↓aN,aQ,if_pos,if_neg,↓hyb,QB,hm,aj,hn,decide_false]
   ·rcases hF with ⟨rfl,hno⟩ | ⟨i,hi,rfl,hmi,hmax⟩
    ·refine .inl ⟨rfl,fun j hj hmj => ?_⟩;by_cases e:j=k
     ·subst e;exact hmk hmj
     ·exact hno j (by omega) hmj
    ·refine .inr ⟨i,by omega,rfl,hmi,fun j hj hmj => ?_⟩;by_cases e:j=k
     ·subst e;exact (hmk hmj).elim
     ·exact hmax j (by omega) hmj
 ·obtain rfl:k=l.length:=by omega
  refine .inl ⟨.inl x,?_,x,rfl,hF⟩;unfold fpB;simp (disch:=(first | omega | (simp only [bM];omega))) only [↓aN,aQ,if_pos,if_neg]
def FX (l:List Ra) (num:List UInt8) (r:Int×Bool):Prop:=(r=(0,false)/\∀j,j<l.length->¬Mt l num j)\/∃i:Nat,i<l.length/\r=((i:Int),true)/\Mt l num i/\∀j,j<l.length->Mt l num j->(l.getD j r0).1.length<=(l.getD i r0).1.length
theorem FX.uniq {l:List Ra} {num:List UInt8} {f:Int} (hv:TV l f) {r r':Int×Bool} (h:FX l num r) (h':FX l num r'):r=r':=by
 rcases h with ⟨rfl,h⟩ | ⟨i,hi,rfl,hm,hx⟩<;>rcases h' with ⟨rfl,h'⟩ | ⟨i',hi',rfl,hm',hx'⟩
 ·rfl
 ·exact (h i' hi' hm').elim
 ·exact (h' i hi hm).elim
 ·have e1:=hx i' hi' hm';have e2:=hx' i hi hm;have e3:(l.getD i r0).1=(l.getD i' r0).1:=by
   rw [<-hm.2,<-hm'.2,show (l.getD i r0).1.length=(l.getD i' r0).1.length from by omega]
  have:i=i':=by
   rcases Nat.lt_trichotomy i i' with k | k | k
   ·exact ((hv.2 i' hi').2 i k e3).elim
   ·exact k
   ·exact ((hv.2 i hi).2 i' k e3.symm).elim
  rw [this]
theorem ahh {l:List Ra} {f:Int} (num:List UInt8) (hv:TV l f):∃r,iy ((l,f),num)=some r/\FX l num r:=by
 rw [Uj];have e:bC (l,f)=some true:=by
  rcases Af l f with ⟨_,e⟩ | ⟨k,_⟩
  ·exact e
  ·exact (k hv).elim
 obtain ⟨r,hr,x,rfl,hF⟩:=ahg l num hv.1.1;simp only [e,↓aN,aQ,hr];rcases hF with ⟨rfl,h⟩ | ⟨i,hi,rfl,hm,hx⟩
 ·exact ⟨(0,false),by simp (disch:=omega) only [↓aN,aQ,if_pos],.inl ⟨rfl,h⟩⟩
 ·exact ⟨((i:Int),true),by simp (disch:=omega) only [↓aN,aQ,if_neg],.inr ⟨i,hi,rfl,hm,hx⟩⟩
theorem aef {l:List Ra} {f:Int} (num:List UInt8) (hv:¬TV l f):iy ((l,f),num)=some (0,false)/\eX ((l,f),num)=some (0,false):=by
 have e:bC (l,f)=some false:=by
  rcases Af l f with ⟨k,_⟩ | ⟨_,e⟩
  ·exact (hv k).elim
  ·exact e
 rw [Uj,Uk,nC,e];exact ⟨rfl,rfl⟩
theorem Jd (l:List Ra) (num:List UInt8) (v:Int) (hl:l.length<=1000):(∃i:Nat,i<l.length/\(((l.getD i r0).1.length:Int)=v/\Mt l num i)/\aA (Yu l num v) (0:Int)=some (.inr (.inr (.inr ((i:Int),true)))))\/((∀i,i<l.length->¬(((l.getD i r0).1.length:Int)=v/\Mt l num i))/\aA (Yu l num v) (0:Int)=some (.inl (l.length:Int))):=by
 rcases ny (body:=Yu l num v) l.length (fun k=>((l.getD k r0).1.length:Int)=v/\Mt l num k) (fun i => .inr (.inr (.inr ((i:Int),true)))) (.inl (l.length:Int))
  (fun k hk hb=>by
    obtain ⟨x,hx,hxb⟩:=get_at r0 hk;unfold Mt at hb;rw [hx] at hb;have hn:((k:Int)+1)=((k+1:Nat):Int):=rfl;unfold Yu;by_cases h1:(x.1.length:Int)=v
    ·have h2:¬Bg num x.1:=fun k=>hb ⟨h1,k⟩;simp (disch:=(first | omega | (simp only [bM];omega))) only [↓aN,aQ,if_pos,if_neg,↓hxb,aee,h2,aj,hn,decide_false]
    ·simp (disch:=(first | omega | (simp only [bM];omega))) only [↓aN,aQ,if_pos,if_neg,↓hxb,aj,hn])
  (fun k hk hb=>by
    obtain ⟨x,hx,hxb⟩:=get_at r0 hk;unfold Mt at hb;rw [hx] at hb;obtain ⟨h1,h2⟩:=hb;unfold Yu;simp (disch:=(first | omega | (simp only [bM];omega))) only [↓aN,aQ,if_pos,if_neg,↓hxb,aee,h2,decide_true])
  (by unfold Yu;simp (disch:=(first | omega | (simp only [bM];omega))) only [↓aN,aQ,if_pos,if_neg]) with ⟨k,h1,h2,_,e⟩ | ⟨h,e⟩
 ·exact .inl ⟨k,h1,h2,e⟩
 ·exact .inr ⟨h,e⟩
theorem ahi {l:List Ra} {f:Int} (num:List UInt8) (hv:TV l f):∃r,eX ((l,f),num)=some r/\FX l num r:=by
 rw [Uk];have e:bK (l,f)=some true:=by
  rcases Ul l f with ⟨_,e⟩ | ⟨k,_⟩
  ·exact e
  ·exact (k hv).elim
 simp only [e,↓aN,aQ];refine TS (I:=fun v => -1<=v/\v<=20/\∀j,j<l.length->Mt l num j->((l.getD j r0).1.length:Int)<=v) (fun v=>(v+1).toNat) (fun o=>∃r,o=some r/\FX l num r) (fun v hI => ?_) ⟨by decide,by decide,fun j hj _ => ?_⟩
 ·obtain ⟨h1,h2,h3⟩:=hI;unfold frB;by_cases c:0<=v
  ·rcases Jd l num v hv.1.1 with ⟨i,hi,⟨k1,k2⟩,e⟩ | ⟨hno,e⟩
   ·simp (disch:=omega) only [↓aN,aQ,if_pos,e];exact vV.stop ⟨_,rfl,.inr ⟨i,hi,rfl,k2,fun j hj hm=>by have:=h3 j hj hm;omega⟩⟩
   ·simp (disch:=omega) only [↓aN,aQ,if_pos,e,aj];refine vV.next ⟨by omega,by omega,fun j hj hm => ?_⟩ (by omega);have k1:=h3 j hj hm;have k2:=hno j hj;have k3:¬(((l.getD j r0).1.length:Int)=v):=fun k=>k2 ⟨k,hm⟩;omega
  ·simp (disch:=omega) only [↓aN,aQ,if_neg];exact vV.stop ⟨_,rfl,.inl ⟨rfl,fun j hj hm=>by have:=h3 j hj hm;omega⟩⟩
 ·have:=(hv.2 j hj).1.1.1;omega
theorem Gu (l:List Ra) (f:Int) (num:List UInt8):∃r,iy ((l,f),num)=some r/\eX ((l,f),num)=some r/\(TV l f->FX l num r)/\(¬TV l f->r=(0,false)):=by
 by_cases h:TV l f
 ·obtain ⟨r,e1,k1⟩:=ahh num h;obtain ⟨r',e2,k2⟩:=ahi num h;rw [k2.uniq h k1] at e2;exact ⟨r,e1,e2,fun _=>k1,fun k=>(k h).elim⟩
 ·obtain ⟨e1,e2⟩:=aef num h;exact ⟨_,e1,e2,fun k=>(h k).elim,fun _=>rfl⟩
noncomputable def paB (a1:List tJ) (x4 x6:Int):Int->Option (Int ⊕ (Unit ⊕ Int)) :=
(fun v7 =>
 bif (decide (v7<(a1.length:Int))) then
 bif (decide (((0:Int)<=v7)/\(v7<(a1.length:Int)))) then
 ah a1[v7.toNat]? fun x8 =>
 bif (decide ((0:Int)<=x4)) then
 bif (decide ((IntKind.wrap .u8 (((BitVec.toNat ((BitVec.ofInt 8 (Int.fdiv x8.1.1 ((2:Int) ^ (Min.min x4.toNat 8)))) &&& (BitVec.ofInt 8 (1:Int)))):Nat):Int))=(1:Int))) then
 bif (decide (x6>=x8.1.2.1)) then
 bif (decide (x6<x8.1.2.2)) then
 au (au (some v7))
 else
 some (Sum.inl (IntKind.wrap .i64 (v7+(1:Int))))
 else
 some (Sum.inl (IntKind.wrap .i64 (v7+(1:Int))))
 else
 some (Sum.inl (IntKind.wrap .i64 (v7+(1:Int))))
 else none
 else none
 else
 au (some (Sum.inl ())))
theorem Wv (a1:List tJ) (a2:Int):fP (a1,a2) =
 ah (some (Int.tmod (IntKind.wrap .i64 (Int.tdiv a2 (86400000:Int))) (7:Int))) fun x4 =>
 ah (some (Int.tmod (IntKind.wrap .i64 (Int.tdiv a2 (60000:Int))) (1440:Int))) fun x6 =>
 aB (aA (paB a1 x4 x6) (0:Int)) fun _ =>
 some (-1:Int):=rfl
noncomputable def btB (a1:Int):(Int×Int)->Option ((Int×Int) ⊕ (Int ⊕ Int)) :=
(fun (v2,v3) =>
 bif (decide (v2<a1)) then
 some (Sum.inl ((IntKind.wrap .i64 (v2+(1:Int))),(IntKind.wrap .i64 ((2:Int)*v3))))
 else
 au (some (Sum.inl v3)))
theorem alM (a1:Int):kH a1 =
 aB (aA (btB a1) ((0:Int),(1:Int))) fun v6 =>
 some v6:=rfl
noncomputable def Wx (a5:List tJ) (a6:Int):Int->Option (Int ⊕ (Unit ⊕ (Int×Bool))) :=
(fun v8 =>
 bif (decide (v8<(a5.length:Int))) then
 bif (decide (((0:Int)<=v8)/\(v8<(a5.length:Int)))) then
 ah a5[v8.toNat]? fun x9 =>
 ah (eY ((x9.1.1,(x9.1.2.1,x9.1.2.2)),a6)) fun x10 =>
 bif x10 then
 au (au (some (v8,true)))
 else
 some (Sum.inl (IntKind.wrap .i64 (v8+(1:Int))))
 else none
 else
 au (some (Sum.inl ())))
theorem aaQ (a1:List UInt8) (a2 a3 a4:Int) (a5:List tJ) (a6:Int):fD ((a1,(a2,(a3,(a4,a5)))),a6) =
 aB (ah (dG (a1,(a2,(a3,(a4,a5))))) fun x7 =>
 bif (!x7) then
 au (some ((0:Int),false))
 else
 bif (decide (a6<(0:Int))) then
 au (some ((0:Int),false))
 else
 bif (decide (a6 > (562949953421312:Int))) then
 au (some ((0:Int),false))
 else
 some (Sum.inl ())) fun _ =>
 aB (aA (Wx a5 a6) (0:Int)) fun _ =>
 some ((0:Int),false):=rfl
def SE (a b:Int):Int:=if 0<=a/\a<=b/\b<=281474976710656 then (b-a+999) / 1000 else 0
theorem qP (a b:Int):cZ (a,b)=some (SE a b):=by
 unfold cZ SE;by_cases h1:0<=a/\a<=281474976710656
 ·by_cases h2:a<=b/\b<=281474976710656
  ·rw [if_pos (show 0<=a/\a<=b/\b<=281474976710656 by omega)];simp (disch:=omega) only [↓aN,aQ,iJ,h1,h2,and_self,decide_true,aj];rw [Int.tdiv_eq_ediv_of_nonneg (by omega)];rw [aj (by omega)]
  ·rw [if_neg (by omega)];simp (disch:=omega) only [↓aN,aQ,iJ,h1,h2,and_self,decide_true,decide_false]
 ·rw [if_neg (by omega)];simp (disch:=omega) only [↓aN,aQ,iJ,h1,decide_false]
abbrev Spn (a b:Int):Prop:=0<=a/\a<=b/\b<=281474976710656
theorem Gv {β:Type} (a b:Int) (f:Bool->Option β):ah (fO (a,b)) f=f (decide (Spn a b)):=by
 have e:fO (a,b)=some (decide (Spn a b)):=by
  unfold fO;by_cases h1:0<=a
  ·by_cases h2:0<=b
   ·by_cases h3:a<=281474976710656
    ·by_cases h4:b<=281474976710656
     ·simp (disch:=omega) only [↓aN,aQ,if_pos];exact congrArg some (decide_eq_decide.2 ⟨fun k=>⟨h1,k,h4⟩,fun k=>k.2.1⟩)
     ·simp (disch:=omega) only [↓aN,aQ,if_pos,if_neg];rw [decide_eq_false (show ¬Spn a b by omega)]
    ·simp (disch:=omega) only [↓aN,aQ,if_pos,if_neg];rw [decide_eq_false (show ¬Spn a b by omega)]
   ·simp (disch:=omega) only [↓aN,aQ,if_pos,if_neg];rw [decide_eq_false (show ¬Spn a b by omega)]
  ·simp (disch:=omega) only [↓aN,aQ,if_pos,if_neg];rw [decide_eq_false (show ¬Spn a b by omega)]
 rw [e];rfl
theorem yF (a b:Int):bH (a,b)=some (SE a b):=by
 unfold bH SE;by_cases h:Spn a b
 ·rw [if_pos h];have h':=h;obtain ⟨h1,h2,h3⟩:=h';simp (disch:=omega) only [↓aN,aQ,Gv,h,decide_true,aj];rw [Int.tdiv_eq_ediv_of_nonneg (by omega),Int.tmod_eq_emod_of_nonneg (by omega)];rw [aj (n:=(b-a) / 1000) (by omega)];by_cases k:(b-a) % 1000 > 0
  ·rw [if_pos k,aj (n:=(b-a) / 1000+1) (by omega)];congr 1;omega
  ·rw [if_neg k];congr 1;omega
 ·rw [if_neg h];simp (disch:=omega) only [↓aN,aQ,Gv,h,decide_false]
theorem Lu (a b:Int):0<=SE a b/\SE a b<=300000000000:=by
 unfold SE;split<;>omega
def wkd (a:Int):Int:=(a / 86400000) % 7
def mnt (a:Int):Int:=(a / 60000) % 1440
def CT (p:tJ) (a:Int):Prop:=(p.1.1 / (2:Int) ^ (wkd a).toNat) % 2=1/\p.1.2.1<=mnt a/\mnt a<p.1.2.2
instance (p:tJ) (a:Int):Decidable (CT p a):=by unfold CT;infer_instance
theorem wrap_u8' {n:Int} (h:0<=n/\n<=255):IntKind.wrap .u8 n=n:=by
 show (if (false&&decide (n % 256>=128))=true then n % 256-256 else n % 256)=n;simp only [Bool.false_and,Bool.false_eq_true,if_false];omega
theorem EO (k:Nat):(0:Int)<2 ^ k:=Int.pow_pos (by decide)
theorem Yx {d:Int} (k:Nat) (hd:0<=d/\d<=255) (hk:k<=8):(IntKind.wrap .u8 (((BitVec.toNat ((BitVec.ofInt 8 (Int.fdiv d ((2:Int) ^ (Min.min k 8)))) &&& (BitVec.ofInt 8 (1:Int)))):Nat):Int))=(d / (2:Int) ^ k) % 2:=by
 rw [show Min.min k 8=k from by omega,Int.fdiv_eq_ediv_of_nonneg _ (by have:=EO k;omega)];have h0:0<=d / (2:Int) ^ k:=Int.ediv_nonneg hd.1 (by have:=EO k;omega);have h1:d / (2:Int) ^ k<=d:=Int.ediv_le_self _ hd.1;generalize d / (2:Int) ^ k=X at *
 rw [BitVec.toNat_and,BitVec.toNat_ofInt,BitVec.toNat_ofInt];have e1:((1:Int) % ((2 ^ 8:Nat):Int)).toNat=1:=rfl;rw [e1,Nat.and_one_is_mod];have e2:(X % ((2 ^ 8:Nat):Int)).toNat=X.toNat:=by
  rw [Int.emod_eq_of_lt h0 (by show X<256;omega)]
 rw [e2];have e3:((X.toNat % 2:Nat):Int)=X % 2:=by omega
 rw [e3];exact wrap_u8' (by omega)
theorem aos {a:Int} (h:0<=a/\a<=4000000000000000000):Int.tmod (IntKind.wrap .i64 (Int.tdiv a (86400000:Int))) (7:Int)=wkd a:=by
 rw [Int.tdiv_eq_ediv_of_nonneg h.1,aj (by omega),Int.tmod_eq_emod_of_nonneg (by omega)];rfl
theorem aot {a:Int} (h:0<=a/\a<=4000000000000000000):Int.tmod (IntKind.wrap .i64 (Int.tdiv a (60000:Int))) (1440:Int)=mnt a:=by
 rw [Int.tdiv_eq_ediv_of_nonneg h.1,aj (by omega),Int.tmod_eq_emod_of_nonneg (by omega)];rfl
theorem aeg (a:Int):0<=wkd a/\wkd a<=6:=by unfold wkd;omega
theorem aiI (a:Int):0<=mnt a/\mnt a<=1439:=by unfold mnt;omega
def PX (l:List tJ) (a x:Int):Prop:=(x = -1/\∀j,j<l.length->¬CT (l.getD j p0) a)\/∃i:Nat,i<l.length/\x=(i:Int)/\CT (l.getD i p0) a/\∀j,j<i->¬CT (l.getD j p0) a
theorem PX.uniq {l:List tJ} {a x y:Int} (h:PX l a x) (k:PX l a y):x=y:=by
 rcases h with ⟨rfl,h⟩ | ⟨i,hi,rfl,hc,hn⟩<;>rcases k with ⟨rfl,k⟩ | ⟨j,hj,rfl,kc,kn⟩
 ·rfl
 ·exact (h j hj kc).elim
 ·exact (k i hi hc).elim
 ·have:i=j:=by
   rcases Nat.lt_trichotomy i j with g | g | g
   ·exact (kn i g hc).elim
   ·exact g
   ·exact (hn j g kc).elim
  rw [this]
theorem aaT {l:List tJ} {a:Int} (hl:l.length<=1000) (hp:Pks l) (ha:0<=a/\a<=4000000000000000000):∃x,fP (l,a)=some x/\PX l a x:=by
 rw [Wv];simp only [↓aN,aQ,aos ha,aot ha];have hw:=aeg a
 rcases ny (body:=paB l (wkd a) (mnt a)) l.length (fun i=>CT (l.getD i p0) a) (fun i => .inr (i:Int)) (.inl ())
  (fun i hi hb=>by
    obtain ⟨x,hx,hxb⟩:=get_at p0 hi;have hpi:=hp i hi;rw [hx] at hb hpi;have hbl:=Yx (d:=x.1.1) (wkd a).toNat (by have:=hpi.1;omega) (by omega);have hn:((i:Int)+1)=((i+1:Nat):Int):=rfl;unfold paB;simp (disch:=(first | omega | (simp only [bM];omega))) only [↓aN,aQ,if_pos,if_neg,↓hxb,hbl,aj,hn];by_cases c1:(x.1.1 / (2:Int) ^ (wkd a).toNat) % 2=1
    ·by_cases c2:x.1.2.1<=mnt a
     ·have c3:¬mnt a<x.1.2.2:=fun k=>hb ⟨c1,c2,k⟩;simp (disch:=(first | omega | (simp only [bM];omega))) only [↓aN,aQ,if_pos,if_neg,aj,hn]
     ·simp (disch:=(first | omega | (simp only [bM];omega))) only [↓aN,aQ,if_pos,if_neg,aj,hn]
    ·simp (disch:=(first | omega | (simp only [bM];omega))) only [↓aN,aQ,if_pos,if_neg,aj,hn])
  (fun i hi hb=>by
    obtain ⟨x,hx,hxb⟩:=get_at p0 hi;have hpi:=hp i hi;rw [hx] at hb hpi;obtain ⟨c1,c2,c3⟩:=hb;have hbl:=Yx (d:=x.1.1) (wkd a).toNat (by have:=hpi.1;omega) (by omega);unfold paB;simp (disch:=(first | omega | (simp only [bM];omega))) only [↓aN,aQ,if_pos,if_neg,↓hxb,hbl])
  (by unfold paB;simp (disch:=(first | omega | (simp only [bM];omega))) only [↓aN,aQ,if_pos,if_neg]) with ⟨i,h1,h2,h3,e⟩ | ⟨h,e⟩
 ·rw [e];exact ⟨_,rfl,.inr ⟨i,h1,rfl,h2,h3⟩⟩
 ·rw [e];exact ⟨_,rfl,.inl ⟨rfl,h⟩⟩
theorem ahj {p:tJ} (h:Lst p) (a:Int):CT p a:=by
 obtain ⟨h1,h2,h3⟩:=h;have hm:=aiI a;have hw:=aeg a;refine ⟨?_,by omega,by omega⟩;rw [h1];obtain ⟨k,hk⟩:∃k,(wkd a).toNat=k:=⟨_,rfl⟩
 rw [hk];have hk6:k<=6:=by omega
 have:k=0\/k=1\/k=2\/k=3\/k=4\/k=5\/k=6:=by omega
 rcases this with rfl | rfl | rfl | rfl | rfl | rfl | rfl<;>decide
theorem PX.pos {l:List tJ} {a x:Int} (hl:RVl l) (h:PX l a x):∃i:Nat,i<l.length/\x=(i:Int):=by
 rcases h with ⟨rfl,h⟩ | ⟨i,hi,rfl,_⟩
 ·exact (h (l.length-1) (by have:=hl.1;omega) (ahj hl.2.2 a)).elim
 ·exact ⟨i,hi,rfl⟩
theorem aou (k:Nat) (hk:k<=8):kH (k:Int)=some ((2:Int) ^ k):=by
 rw [alM];have e:aA (btB (k:Int)) ((0:Int),(1:Int))=some (.inl ((2:Int) ^ k)):=by
  refine bQ (fun i=>((i:Int),(2:Int) ^ i)) k rfl (fun i hi => ?_) ?_
  ·have hp:(2:Int) ^ (i+1)=2*2 ^ i:=by rw [Int.pow_succ,Int.mul_comm]
   have hb:(2:Int) ^ i<=256:=by
    have:i=0\/i=1\/i=2\/i=3\/i=4\/i=5\/i=6\/i=7:=by omega
    rcases this with rfl | rfl | rfl | rfl | rfl | rfl | rfl | rfl<;>decide
   have h0:=EO i;have hn:((i:Int)+1)=((i+1:Nat):Int):=rfl;unfold btB;simp (disch:=omega) only [↓aN,aQ,if_pos,aj,hn,hp]
  ·unfold btB;simp (disch:=omega) only [↓aN,aQ,if_neg]
 rw [e];rfl
theorem aeh {β:Type} {x:tJ} {a:Int} (hp:Pok x) (ha:0<=a/\a<=4000000000000000000) (f:Bool->Option β):ah (eY ((x.1.1,(x.1.2.1,x.1.2.2)),a)) f=f (decide (CT x a)):=by
 have e:eY ((x.1.1,(x.1.2.1,x.1.2.2)),a)=some (decide (CT x a)):=by
  unfold eY;have hw:=aeg a;have hm:=aiI a;simp only [↓aN,aQ,aos ha,aot ha];obtain ⟨k,hk⟩:∃k:Nat,wkd a=(k:Int):=⟨(wkd a).toNat,by omega⟩
  have hk':(wkd a).toNat=k:=by omega
  have h0:=EO k;have hd:=hp.1;have d0:0<=x.1.1 / (2:Int) ^ k:=Int.ediv_nonneg (by omega) (by omega);have d1:x.1.1 / (2:Int) ^ k<=x.1.1:=Int.ediv_le_self _ (by omega);rw [hk,aou k (by omega)];simp (disch:=omega) only [↓aN,aQ,ne_eq,aj,Int.tdiv_eq_ediv_of_nonneg];rw [Int.tmod_eq_emod_of_nonneg d0];have hct:CT x a↔(x.1.1 / (2:Int) ^ k) % 2=1/\x.1.2.1<=mnt a/\mnt a<x.1.2.2:=by unfold CT;rw [hk']
  by_cases c1:(x.1.1 / (2:Int) ^ k) % 2=1
  ·by_cases c2:x.1.2.1<=mnt a
   ·rw [if_pos c1,if_pos c2];by_cases c3:mnt a<x.1.2.2
    ·rw [decide_eq_true c3,decide_eq_true (hct.2 ⟨c1,c2,c3⟩)]
    ·rw [decide_eq_false c3,decide_eq_false (fun k=>c3 (hct.1 k).2.2)]
   ·rw [if_pos c1,if_neg c2,decide_eq_false (fun k=>c2 (hct.1 k).2.1)]
  ·rw [if_neg c1,decide_eq_false (fun k=>c1 (hct.1 k).1)]
 rw [e];rfl
theorem aei {l:List tJ} {a:Int} (hl:l.length<=1000) (hp:Pks l) (ha:0<=a/\a<=4000000000000000000):(∃i:Nat,PX l a (i:Int)/\aA (Wx l a) (0:Int)=some (.inr ((i:Int),true)))\/(PX l a (-1)/\aA (Wx l a) (0:Int)=some (.inl ())):=by
 rcases ny (body:=Wx l a) l.length (fun i=>CT (l.getD i p0) a) (fun i => .inr ((i:Int),true)) (.inl ())
  (fun i hi hb=>by
    obtain ⟨x,hx,hxb⟩:=get_at p0 hi;have hpi:=hp i hi;rw [hx] at hb hpi;have hn:((i:Int)+1)=((i+1:Nat):Int):=rfl;unfold Wx;simp (disch:=(first | omega | (simp only [bM];omega))) only [↓aN,aQ,if_pos,if_neg,↓hxb,aeh hpi ha,hb,decide_false,aj,hn])
  (fun i hi hb=>by
    obtain ⟨x,hx,hxb⟩:=get_at p0 hi;have hpi:=hp i hi;rw [hx] at hb hpi;unfold Wx;simp (disch:=(first | omega | (simp only [bM];omega))) only [↓aN,aQ,if_pos,if_neg,↓hxb,aeh hpi ha,hb,decide_true])
  (by unfold Wx;simp (disch:=(first | omega | (simp only [bM];omega))) only [↓aN,aQ,if_pos,if_neg]) with ⟨i,h1,h2,h3,e⟩ | ⟨h,e⟩
 ·exact .inl ⟨i,.inr ⟨i,h1,rfl,h2,h3⟩,e⟩
 ·exact .inr ⟨.inl ⟨rfl,h⟩,e⟩
theorem vY {r:Ra} (h:RV r):eF (r.1,(r.2.1,(r.2.2.1,(r.2.2.2.1,r.2.2.2.2))))=some true:=by
 rcases vX r.1 r.2.1 r.2.2.1 r.2.2.2.1 r.2.2.2.2 with ⟨_,e⟩ | ⟨k,_⟩
 ·exact e
 ·exact (k h).elim
theorem aej {r:Ra} {a:Int} (h:RV r) (ha:0<=a/\a<=562949953421312):∃i:Nat,i<r.2.2.2.2.length/\PX r.2.2.2.2 a (i:Int)/\fD ((r.1,(r.2.1,(r.2.2.1,(r.2.2.2.1,r.2.2.2.2)))),a)=some ((i:Int),true):=by
 rw [aaQ,xG,vY h];simp (disch:=omega) only [↓aN,aQ,if_neg];rcases aei (l:=r.2.2.2.2) (a:=a) (by have:=h.2.2.1;omega) h.2.2.2.1 (by omega) with ⟨i,hx,e⟩ | ⟨hx,e⟩
 ·obtain ⟨i',hi',e'⟩:=hx.pos h.2.2;have:i=i':=by omega
  subst this;rw [e];exact ⟨i,hi',hx,rfl⟩
 ·obtain ⟨i',hi',e'⟩:=hx.pos h.2.2;omega
noncomputable def pcB (a1:List UInt8) (a2 a3 a4:Int) (a5:List tJ) (a6 a7:Int):Int->Option (Int ⊕ (Int ⊕ Int)) :=
(fun v9 =>
 ah (eu ((a1,(a2,(a3,(a4,a5)))),(a6,v9))) fun x10 =>
 bif (decide (x10<a7)) then
 some (Sum.inl (IntKind.wrap .i64 (v9+(1:Int))))
 else
 au (some (Sum.inl v9)))
theorem Wy (a1:List UInt8) (a2 a3 a4:Int) (a5:List tJ) (a6 a7:Int):iw ((a1,(a2,(a3,(a4,a5)))),(a6,a7)) =
 aB (ah (dG (a1,(a2,(a3,(a4,a5))))) fun x8 =>
 bif (!x8) then
 au (some (0:Int))
 else
 bif (decide (a6<(0:Int))) then
 au (some (0:Int))
 else
 bif (decide (a6 > (3600:Int))) then
 au (some (0:Int))
 else
 bif (decide (a7<(0:Int))) then
 au (some (0:Int))
 else
 bif (decide (a7 > (1000000:Int))) then
 au (some (0:Int))
 else
 some (Sum.inl ())) fun _ =>
 aB (aA (pcB a1 a2 a3 a4 a5 a6 a7) (0:Int)) fun v12 =>
 some v12:=rfl
def BG (f fi st:Int) (i:Nat):Int:=if i=0 then f else f+fi+((i:Int)-1)*st
def PN (f fi st s:Int):Int:=if s<=f then 0 else if s-f-fi<=0 then 1 else 1+(s-f-fi+st-1) / st
theorem Yy {f fi st s:Int} (hst:1<=st):0<=PN f fi st s:=by
 unfold PN;split
 ·omega
 ·split
  ·omega
  ·have:=Int.ediv_nonneg (a:=s-f-fi+st-1) (b:=st) (by omega) (by omega);omega
theorem aov {f fi st s:Int} (hst:1<=st) {i:Nat} (h:(i:Int)<PN f fi st s):BG f fi st i<s:=by
 unfold PN at h;unfold BG;split at h
 ·omega
 ·split at h
  ·have:i=0:=by omega
   rw [if_pos this];omega
  ·by_cases e:i=0
   ·rw [if_pos e];omega
   ·rw [if_neg e];have h1:(i:Int)<=(s-f-fi+st-1) / st:=by omega
    have h2:(i:Int)*st<=s-f-fi+st-1:=(Int.le_ediv_iff_mul_le (by omega)).1 h1;rw [Int.sub_mul,Int.one_mul];omega
theorem aow {f fi st s:Int} (hst:1<=st) {i:Nat} (h:(i:Int)=PN f fi st s):s<=BG f fi st i:=by
 unfold PN at h;unfold BG;split at h
 ·rw [if_pos (by omega)];omega
 ·split at h
  ·have:i=1:=by omega
   subst this;rw [if_neg (by omega),show (((1:Nat):Int)-1)=0 from rfl,Int.zero_mul];omega
  ·have h0:=Int.ediv_nonneg (a:=s-f-fi+st-1) (b:=st) (by omega) (by omega);have hl:=Int.lt_ediv_add_one_mul_self (s-f-fi+st-1) (show 0<st by omega);rw [if_neg (by omega),show ((i:Int)-1)=(s-f-fi+st-1) / st from by omega];rw [Int.add_mul,Int.one_mul] at hl;omega
theorem Yz {f fi st s:Int} (hst:1<=st) (hf:0<=f) (hfi:1<=fi) (hs:0<=s):PN f fi st s<=s:=by
 unfold PN;split
 ·omega
 ·split
  ·omega
  ·have:(s-f-fi+st-1) / st<=s-f-fi:=by
    have h1:=Int.lt_ediv_add_one_mul_self (s-f-fi+st-1) (show 0<st by omega);refine Int.ediv_le_of_le_mul (by omega) ?_;have:(s-f-fi)*st=(s-f-fi-1)*(st-1)+(s-f-fi+st-1):=by
     rw [Int.sub_mul (s-f-fi) 1 (st-1),Int.mul_sub,Int.mul_one,Int.one_mul];omega
    have h2:=Int.mul_nonneg (a:=s-f-fi-1) (b:=st-1) (by omega) (by omega);omega
   omega
theorem YA {f fi st:Int} (hf:0<=f/\f<=3600) (hfi:1<=fi/\fi<=3600) (hst:1<=st/\st<=3600) {i:Nat} (hi:i<=1000001):0<=BG f fi st i/\BG f fi st i<=4000000000:=by
 unfold BG;split
 ·omega
 ·have h1:=Int.mul_nonneg (a:=(i:Int)-1) (b:=st) (by omega) (by omega);have h2:((i:Int)-1)*st<=1000000*3600:=Int.mul_le_mul (by omega) hst.2 (by omega) (by omega);omega
theorem QC {β:Type} (r:Ra) {f:Int} (hf:0<=f/\f<=3600) (hfi:1<=r.2.2.1/\r.2.2.1<=3600) (hst:1<=r.2.2.2.1/\r.2.2.2.1<=3600) {i:Nat} (hi:i<=1000001) (k:Int->Option β):ah (eu ((r.1,(r.2.1,(r.2.2.1,(r.2.2.2.1,r.2.2.2.2)))),(f,(i:Int)))) k=k (BG f r.2.2.1 r.2.2.2.1 i):=by
 have e:eu ((r.1,(r.2.1,(r.2.2.1,(r.2.2.2.1,r.2.2.2.2)))),(f,(i:Int)))=some (BG f r.2.2.1 r.2.2.2.1 i):=by
  unfold eu BG;by_cases h:i=0
  ·subst h;simp (disch:=omega) only [↓aN,aQ,if_pos]
  ·have h1:=Int.mul_nonneg (a:=(i:Int)-1) (b:=r.2.2.2.1) (by omega) (by omega);have h2:((i:Int)-1)*r.2.2.2.1<=1000000*3600:=Int.mul_le_mul (by omega) hst.2 (by omega) (by omega);rw [if_neg h];simp (disch:=omega) only [↓aN,aQ,if_neg,aj]
 rw [e];rfl
theorem aaU {r:Ra} {f s:Int} (h:RV r) (hf:0<=f/\f<=3600) (hs:0<=s/\s<=1000000):jL ((r.1,(r.2.1,(r.2.2.1,(r.2.2.2.1,r.2.2.2.2)))),(f,s))=some (PN f r.2.2.1 r.2.2.2.1 s):=by
 have hfi:=h.1.2.2.1;have hst:=h.1.2.2.2;unfold jL PN;by_cases h1:s<=f
 ·rw [if_pos h1];simp (disch:=omega) only [↓aN,aQ,vY h,iJ,hf,hs,and_self,decide_true,if_pos]
 ·rw [if_neg h1];simp (disch:=omega) only [↓aN,aQ,vY h,iJ,hf,hs,and_self,decide_true,if_neg,aj];by_cases h2:s-f-r.2.2.1<=0
  ·rw [if_pos h2,if_pos h2]
  ·rw [if_neg h2,if_neg h2];have h0:=Int.ediv_nonneg (a:=s-f-r.2.2.1+r.2.2.2.1-1) (b:=r.2.2.2.1) (by omega) (by omega);have h3:=Int.ediv_le_self (a:=s-f-r.2.2.1+r.2.2.2.1-1) r.2.2.2.1 (by omega);rw [Int.tdiv_eq_ediv_of_nonneg (by omega)];simp (disch:=omega) only [↓aN,aQ,if_pos,aj,ne_eq]
theorem aaV {r:Ra} {f s:Int} (h:RV r) (hf:0<=f/\f<=3600) (hs:0<=s/\s<=1000000):iw ((r.1,(r.2.1,(r.2.2.1,(r.2.2.2.1,r.2.2.2.2)))),(f,s))=some (PN f r.2.2.1 r.2.2.2.1 s):=by
 have hfi:=h.1.2.2.1;have hst:=h.1.2.2.2;rw [Wy,xG,vY h];have hn:=Yy (f:=f) (fi:=r.2.2.1) (s:=s) hst.1;have hle:=Yz (st:=r.2.2.2.1) hst.1 hf.1 hfi.1 hs.1;obtain ⟨n,hn'⟩:∃n:Nat,PN f r.2.2.1 r.2.2.2.1 s=(n:Int):=⟨(PN f r.2.2.1 r.2.2.2.1 s).toNat,by omega⟩
 have e:aA (pcB r.1 r.2.1 r.2.2.1 r.2.2.2.1 r.2.2.2.2 f s) (0:Int)=some (.inl (n:Int)):=by
  refine bQ (fun i=>(i:Int)) n rfl (fun i hi => ?_) ?_
  ·have hlt:=aov (f:=f) (fi:=r.2.2.1) (s:=s) hst.1 (i:=i) (by omega);have hn1:((i:Int)+1)=((i+1:Nat):Int):=rfl;unfold pcB;rw [QC r hf hfi hst (by omega)];simp (disch:=omega) only [↓aN,aQ,if_pos,aj,hn1]
  ·have hge:=aow (f:=f) (fi:=r.2.2.1) (s:=s) hst.1 (i:=n) (by omega);unfold pcB;rw [QC r hf hfi hst (by omega)];simp (disch:=omega) only [↓aN,aQ,if_neg]
 simp (disch:=omega) only [↓aN,aQ,if_neg,e];rw [hn']
noncomputable def csB (x:Ra) (a2 a4 n:Int):(Int×Int)->Option ((Int×Int) ⊕ (Int ⊕ (Int×Int))) :=
(fun (v15,v16) =>
 bif (decide (v15<n)) then
 ah (eu ((x.1,(x.2.1,(x.2.2.1,(x.2.2.2.1,x.2.2.2.2)))),(a2,v15))) fun x17 =>
 ah (fD ((x.1,(x.2.1,(x.2.2.1,(x.2.2.2.1,x.2.2.2.2)))),(IntKind.wrap .i64 (a4+(IntKind.wrap .i64 ((1000:Int)*x17)))))) fun (x21,x22) =>
 bif (decide (v15=(0:Int))) then
 bif (decide (((0:Int)<=x21)/\(x21<(x.2.2.2.2.length:Int)))) then
 ah x.2.2.2.2[x21.toNat]? fun x23 =>
 some (Sum.inl ((IntKind.wrap .i64 (v15+(1:Int))),(IntKind.wrap .i64 (v16+x23.2.1))))
 else none
 else
 bif (decide (((0:Int)<=x21)/\(x21<(x.2.2.2.2.length:Int)))) then
 ah x.2.2.2.2[x21.toNat]? fun x26 =>
 some (Sum.inl ((IntKind.wrap .i64 (v15+(1:Int))),(IntKind.wrap .i64 (v16+x26.2.2))))
 else none
 else
 au (some (Sum.inl v16)))
theorem Ag (a1:List Ra) (a2:Int) (a3:List UInt8) (a4 a5:Int):dH ((a1,a2),(a3,(a4,a5))) =
 ah (bK (a1,a2)) fun x6 =>
 bif (!x6) then
  some ((0:Int),(2:Int))
 else
  ah (fO (a4,a5)) fun x7 =>
  bif (!x7) then
   some ((0:Int),(3:Int))
  else
   ah (bH (a4,a5)) fun x8 =>
   bif (decide (x8 > (1000000:Int))) then
    some ((0:Int),(4:Int))
   else
    ah (eX ((a1,a2),a3)) fun (x10,x11) =>
    bif (!x11) then
     some ((0:Int),(8:Int))
    else
     bif (decide (((0:Int)<=x10)/\(x10<(a1.length:Int)))) then
      ah a1[x10.toNat]? fun x12 =>
      ah (bH (a4,a5)) fun x13 =>
      ah (iw ((x12.1,(x12.2.1,(x12.2.2.1,(x12.2.2.2.1,x12.2.2.2.2)))),(a2,x13))) fun x14 =>
      bif (decide (x14=(0:Int))) then
       some ((0:Int),(0:Int))
      else
       aB (aA (csB x12 a2 a4 x14) ((0:Int),x12.2.1)) fun v29 =>
       some (v29,(0:Int))
     else none:=rfl
noncomputable def px (l:List tJ) (a:Int):Int:=(fP (l,a)).getD 0
theorem aaW {l:List tJ} {a:Int} (h:RVl l) (ha:0<=a/\a<=4000000000000000000):fP (l,a)=some (px l a)/\PX l a (px l a):=by
 obtain ⟨x,e,hx⟩:=aaT (l:=l) (a:=a) (by have:=h.1;omega) h.2.1 ha;have:px l a=x:=by unfold px;rw [e];rfl
 rw [this];exact ⟨e,hx⟩
noncomputable def prc (l:List tJ) (a:Int) (k:Nat):Int:=if k=0 then (l.getD (px l a).toNat p0).2.1 else (l.getD (px l a).toNat p0).2.2
theorem WA {l:List tJ} {a:Int} (h:RVl l) (ha:0<=a/\a<=4000000000000000000) (k:Nat):0<=prc l a k/\prc l a k<=1000000000:=by
 obtain ⟨i,hi,e⟩:=(aaW h ha).2.pos h;have hp:=h.2.1 i hi;unfold prc;rw [e,Int.toNat_natCast];split
 ·exact hp.2.1
 ·exact hp.2.2
noncomputable def CU (l:List tJ) (rc:Int) (mo:Nat->Int):Nat->Int
 | 0=>rc
 | k+1=>CU l rc mo k+prc l (mo k) k
theorem YB {l:List tJ} {rc:Int} {mo:Nat->Int} (h:RVl l) (hr:Qz rc):∀ {n:Nat},(∀k,k<n->0<=mo k/\mo k<=4000000000000000000)->0<=CU l rc mo n/\CU l rc mo n<=1000000000*((n:Int)+1)
 | 0,_=>by unfold CU;omega
 | n+1,hm=>by
   have h1:=YB h hr (n:=n) (fun k hk=>hm k (by omega));have h2:=WA h (hm n (by omega)) n;unfold CU;omega
theorem aiJ {l:List tJ} {rc:Int} {mo:Nat->Int} (h:RVl l) (hr:Qz rc):∀ {n:Nat},n<=1000000->(∀k,k<n->0<=mo k/\mo k<=4000000000000000000)->EK l rc mo n=some (CU l rc mo n)
 | 0,_,_=>rfl
 | n+1,hn,hm=>by
   have h0:=YB h hr (n:=n) (mo:=mo) (fun k hk=>hm k (by omega));have h2:=WA h (hm n (by omega)) n;obtain ⟨e,hx⟩:=aaW h (hm n (by omega));obtain ⟨i,hi,ei⟩:=hx.pos h;unfold EK CU;rw [aiJ h hr (by omega) (fun k hk=>hm k (by omega))];simp only [↓aN,aQ,e];have hp:(if (n:Int)=0 then (l.getD (px l (mo n)).toNat ((0,(0,0)),(0,0))).2.1 else (l.getD (px l (mo n)).toNat ((0,(0,0)),(0,0))).2.2)=prc l (mo n) n:=by
    unfold prc;by_cases k:n=0
    ·rw [if_pos k,if_pos (by omega)]
    ·rw [if_neg k,if_neg (by omega)]
   rw [hp,if_pos (show 0<=px l (mo n)/\px l (mo n)<(l.length:Int) by omega),aj (by omega)]
def MO (a f fi st:Int) (k:Nat):Int:=a+1000*BG f fi st k
theorem ahk (f fi st:Int) (k:Nat):BG f fi st (k+1)=BG f fi st k+if k=0 then fi else st:=by
 unfold BG;rw [if_neg (by omega)];by_cases h:k=0
 ·subst h;rw [if_pos rfl,if_pos rfl,show (((0+1:Nat):Int)-1)=0 from rfl,Int.zero_mul];omega
 ·rw [if_neg h,if_neg h,show (((k+1:Nat):Int)-1)=((k:Int)-1)+1 from by omega,Int.add_mul,Int.one_mul];omega
theorem aek {a f fi st:Int} (ha:0<=a/\a<=281474976710656) (hf:0<=f/\f<=3600) (hfi:1<=fi/\fi<=3600) (hst:1<=st/\st<=3600):∀ {k:Nat},k<=1000001->sJ (IntKind.wrap .i64 (a+IntKind.wrap .i64 (1000*f))) fi st k=MO a f fi st k
 | 0,_=>by
   unfold sJ MO BG;rw [if_pos rfl,aj (n:=1000*f) (by omega),aj (by omega)]
 | k+1,hk=>by
   have h0:=YA (i:=k) hf hfi hst (by omega);have h1:=YA (i:=k+1) hf hfi hst hk;have hs:=ahk f fi st k;unfold sJ;rw [aek ha hf hfi hst (by omega)];have hw:∀n:Int,-9223372036854775808<=n/\n<9223372036854775808->wrap64 n=n:=fun n h=>by unfold wrap64;omega
   show wrap64 (MO a f fi st k+wrap64 (1000*(if k=0 then fi else st)))=_;unfold MO;rw [hs] at h1 ⊢;rw [hw (1000*(if k=0 then fi else st)) (by omega),hw _ (by omega)];omega
noncomputable def CV (r:Ra) (f a s:Int):Int:=if PN f r.2.2.1 r.2.2.2.1 s=0 then 0 else CU r.2.2.2.2 r.2.1 (MO a f r.2.2.1 r.2.2.2.1) (PN f r.2.2.1 r.2.2.2.1 s).toNat
theorem Um {l:List tJ} {rc:Int} {mo mo':Nat->Int}:∀ {n:Nat},(∀k,k<n->mo k=mo' k)->CU l rc mo n=CU l rc mo' n
 | 0,_=>rfl
 | n+1,h=>by unfold CU;rw [Um (fun k hk=>h k (by omega)),h n (by omega)]
theorem jh {l:List Ra} {f:Int} (hv:TV l f):bC (l,f)=some true:=by
 rcases Af l f with ⟨_,e⟩ | ⟨k,_⟩
 ·exact e
 ·exact (k hv).elim
theorem xH {l:List Ra} {f:Int} (hv:¬TV l f):bC (l,f)=some false:=by
 rcases Af l f with ⟨k,_⟩ | ⟨_,e⟩
 ·exact (hv k).elim
 ·exact e
theorem YC {a f fi st:Int} (ha:0<=a/\a<=281474976710656) (hf:0<=f/\f<=3600) (hfi:1<=fi/\fi<=3600) (hst:1<=st/\st<=3600) {k:Nat} (hk:k<=1000001):0<=MO a f fi st k/\MO a f fi st k<=300000000000000:=by
 have:=YA (i:=k) hf hfi hst hk;unfold MO;omega
theorem QD {l:List Ra} {f a b:Int} {num:List UInt8} (hv:TV l f) (hs:Spn a b) (h1:SE a b<=1000000) {i:Nat} (hi:i<l.length) (hF:iy ((l,f),num)=some ((i:Int),true)):bV ((l,f),(num,(a,b)))=some (CV (l.getD i r0) f a (SE a b),0):=by
 have hse:=Lu a b;have hrv:=(hv.2 i hi).1;have hf:=hv.1.2;have hfi:=hrv.1.2.2.1;have hst:=hrv.1.2.2.2;have hp:=aaU hrv hf ⟨hse.1,h1⟩;have hn:=Yy (f:=f) (fi:=(l.getD i r0).2.2.1) (s:=SE a b) hst.1;have hle:=Yz (st:=(l.getD i r0).2.2.2.1) hst.1 hf.1 hfi.1 hse.1;have w1:0<=a/\a<=281474976710656:=⟨hs.1,Int.le_trans hs.2.1 hs.2.2⟩
 have w2:a<=b/\b<=281474976710656:=hs.2;unfold bV CV;simp (disch:=omega) only [↓aN,aQ,jh hv,iJ,w1,w2,and_self,decide_true,qP,if_neg,hF,Int.toNat_natCast];have hp':jL (l.getD i ([],(0,(0,(0,[])))),(f,SE a b))=some (PN f (l.getD i r0).2.2.1 (l.getD i r0).2.2.2.1 (SE a b)):=hp;rw [hp'];simp only [ay];by_cases h0:PN f (l.getD i r0).2.2.1 (l.getD i r0).2.2.2.1 (SE a b)=0
 ·simp only [if_pos h0]
 ·simp only [if_neg h0];rw [if_pos (show (0:Int)<=PN f (l.getD i r0).2.2.1 (l.getD i r0).2.2.2.1 (SE a b)/\PN f (l.getD i r0).2.2.1 (l.getD i r0).2.2.2.1 (SE a b)<=4000000000000000000 by omega)];have hS:EK (l.getD i r0).2.2.2.2 (l.getD i r0).2.1 (sJ (IntKind.wrap .i64 (a+IntKind.wrap .i64 (1000*f))) (l.getD i r0).2.2.1 (l.getD i r0).2.2.2.1) (PN f (l.getD i r0).2.2.1 (l.getD i r0).2.2.2.1 (SE a b)).toNat=some (CU (l.getD i r0).2.2.2.2 (l.getD i r0).2.1 (MO a f (l.getD i r0).2.2.1 (l.getD i r0).2.2.2.1) (PN f (l.getD i r0).2.2.1 (l.getD i r0).2.2.2.1 (SE a b)).toNat):=by
   rw [aiJ hrv.2.2 hrv.1.2.1 (by omega) (fun k hk => ?_),Um (fun k hk=>aek w1 hf hfi hst (by omega))];rw [aek w1 hf hfi hst (by omega)];have:=YC w1 hf hfi hst (k:=k) (by omega);omega
  rw [hS];rfl
theorem ael {β:Type} {r:Ra} {a:Int} (h:RV r) (ha:0<=a/\a<=562949953421312) (k:(Int×Bool)->Option β):ah (fD ((r.1,(r.2.1,(r.2.2.1,(r.2.2.2.1,r.2.2.2.2)))),a)) k=k (px r.2.2.2.2 a,true):=by
 obtain ⟨i,hi,hx,e⟩:=aej h ha;rw [e,(aaW h.2.2 (by omega)).2.uniq hx];rfl
theorem ahl {l:List Ra} {f a b:Int} {num:List UInt8} (hv:TV l f) (hs:Spn a b) (h1:SE a b<=1000000) {i:Nat} (hi:i<l.length) (hF:eX ((l,f),num)=some ((i:Int),true)):dH ((l,f),(num,(a,b)))=some (CV (l.getD i r0) f a (SE a b),0):=by
 have hse:=Lu a b;have hrv:=(hv.2 i hi).1;obtain ⟨x,hx,hxb⟩:=get_at r0 hi;rw [hx] at hrv ⊢;have hf:=hv.1.2;have hfi:=hrv.1.2.2.1;have hst:=hrv.1.2.2.2;have hp:=aaV hrv hf ⟨hse.1,h1⟩;have hn:=Yy (f:=f) (fi:=x.2.2.1) (s:=SE a b) hst.1;have hle:=Yz (st:=x.2.2.2.1) hst.1 hf.1 hfi.1 hse.1;have w1:0<=a/\a<=281474976710656:=⟨hs.1,Int.le_trans hs.2.1 hs.2.2⟩
 rw [Ag,nC,jh hv];unfold CV;simp (disch:=omega) only [↓aN,aQ,Gv,hs,decide_true,yF,if_neg,hF];simp only [↓hxb,hp,ay];by_cases h0:PN f x.2.2.1 x.2.2.2.1 (SE a b)=0
 ·simp only [if_pos h0]
 ·simp only [if_neg h0];obtain ⟨n,hn'⟩:∃n:Nat,PN f x.2.2.1 x.2.2.2.1 (SE a b)=(n:Int):=⟨(PN f x.2.2.1 x.2.2.2.1 (SE a b)).toNat,by omega⟩
  rw [hn',Int.toNat_natCast];have e:aA (csB x f a (n:Int)) ((0:Int),x.2.1)=some (.inl (CU x.2.2.2.2 x.2.1 (MO a f x.2.2.1 x.2.2.2.1) n)):=by
   refine bQ (fun k=>((k:Int),CU x.2.2.2.2 x.2.1 (MO a f x.2.2.1 x.2.2.2.1) k)) n rfl (fun k hk => ?_) ?_
   ·have hm:∀j,j<=k->0<=MO a f x.2.2.1 x.2.2.2.1 j/\MO a f x.2.2.1 x.2.2.2.1 j<=300000000000000:=fun j hj=>YC w1 hf hfi hst (by omega);have hb:=YA (i:=k) hf hfi hst (by omega);have hmk:=hm k (Nat.le_refl _);have hcs:=YB hrv.2.2 hrv.1.2.1 (n:=k) (mo:=MO a f x.2.2.1 x.2.2.2.1) (fun j hj=>by have:=hm j (by omega);omega);have hpr:=WA hrv.2.2 (a:=MO a f x.2.2.1 x.2.2.2.1 k) (by omega) k;obtain ⟨j,hj,ej⟩:=(aaW hrv.2.2 (a:=MO a f x.2.2.1 x.2.2.2.1 k) (by omega)).2.pos hrv.2.2;have hn1:((k:Int)+1)=((k+1:Nat):Int):=rfl;have hMO:a+1000*BG f x.2.2.1 x.2.2.2.1 k=MO a f x.2.2.1 x.2.2.2.1 k:=rfl;obtain ⟨y,hy,hyb⟩:=get_at p0 hj;have hprc:prc x.2.2.2.2 (MO a f x.2.2.1 x.2.2.2.1 k) k=if k=0 then y.2.1 else y.2.2:=by unfold prc;rw [ej,Int.toNat_natCast,hy]
    unfold csB;simp (disch:=omega) only [↓aN,aQ,if_pos,QC x hf hfi hst,aj,hMO,ael hrv,ej];by_cases k0:k=0
    ·rw [if_pos k0] at hprc;simp (disch:=omega) only [↓aN,aQ,if_pos,↓hyb,aj,hn1];rw [CU,hprc]
    ·rw [if_neg k0] at hprc;simp (disch:=omega) only [↓aN,aQ,if_pos,if_neg,↓hyb,aj,hn1];rw [CU,hprc]
   ·unfold csB;simp (disch:=omega) only [↓aN,aQ,if_neg]
  rw [e];rfl
theorem aaX (l:List Ra) (f:Int) (num:List UInt8) (a b:Int):∃r,bV ((l,f),(num,(a,b)))=some r/\dH ((l,f),(num,(a,b)))=some r:=by
 by_cases hv:TV l f
 ·by_cases hs:Spn a b
  ·by_cases h1:SE a b<=1000000
   ·obtain ⟨r,e1,e2,k1,_⟩:=Gu l f num;rcases k1 hv with ⟨rfl,_⟩ | ⟨i,hi,rfl,_⟩
    ·have w1:0<=a/\a<=281474976710656:=⟨hs.1,Int.le_trans hs.2.1 hs.2.2⟩
     have w2:a<=b/\b<=281474976710656:=hs.2;refine ⟨(0,8),?_,?_⟩
     ·unfold bV;simp (disch:=omega) only [↓aN,aQ,jh hv,iJ,w1,w2,and_self,decide_true,qP,if_neg,e1]
     ·rw [Ag,nC,jh hv];simp (disch:=omega) only [↓aN,aQ,Gv,hs,decide_true,yF,if_neg,e2]
    ·exact ⟨_,QD hv hs h1 hi e1,ahl hv hs h1 hi e2⟩
   ·have w1:0<=a/\a<=281474976710656:=⟨hs.1,Int.le_trans hs.2.1 hs.2.2⟩
    have w2:a<=b/\b<=281474976710656:=hs.2;refine ⟨(0,4),?_,?_⟩
    ·unfold bV;simp (disch:=omega) only [↓aN,aQ,jh hv,iJ,w1,w2,and_self,decide_true,qP,if_pos]
    ·rw [Ag,nC,jh hv];simp (disch:=omega) only [↓aN,aQ,Gv,hs,decide_true,yF,if_pos]
  ·refine ⟨(0,3),?_,?_⟩
   ·unfold bV;by_cases w1:0<=a/\a<=281474976710656
    ·have w2:¬(a<=b/\b<=281474976710656):=fun k=>hs ⟨w1.1,k⟩;simp (disch:=omega) only [↓aN,aQ,jh hv,iJ,w1,w2,and_self,decide_true,decide_false]
    ·simp (disch:=omega) only [↓aN,aQ,jh hv,iJ,w1,decide_false]
   ·rw [Ag,nC,jh hv];simp (disch:=omega) only [↓aN,aQ,Gv,hs,decide_false]
 ·refine ⟨(0,2),?_,?_⟩
  ·unfold bV;simp only [↓aN,aQ,xH hv]
  ·rw [Ag,nC,xH hv];rfl
end Go.Proofs.YtkpijdndakljjaaGreat.Rt

namespace Go.Proofs.YtkpijdndakljjaaGreat.Jn
open Go.RowKit
def LC (v:BitVec 32):BitVec 32:=if v.toNat % 2=1 then (v >>> 1) ^^^ 3988292384#32 else v >>> 1
def itB:Nat->BitVec 32->BitVec 32
 | 0,v=>v
 | n+1,v=>LC (itB n v)
def QE (c:BitVec 32) (x:Int):BitVec 32:=itB 8 (c ^^^ BitVec.ofInt 32 x)
def ahm (l:List Int):BitVec 32:=l.foldl QE 4294967295#32
def crc (l:List Int):Int:=(((ahm l ^^^ 4294967295#32).toNat:Nat):Int)
theorem bvI (v:BitVec 32):BitVec.ofInt 32 ((v.toNat:Nat):Int)=v:=by
 rw [BitVec.ofInt_natCast,BitVec.ofNat_toNat,BitVec.setWidth_eq]
theorem aaY (v:BitVec 32):IntKind.wrap .u32 ((v.toNat:Nat):Int)=((v.toNat:Nat):Int):=by
 rw [Gq];have:=v.isLt;omega
theorem aem (v:BitVec 32):IntKind.wrap .u32 (Int.tdiv ((v.toNat:Nat):Int) 2)=(((v >>> 1).toNat:Nat):Int):=by
 rw [Gq,BitVec.toNat_ushiftRight,Nat.shiftRight_eq_div_pow,Int.tdiv_eq_ediv_of_nonneg (by omega)];have:=v.isLt;omega
theorem and1 (v:BitVec 32):(v &&& 1#32).toNat=v.toNat % 2:=by
 rw [BitVec.toNat_and];show v.toNat &&& 1=_;rw [Nat.and_one_is_mod]
theorem LD {α β:Type} (f:β->α->β) (b:β) (l:List α) {i:Nat} (h:i<l.length):(l.take (i+1)).foldl f b=f ((l.take i).foldl f b) l[i]:=by
 rw [List.take_add_one,List.getElem?_eq_getElem h,List.foldl_append];rfl
theorem YD (l:List Int) (h:Bytes l) (hl:l.length<=9223372036854775806):lY l=some (crc l):=by
 unfold lY;refine jU (a:=(((ahm l).toNat:Nat):Int)) (bQ (fun i=>((i:Int),((((l.take i).foldl QE 4294967295#32).toNat:Nat):Int))) l.length rfl ?_ ?_) ?_
 ·intro i hi;simp only [ay,aI,aF,aG,aJ,aO,aP,aK,List.take_length,Nat.le_refl,if_true,Nat.mul_one,Int.mul_one,cond_true,cond_false];rw [if_pos (by omega)];refine jU (a:=((((l.take (i+1)).foldl QE 4294967295#32).toNat:Nat):Int)) ?_ ?_
  ·rw [if_pos (by omega),EF hi];generalize hc:(l.take i).foldl QE 4294967295#32=c;have hx:=h.get hi;have e0:BitVec.ofInt 32 (IntKind.wrap .u32 l[i])=BitVec.ofInt 32 l[i]:=by
    rw [Gq];congr 1;omega
   refine bQ (fun j=>((j:Int),(((itB j (c ^^^ BitVec.ofInt 32 l[i])).toNat:Nat):Int))) 8 ?_ ?_ ?_
   ·show ((0:Int),(((c ^^^ BitVec.ofInt 32 l[i]).toNat:Nat):Int))=_;rw [e0,bvI,aaY]
   ·intro j hj;show _=some (Sum.inl (((j+1:Nat):Int),(((LC (itB j (c ^^^ BitVec.ofInt 32 l[i]))).toNat:Nat):Int)));generalize itB j (c ^^^ BitVec.ofInt 32 l[i])=v at *
    simp only [ay,aI,aF,aG,aJ,aO,aP,aK,List.take_length,Nat.le_refl,if_true,Nat.mul_one,Int.mul_one,cond_true,cond_false];rw [if_pos (by omega),aj (by omega)];simp only [aem,bvI,aaY];rw [show BitVec.ofInt 32 1=1#32 from rfl,and1];unfold LC;by_cases hb:v.toNat % 2=1
    ·rw [if_pos (by omega),if_pos hb];rfl
    ·rw [if_neg (by omega),if_neg hb];rfl
   ·simp only [ay,aI,aF,aG,aJ,aO,aP,aK,List.take_length,Nat.le_refl,if_true,Nat.mul_one,Int.mul_one,cond_true,cond_false];rw [if_neg (by omega),LD QE _ l hi,hc];rfl
  ·rw [aj (by omega)];rfl
 ·simp only [ay,aI,aF,aG,aJ,aO,aP,aK,List.take_length,Nat.le_refl,if_true,Nat.mul_one,Int.mul_one,cond_true,cond_false];rw [if_neg (by omega)];rfl
 ·simp only [bvI];rw [show BitVec.ofInt 32 4294967295=4294967295#32 from rfl,aaY,BitVec.xor_comm];rfl
theorem ahn (l:List Int) (h:Bytes l) (hl:l.length<=9223372036854775806):jA l=some (crc l):=by
 unfold jA;refine jU (a:=(((ahm l).toNat:Nat):Int)) (bQ (fun i=>((i:Int),((((l.take i).foldl QE 4294967295#32).toNat:Nat):Int))) l.length rfl ?_ ?_) ?_
 ·intro i hi;simp only [ay,aI,aF,aG,aJ,aO,aP,aK,List.take_length,Nat.le_refl,if_true,Nat.mul_one,Int.mul_one,cond_true,cond_false];rw [if_pos (by omega)];refine jU (a:=((((l.take (i+1)).foldl QE 4294967295#32).toNat:Nat):Int)) ?_ ?_
  ·rw [if_pos (by omega),EF hi];generalize hc:(l.take i).foldl QE 4294967295#32=c;have hx:=h.get hi;have e0:BitVec.ofInt 32 (IntKind.wrap .u32 l[i])=BitVec.ofInt 32 l[i]:=by
    rw [Gq];congr 1;omega
   refine bQ (fun j=>((j:Int),(((itB j (c ^^^ BitVec.ofInt 32 l[i])).toNat:Nat):Int))) 8 ?_ ?_ ?_
   ·show ((0:Int),(((c ^^^ BitVec.ofInt 32 l[i]).toNat:Nat):Int))=_;rw [e0,bvI,aaY]
   ·intro j hj;show _=some (Sum.inl (((j+1:Nat):Int),(((LC (itB j (c ^^^ BitVec.ofInt 32 l[i]))).toNat:Nat):Int)));generalize itB j (c ^^^ BitVec.ofInt 32 l[i])=v at *
    simp only [ay,aI,aF,aG,aJ,aO,aP,aK,List.take_length,Nat.le_refl,if_true,Nat.mul_one,Int.mul_one,cond_true,cond_false];rw [if_pos (by omega),aj (by omega)];simp only [aem,bvI,aaY];rw [Int.tmod_eq_emod_of_nonneg (by omega)];unfold LC;by_cases hb:v.toNat % 2=1
    ·rw [if_pos (by omega),if_pos hb];rfl
    ·rw [if_neg (by omega),if_neg hb];rfl
   ·simp only [ay,aI,aF,aG,aJ,aO,aP,aK,List.take_length,Nat.le_refl,if_true,Nat.mul_one,Int.mul_one,cond_true,cond_false];rw [if_neg (by omega),LD QE _ l hi,hc];rfl
  ·rw [aj (by omega)];rfl
 ·simp only [ay,aI,aF,aG,aJ,aO,aP,aK,List.take_length,Nat.le_refl,if_true,Nat.mul_one,Int.mul_one,cond_true,cond_false];rw [if_neg (by omega)];rfl
 ·simp only [bvI];rw [show BitVec.ofInt 32 4294967295=4294967295#32 from rfl,aaY];rfl
theorem QF (l:List Int):0<=crc l/\crc l<4294967296:=by
 unfold crc;have:=(ahm l ^^^ 4294967295#32).isLt;omega
def be:Nat->Int->List Int
 | 0,_=>[]
 | k+1,n=>be k (n / 256)++[n % 256]
theorem dA:∀(k:Nat) (n:Int),(be k n).length=k
 | 0,_=>rfl
 | k+1,n=>by rw [be,List.length_append,dA k];rfl
theorem rE:∀(k:Nat) (n:Int),be (k+1) n=(n / 256 ^ k % 256)::be k n
 | 0,n=>by simp [be]
 | k+1,n=>by
   rw [be,rE k,be,List.cons_append];congr 2;rw [Int.pow_succ,Int.mul_comm,<-Int.ediv_ediv_of_nonneg (by omega)]
theorem qc:∀(k:Nat) (n:Int),Bytes (be k n)
 | 0,_=>fun x hx=>by cases hx
 | k+1,n=>by
   rw [be];refine (qc k _).app fun x hx => ?_;rw [List.mem_singleton] at hx;omega
theorem Ah (n:Int) (k:Nat) (h0:0<=n) (hn:n<=9223372036854775807) (hk:k<=1000):dQ (n,(k:Int))=some (be k n):=by
 unfold dQ;refine jU (a:=be k n) (bQ (fun i=>((i:Int),(n / 256 ^ i,be i n))) k (by simp [be]) ?_ ?_) rfl
 ·intro i hi;have hp:0<(256:Int) ^ i:=Int.pow_pos (by omega);have hd0:0<=n / 256 ^ i:=Int.ediv_nonneg h0 (by omega);have hd1:n / 256 ^ i<=n:=Int.ediv_le_self _ h0;have hnext:IntKind.wrap .i64 (Int.tdiv (n / 256 ^ i) 256)=n / 256 ^ (i+1):=by
   rw [Int.tdiv_eq_ediv_of_nonneg hd0,Int.pow_succ,<-Int.ediv_ediv_of_nonneg (by omega),aj (by omega)]
  simp only [ay,aI,aF,aG,aJ,aO,aP,aK,List.take_length,Nat.le_refl,if_true,Nat.mul_one,Int.mul_one,cond_true,cond_false,rE i n];rw [if_pos (by omega),Int.tmod_eq_emod_of_nonneg hd0,yS,Int.emod_emod_of_dvd _ (by omega),hnext,aj (by omega),dA];by_cases hi0:i=0
  ·subst hi0;rw [if_neg (by omega)];rfl
  ·rw [if_pos (by omega),if_pos (by rw [List.length_append,dA];simp;omega)];rfl
 ·simp only [ay,aI,aF,aG,aJ,aO,aP,aK,List.take_length,Nat.le_refl,if_true,Nat.mul_one,Int.mul_one,cond_true,cond_false];rw [if_neg (by omega)]
theorem aen {β:Type} {body:Int×List Int->Option ((Int×List Int) ⊕ β)} (v:Int) (size:Nat) (b:List Int) (fin:List Int->β) {x:Int×List Int} (hx:x=((size:Int)-1,b))
 (h1:∀(i:Nat) (c:List Int),i<size->c.length<=b.length+size->body ((i:Int),c)=some (.inl ((i:Int)-1,c++[v / 256 ^ i % 256]))) (h2:∀c,body (-1,c)=some (.inr (fin c))):aA body x=some (fin (b++be size v)):=by
 have key:∀(n:Nat) (c:List Int),n<=size->c.length+n=b.length+size->aA body ((n:Int)-1,c)=some (fin (c++be n v)):=by
  intro n
  induction n with
  | zero=>intro c _ _;rw [dN,show (((0:Nat):Int)-1) = -1 from rfl,h2];simp [be]
  | succ n ih =>
    intro c hn hc;rw [dN,show (((n+1:Nat):Int)-1)=((n:Nat):Int) from by omega,h1 n c (by omega) (by omega)];simp only;rw [ih _ (by omega) (by rw [List.length_append];simp;omega),rE,List.append_assoc];rfl
 rw [hx];exact key size b (Nat.le_refl _) rfl
theorem QG (v:Int) (i:Nat) (hi:i<4):Int.fdiv v ((2:Int) ^ (Min.min (Int.toNat (8*(i:Int))) 32))=v / 256 ^ i:=by
 rw [Int.fdiv_eq_ediv_of_nonneg _ (Int.pow_nonneg (by omega))];rcases (by omega:i=0\/i=1\/i=2\/i=3) with rfl | rfl | rfl | rfl<;>rfl
def xI (fs:List (Int×Int)):List Int:=fs.flatMap fun f=>be f.2.toNat f.1
def headB (n k s:Int):List Int:=[167,k]++(be 4 n++(be 2 s++be 2 (65535-s)))
def preB (n k:Int) (d:List Int):List Int:=headB n k d.length++d
def vH (n k:Int) (d:List Int):List Int:=preB n k d++be 4 (crc (preB n k d))
def encS (n k:Int) (d:List Int):List Int×Int:=if n<0 then ([],3) else if n > 1048575 then ([],3) else if (d.length:Int) > 4096 then ([],4) else (vH n k d,0)
theorem lM (n k s:Int):(headB n k s).length=10:=by simp [headB,dA]
theorem Ir {n k s:Int} (hk:0<=k/\k<=255):Bytes (headB n k s):=by
 refine Bytes.app (fun x hx => ?_) ((qc _ _).app ((qc _ _).app (qc _ _)));simp only [List.mem_cons,List.not_mem_nil,or_false] at hx;omega
theorem LH {n k:Int} {d:List Int} (hk:0<=k/\k<=255) (hd:Bytes d):Bytes (preB n k d):=(Ir hk).app hd
theorem o7 (n k:Int) (d:List Int):(preB n k d).length=10+d.length:=by rw [preB,List.length_append,lM]
theorem aeo (n k s:Int) (hk:0<=k/\k<=255):xI [(167,1),(k,1),(n,4),(s,2),(65535-s,2)]=headB n k s:=by
 have h1:be 1 167=[167]:=rfl;have h2:be 1 k=[k]:=by simp [be];omega
 simp only [xI,List.flatMap_cons,List.flatMap_nil,List.append_nil];show be 1 167++(be 1 k++(be 4 n++(be 2 s++be 2 (65535-s))))=_;rw [h1,h2];rfl
theorem aep {β:Type} {body:Int×List Int->Option ((Int×List Int) ⊕ β)} (fs:List (Int×Int)) (b:List Int) (fin:List Int->β) {x:Int×List Int} (hx:x=(0,b))
 (h1:∀(i:Nat) (c:List Int) (hi:i<fs.length),c.length<=b.length+40->body ((i:Int),c)=some (.inl ((i:Int)+1,c++be fs[i].2.toNat fs[i].1))) (h2:∀c,body ((fs.length:Int),c)=some (.inr (fin c))) (h3:(xI fs).length<=40):aA body x=some (fin (b++xI fs)):=by
 have hle:∀i,(xI (fs.take i)).length<=(xI fs).length:=fun i=>by
  conv=>rhs;rw [<-List.take_append_drop i fs]
  unfold xI;rw [List.flatMap_append,List.length_append];omega
 refine bQ (fun i=>((i:Int),b++xI (fs.take i))) fs.length ?_ ?_ ?_
 ·rw [hx];simp [xI]
 ·intro i hi;rw [h1 i _ hi (by rw [List.length_append];have:=hle i;omega),List.take_add_one,List.getElem?_eq_getElem hi];unfold xI;rw [List.flatMap_append,<-List.append_assoc];simp
 ·simp only [List.take_length];exact h2 _
theorem Un (n k:Int) (d:List Int) (hn:n<=9223372036854775807) (hk:0<=k/\k<=255) (hd:Bytes d):eP (n,(k,d))=some (encS n k d):=by
 unfold eP encS;simp only [ay,aI,aF,aG,aJ,aO,aP,aK,List.take_length,Nat.le_refl,if_true,Nat.mul_one,Int.mul_one,cond_true,cond_false];by_cases h1:n<0
 ·rw [if_pos h1,if_pos h1]
 by_cases h2:n > 1048575
 ·rw [if_neg h1,if_pos (by omega),if_neg h1,if_pos h2]
 by_cases h3:(d.length:Int) > 4096
 ·rw [if_neg h1,if_neg (by omega),if_pos h3,if_neg h1,if_neg h2,if_pos h3]
 rw [if_neg h1,if_neg (by omega),if_neg h3,if_neg h1,if_neg h2,if_neg h3];refine iq (Ah n 4 (by omega) (by omega) (by omega)) ?_;rw [if_pos (by rw [dA];omega),if_pos (by simp [dA])];refine iq (Ah _ 2 (by omega) (by omega) (by omega)) ?_;rw [if_pos (by simp [dA])];rw [aj (by omega)];refine iq (Ah _ 2 (by omega) (by omega) (by omega)) ?_;rw [if_pos (by simp [dA]),if_pos (by simp [dA];omega)];have e:[167,k]++be 4 n++be 2 (d.length:Int)++be 2 (65535-(d.length:Int))++d=preB n k d:=by
  simp [preB,headB]
 rw [e];refine iq (ahn _ (LH hk hd) (by rw [o7];omega)) ?_;have:=QF (preB n k d);rw [aj (by omega)];refine iq (Ah _ 4 (by omega) (by omega) (by omega)) ?_;rw [if_pos (by rw [List.length_append,o7,dA];omega)];rfl
theorem aer (n k:Int) (d:List Int) (hn:n<=9223372036854775807) (hk:0<=k/\k<=255) (hd:Bytes d):mY (n,(k,d))=some (encS n k d):=by
 unfold mY encS;simp only [ay,aI,aF,aG,aJ,aO,aP,aK,List.take_length,Nat.le_refl,if_true,Nat.mul_one,Int.mul_one,cond_true,cond_false];by_cases h1:n<0
 ·rw [if_pos h1,if_pos h1]
 by_cases h2:n > 1048575
 ·rw [if_neg h1,if_pos (by omega),if_neg h1,if_pos h2]
 by_cases h3:(d.length:Int) > 4096
 ·rw [if_neg h1,if_neg (by omega),if_pos h3,if_neg h1,if_neg h2,if_pos h3]
 rw [if_neg h1,if_neg (by omega),if_neg h3,if_neg h1,if_neg h2,if_neg h3];have ws:∀z:Int,0<=z->z<=4294967295->IntKind.wrap .u32 z=z:=fun z a b=>by rw [Gq];omega
 rw [ws k (by omega) (by omega),ws n (by omega) (by omega),ws (d.length:Int) (by omega) (by omega),aj (n:=65535-(d.length:Int)) (by omega),ws (65535-(d.length:Int)) (by omega) (by omega)];refine jU (a:=headB n k d.length) ?_ ?_
 ·refine jU (a:=headB n k d.length) ?_ rfl;rw [<-aeo n k d.length hk];obtain ⟨L,hL⟩:∃L:List (Int×Int),L=[(167,1),(k,1),(n,4),((d.length:Int),2),(65535-(d.length:Int),2)]:=⟨_,rfl⟩
  have hlen:L.length=5:=by rw [hL];rfl
  have hsz:∀(i:Nat) (hi:i<L.length),1<=L[i].2/\L[i].2<=4:=fun i hi=>by
   subst hL;rcases (by omega:i=0\/i=1\/i=2\/i=3\/i=4) with rfl | rfl | rfl | rfl | rfl<;>exact ⟨by simp,by simp⟩
  have hfl:(xI L).length<=40:=by rw [hL,aeo n k d.length hk,lM];omega
  rw [<-hL];refine aep L [] Sum.inl rfl ?_ ?_ hfl
  ·intro i c hi hc;have hz:=hsz i hi;have hc40:c.length<=40:=hc;simp only [ay,aI,aF,aG,aJ,aO,aP,aK,List.take_length,Nat.le_refl,if_true,Nat.mul_one,Int.mul_one,cond_true,cond_false];rw [if_pos (by omega)];refine jU (a:=c++be L[i].2.toNat L[i].1) ?_ ?_
   ·rw [if_pos (by omega),EF hi];refine aen L[i].1 L[i].2.toNat c Sum.inl ?_ ?_ ?_
    ·rw [aj (by omega)];congr 1;omega
    ·intro j b hj hb;simp only [ay,aI,aF,aG,aJ,aO,aP,aK,List.take_length,Nat.le_refl,if_true,Nat.mul_one,Int.mul_one,cond_true,cond_false];rw [if_pos (by omega),aj (n:=8*(j:Int)) (by omega),if_pos (by omega),QG _ j (by omega),yS,if_pos (by rw [List.length_append];simp;omega),aj (by omega)]
    ·intro b;simp only [ay,aI,aF,aG,aJ,aO,aP,aK,List.take_length,Nat.le_refl,if_true,Nat.mul_one,Int.mul_one,cond_true,cond_false];rw [if_neg (by omega)]
   ·rw [aj (by omega)]
  ·intro c;simp only [ay,aI,aF,aG,aJ,aO,aP,aK,List.take_length,Nat.le_refl,if_true,Nat.mul_one,Int.mul_one,cond_true,cond_false];rw [if_neg (by omega)]
 ·rw [show headB n k (d.length:Int)++d=preB n k d from rfl,if_pos (by rw [o7];omega)];refine iq (YD _ (LH hk hd) (by rw [o7];omega)) ?_;have hcb:=QF (preB n k d);generalize hP:preB n k d=B at *
  have hB:B.length<=5000:=by rw [<-hP,o7];omega
  refine jU (a:=B++be 4 (crc B)) ?_ ?_
  ·refine jU (a:=B++be 4 (crc B)) ?_ rfl;have e1:xI [(crc B,4)]=be 4 (crc B):=by simp only [xI,List.flatMap_cons,List.flatMap_nil,List.append_nil];rfl
   rw [<-e1];refine aep [(crc B,4)] B Sum.inl rfl ?_ ?_ ?_
   ·intro i c hi hc;have hi1:i<1:=hi;have hi0:i=0:=by omega
    subst hi0;simp only [ay,aI,aF,aG,aJ,aO,aP,aK,List.take_length,Nat.le_refl,if_true,Nat.mul_one,Int.mul_one,cond_true,cond_false];rw [if_pos (by omega)];refine jU (a:=c++be 4 (crc B)) ?_ ?_
    ·rw [if_pos (by omega)];refine iq rfl ?_;refine aen (crc B) 4 c Sum.inl rfl ?_ ?_
     ·intro j b hj hb;have hj4:j<4:=hj;simp only [ay,aI,aF,aG,aJ,aO,aP,aK,List.take_length,Nat.le_refl,if_true,Nat.mul_one,Int.mul_one,cond_true,cond_false];rw [if_pos (by omega),aj (n:=8*(j:Int)) (by omega),if_pos (by omega),QG _ j (by omega),yS,if_pos (by rw [List.length_append];simp;omega),aj (by omega)]
     ·intro b;simp only [ay,aI,aF,aG,aJ,aO,aP,aK,List.take_length,Nat.le_refl,if_true,Nat.mul_one,Int.mul_one,cond_true,cond_false];rw [if_neg (by omega)]
    ·rw [aj (by omega)];rfl
   ·intro c;simp only [ay,aI,aF,aG,aJ,aO,aP,aK,List.take_length,Nat.le_refl,if_true,Nat.mul_one,Int.mul_one,cond_true,cond_false];rw [if_neg (by simp)]
   ·rw [e1,dA];omega
  ·rw [vH,hP]
def uX (n:Int):List Int:=[167,0]++be 4 n
theorem qg (n:Int):(uX n).length=6:=by simp [uX,dA]
def YE (b:List Int) (n:Int) (i:Nat):Prop :=
 i<b.length/\((i<6/\i≠1/\b.getD i 0≠(uX n).getD i 0)\/(i=8/\b.getD 8 0≠255-b.getD 6 0)\/(i=9/\b.getD 9 0≠255-b.getD 7 0))
def Wrong (b:List Int) (n:Int):Prop:=(8<=b.length/\256*b.getD 6 0+b.getD 7 0 > 4096)\/∃i,i<10/\YE b n i
theorem WB (n s:Int):headB n 0 s=uX n++(be 2 s++be 2 (65535-s)):=by simp [headB,uX]
theorem LJ (n s:Int) {i:Nat} (hi:i<6):(headB n 0 s).getD i 0=(uX n).getD i 0:=by
 rw [WB,List.getD_eq_getElem?_getD,List.getElem?_append_left (by rw [qg];exact hi),<-List.getD_eq_getElem?_getD]
theorem Iu {β:Type} {body:Int×List Int->Option ((Int×List Int) ⊕ (List Int ⊕ β))} (L:List (Int×Int)) (m:Int) (hm:m=(L.length:Int)) (hsz:∀(i:Nat) (hi:i<L.length),1<=L[i].2/\L[i].2<=4) (hfl:(xI L).length<=40) (hL:L.length<=40) (B:List Int) (hB:B.length<=1000000)
 (hbody:∀x,body x=(if x.1<m then aB (if 0<=x.1/\x.1<m then ah L[x.1.toNat]? fun f=>aA (fun y=>if y.1>=0 then if 0<=IntKind.wrap .i64 (8*y.1) then if (y.2++[IntKind.wrap .u8 (Int.fdiv f.1 (2 ^ Min.min (Int.toNat (IntKind.wrap .i64 (8*y.1))) 32))]).length<=140737488355328 then some (Sum.inl (IntKind.wrap .i64 (y.1-1),y.2++[IntKind.wrap .u8 (Int.fdiv f.1 (2 ^ Min.min (Int.toNat (IntKind.wrap .i64 (8*y.1))) 32))])) else none else none else some (Sum.inr (Sum.inl y.2))) (IntKind.wrap .i64 (f.2-1),x.2) else none) (fun v=>some (Sum.inl (IntKind.wrap .i64 (x.1+1),v))) else some (Sum.inr (Sum.inl x.2)))):aA body (0,B)=some (Sum.inl (B++xI L)):=by
 refine aep L B Sum.inl rfl ?_ ?_ hfl
 ·intro i c hi hc;have hz:=hsz i hi;rw [hbody];simp only [ay,aI,aF,aG,aJ,aO,aP,aK,List.take_length,Nat.le_refl,if_true,Nat.mul_one,Int.mul_one,cond_true,cond_false];rw [if_pos (by omega)];refine jU (a:=c++be L[i].2.toNat L[i].1) ?_ ?_
  ·rw [if_pos (by omega),EF hi];refine aen L[i].1 L[i].2.toNat c Sum.inl ?_ ?_ ?_
   ·rw [aj (by omega)];congr 1;omega
   ·intro j b hj hb;simp only [ay,aI,aF,aG,aJ,aO,aP,aK,List.take_length,Nat.le_refl,if_true,Nat.mul_one,Int.mul_one,cond_true,cond_false];rw [if_pos (by omega),aj (n:=8*(j:Int)) (by omega),if_pos (by omega),QG _ j (by omega),yS,if_pos (by rw [List.length_append];simp;omega),aj (by omega)]
   ·intro b;simp only [ay,aI,aF,aG,aJ,aO,aP,aK,List.take_length,Nat.le_refl,if_true,Nat.mul_one,Int.mul_one,cond_true,cond_false];rw [if_neg (by omega)]
  ·rw [aj (by omega)]
 ·intro c;rw [hbody];simp only [ay,aI,aF,aG,aJ,aO,aP,aK,List.take_length,Nat.le_refl,if_true,Nat.mul_one,Int.mul_one,cond_true,cond_false];rw [if_neg (by omega)]
theorem aho (n k s:Int) (i:Nat) (hi:i<[((167:Int),(1:Int)),(k,1),(n,4),(s,2),(65535-s,2)].length):1<=[((167:Int),(1:Int)),(k,1),(n,4),(s,2),(65535-s,2)][i].2/\[((167:Int),(1:Int)),(k,1),(n,4),(s,2),(65535-s,2)][i].2<=4:=by
 have hi5:i<5:=hi;rcases (by omega:i=0\/i=1\/i=2\/i=3\/i=4) with rfl | rfl | rfl | rfl | rfl<;>exact ⟨by simp,by simp⟩
set_option maxHeartbeats 4000000 in
theorem aes (b:List Int) (n:Int) (hb:Bytes b) (hl:b.length<=9223372036854775806) (hn:0<=n/\n<1048576):∃r,mZ (b,n)=some r/\(r=false↔Wrong b n):=by
 unfold mZ;have hx:∀i,0<=b.getD i 0/\b.getD i 0<=255:=fun i=>hb.getD i;have x6:=hx 6;have x7:=hx 7;have g:∀i,i<b.length->b[i]? = some (b.getD i 0):=fun i hi=>qN 0 hi;by_cases hbig:8<=b.length/\256*b.getD 6 0+b.getD 7 0 > 4096
 ·refine ⟨false,OB ?_,iff_of_true rfl (.inl hbig)⟩;obtain ⟨h8,h9⟩:=hbig;simp (disch:=omega) only [ay,aI,aF,aG,aJ,aO,aP,aK,List.take_length,Nat.le_refl,if_true,Nat.mul_one,Int.mul_one,cond_true,cond_false,if_pos,if_neg,g,KG]
 ·obtain ⟨s,hs,h1⟩:∃s:Int,(0<=s/\s<=4096)/\(bif (decide ((b.length:Int)>=(8:Int))) then
 bif (decide (((0:Int)<=(6:Int))/\((6:Int)<(b.length:Int)))) then
 ah b[6]? fun x3 =>
 bif (decide (((0:Int)<=(7:Int))/\((7:Int)<(b.length:Int)))) then
 ah b[7]? fun x6 =>
 ah (some (IntKind.wrap .i64 (((BitVec.toNat ((BitVec.ofInt 64 (IntKind.wrap .i64 ((IntKind.wrap .i64 x3)*(256:Int)))) ||| (BitVec.ofInt 64 (IntKind.wrap .i64 x6)))):Nat):Int))) fun x8 =>
 bif (decide (x8 > (4096:Int))) then
 au (some false)
 else
 some (Sum.inl x8)
 else none
 else none
 else
 some (Sum.inl (0:Int)))=some (Sum.inl s):=by
   by_cases h8:8<=b.length
   ·refine ⟨256*b.getD 6 0+b.getD 7 0,by omega,?_⟩;simp (disch:=omega) only [ay,aI,aF,aG,aJ,aO,aP,aK,List.take_length,Nat.le_refl,if_true,Nat.mul_one,Int.mul_one,cond_true,cond_false,if_pos,if_neg,g,KG]
   ·refine ⟨0,by omega,?_⟩;simp (disch:=omega) only [ay,aI,aF,aG,aJ,aO,aP,aK,List.take_length,Nat.le_refl,if_true,Nat.mul_one,Int.mul_one,cond_true,cond_false,if_pos,if_neg]
  suffices hg:∃r,(aB (some (Sum.inl s)) _:Option Bool)=some r/\(r=false↔Wrong b n) by
   obtain ⟨r,hr,h2⟩:=hg;exact ⟨r,by rw [<-h1] at hr;exact hr,h2⟩
  rw [aF];have ws:∀z:Int,0<=z->z<=4294967295->IntKind.wrap .u32 z=z:=fun z a b=>by rw [Gq];omega
  rw [ws n (by omega) (by omega),ws s (by omega) (by omega),aj (n:=65535-s) (by omega),ws (65535-s) (by omega) (by omega)];have hF:(xI [(167,1),(0,1),(n,4),(s,2),(65535-s,2)])=headB n 0 s:=aeo n 0 s (by omega);simp only [ay,aI,aF,aG,aJ,aO,aP,aK,List.take_length,Nat.le_refl,if_true,Nat.mul_one,Int.mul_one,cond_true,cond_false];have hloop:=Iu (β:=List Int ⊕ Bool) [(167,1),(0,1),(n,4),(s,2),(65535-s,2)] 5 rfl (aho n 0 s) (by rw [hF,lM];omega) (by simp) [] (by simp) (fun _=>rfl);rw [hloop];simp only [ay,aI,aF,aG,aJ,aO,aP,aK,List.take_length,Nat.le_refl,if_true,Nat.mul_one,Int.mul_one,cond_true,cond_false];rw [hF];simp only [List.nil_append];have hbytes:=Ir (n:=n) (k:=0) (s:=s) (by omega);have hHl:=lM n 0 s;have hminA:∀z:Int,Pe z 10=if 10<z then 10 else z:=fun z=>rfl;refine BP (fun o:Option Bool=>∃r,o=some r/\(r=false↔Wrong b n)) (fun i=>(i:Int)) (min b.length 10) (YE b n) (.inl ()) (.inr false) rfl ?_ ?_ ?_ ?_ ?_
  ·intro i hi hbad;have hlt:(i:Int)<Pe (b.length:Int) 10:=by rw [hminA];split<;>omega
   have hnext:IntKind.wrap .i64 ((i:Int)+1)=((i+1:Nat):Int):=by rw [aj (by omega)];omega
   rw [if_pos hlt,hnext];by_cases i1:i=1\/i=6\/i=7
   ·rcases i1 with rfl | rfl | rfl<;>rfl
   have e1:(if (i:Int)=1 then (some (Sum.inl true):Option (Bool ⊕ (Int ⊕ (Unit ⊕ Bool)))) else if (i:Int)=6 then some (Sum.inl true) else some (Sum.inl (decide ((i:Int)=7))))=some (Sum.inl false):=by
    rw [if_neg (by omega),if_neg (by omega),decide_eq_false (by omega)]
   have hd:=hx i;by_cases i8:i=8\/i=9
   ·have hd2:=hx (i-2);have hbad':¬(b.getD i 0≠255-b.getD (i-2) 0):=fun h=>hbad ⟨by omega,by rcases i8 with rfl | rfl;exact .inr (.inl ⟨rfl,h⟩);exact .inr (.inr ⟨rfl,h⟩)⟩;have e2:IntKind.wrap .i64 ((i:Int)-2)=((i-2:Nat):Int):=by rw [aj (by omega)];omega
    have e3:(if (i:Int)=8 then (some (Sum.inl true):Option (Bool ⊕ (Int ⊕ (Unit ⊕ Bool)))) else some (Sum.inl (decide ((i:Int)=9))))=some (Sum.inl true):=by rcases i8 with rfl | rfl<;>rfl
    simp (disch:=omega) only [ay,aI,aF,aG,aJ,aO,aP,aK,List.take_length,Nat.le_refl,if_true,Nat.mul_one,Int.mul_one,cond_true,cond_false,e1,e2,e3,Ie (0:Int),yS,if_pos];rw [if_neg (by omega)]
   ·have e3:(if (i:Int)=8 then (some (Sum.inl true):Option (Bool ⊕ (Int ⊕ (Unit ⊕ Bool)))) else some (Sum.inl (decide ((i:Int)=9))))=some (Sum.inl false):=by
     rw [if_neg (by omega),decide_eq_false (by omega)]
    have hbad':b.getD i 0=(uX n).getD i 0:=Decidable.not_not.1 fun h=>hbad ⟨by omega,.inl ⟨by omega,by omega,h⟩⟩;simp (disch:=omega) only [ay,aI,aF,aG,aJ,aO,aP,aK,List.take_length,Nat.le_refl,if_true,Nat.mul_one,Int.mul_one,cond_true,cond_false,e1,e3,Ie (0:Int),if_pos,LJ n s (show i<6 by omega)];rw [if_neg (fun h=>h hbad')]
  ·intro i hi hbad;have hlt:(i:Int)<Pe (b.length:Int) 10:=by rw [hminA];split<;>omega
   have hnext:IntKind.wrap .i64 ((i:Int)+1)=((i+1:Nat):Int):=by rw [aj (by omega)];omega
   rw [if_pos hlt,hnext];by_cases i1:i=1\/i=6\/i=7
   ·obtain ⟨_,hbd⟩:=hbad;rcases hbd with ⟨_,_,_⟩ | ⟨_,_⟩ | ⟨_,_⟩<;>omega
   have e1:(if (i:Int)=1 then (some (Sum.inl true):Option (Bool ⊕ (Int ⊕ (Unit ⊕ Bool)))) else if (i:Int)=6 then some (Sum.inl true) else some (Sum.inl (decide ((i:Int)=7))))=some (Sum.inl false):=by
    rw [if_neg (by omega),if_neg (by omega),decide_eq_false (by omega)]
   have hd:=hx i;obtain ⟨hlb,hbd⟩:=hbad;by_cases i8:i=8\/i=9
   ·have hd2:=hx (i-2);have hbad':b.getD i 0≠255-b.getD (i-2) 0:=by
     rcases hbd with ⟨_,_,_⟩ | ⟨h,h'⟩ | ⟨h,h'⟩
     ·omega
     ·subst h;exact h'
     ·subst h;exact h'
    have e2:IntKind.wrap .i64 ((i:Int)-2)=((i-2:Nat):Int):=by rw [aj (by omega)];omega
    have e3:(if (i:Int)=8 then (some (Sum.inl true):Option (Bool ⊕ (Int ⊕ (Unit ⊕ Bool)))) else some (Sum.inl (decide ((i:Int)=9))))=some (Sum.inl true):=by rcases i8 with rfl | rfl<;>rfl
    simp (disch:=omega) only [ay,aI,aF,aG,aJ,aO,aP,aK,List.take_length,Nat.le_refl,if_true,Nat.mul_one,Int.mul_one,cond_true,cond_false,e1,e2,e3,Ie (0:Int),yS,if_pos]
   ·have e3:(if (i:Int)=8 then (some (Sum.inl true):Option (Bool ⊕ (Int ⊕ (Unit ⊕ Bool)))) else some (Sum.inl (decide ((i:Int)=9))))=some (Sum.inl false):=by
     rw [if_neg (by omega),decide_eq_false (by omega)]
    have hbad':b.getD i 0≠(uX n).getD i 0:=by
     rcases hbd with ⟨_,_,h⟩ | ⟨_,_⟩ | ⟨_,_⟩
     ·exact h
     ·omega
     ·omega
    simp (disch:=omega) only [ay,aI,aF,aG,aJ,aO,aP,aK,List.take_length,Nat.le_refl,if_true,Nat.mul_one,Int.mul_one,cond_true,cond_false,e1,e3,Ie (0:Int),if_pos,LJ n s (show i<6 by omega)]
  ·rw [if_neg (by rw [hminA];split<;>omega)]
  ·rintro ⟨i,h1,h2⟩;exact ⟨false,rfl,iff_of_true rfl (.inr ⟨i,by omega,h2⟩)⟩
  ·intro hno;refine ⟨true,rfl,iff_of_false (by simp) ?_⟩;rintro (h | ⟨i,h1,h2⟩)
   ·exact hbig h
   ·exact hno ⟨i,by have:=h2.1;omega,h2⟩
def szB (b:List Int):Nat:=(256*b.getD 6 0+b.getD 7 0).toNat
open Classical in
noncomputable def oh (b:List Int) (n:Nat):(Int×List Int)×(Int×Int) :=
 if n>=1048576\/Wrong b n then ((0,[]),(0,5)) else
 if b.length<14 then ((0,[]),(0,6)) else
 if b.length<14+szB b then ((0,[]),(0,6)) else
 if be 4 (crc (b.take (10+szB b)))=(b.drop (10+szB b)).take 4 then ((b.getD 1 0,(b.drop 10).take (szB b)),(((14+szB b:Nat):Int),0)) else ((0,[]),(0,11))
theorem QH {b:List Int} (hb:Bytes b):((szB b:Nat):Int)=256*b.getD 6 0+b.getD 7 0:=by
 have:=hb.getD 6;have:=hb.getD 7;unfold szB;omega
theorem QI {b:List Int} {n:Int} (h:¬Wrong b n) {i:Nat} (hi:i<10):¬YE b n i:=fun hb=>h (.inr ⟨i,hi,hb⟩)
theorem ahp {b:List Int} {n:Int} (hb:Bytes b) (h:¬Wrong b n) (hl:10<=b.length):b.take 10=headB n (b.getD 1 0) (szB b):=by
 have hs:=QH hb;have x6:=hb.getD 6;have x7:=hb.getD 7;have k:∀i,i<6->i≠1->b.getD i 0=(uX n).getD i 0:=fun i h1 h2=>Decidable.not_not.1 fun hh=>QI h (show i<10 by omega) ⟨by omega,.inl ⟨h1,h2,hh⟩⟩;have k8:b.getD 8 0=255-b.getD 6 0:=Decidable.not_not.1 fun hh=>QI h (show 8<10 by omega) ⟨by omega,.inr (.inl ⟨rfl,hh⟩)⟩;have k9:b.getD 9 0=255-b.getD 7 0:=Decidable.not_not.1 fun hh=>QI h (show 9<10 by omega) ⟨by omega,.inr (.inr ⟨rfl,hh⟩)⟩;refine List.ext_getElem (by rw [lM,List.length_take];omega) fun i h1 h2 => ?_;rw [lM] at h2;rw [List.getElem_take,<-Ac 0 (by omega),<-Ac 0 (by rw [lM];exact h2)];have e2:be 2 (szB b:Int)=[b.getD 6 0,b.getD 7 0]:=by
  simp only [be,List.nil_append,List.cons_append];rw [hs];congr 1
  ·omega
  ·congr 1;omega
 have e3:be 2 (65535-(szB b:Int))=[b.getD 8 0,b.getD 9 0]:=by
  simp only [be,List.nil_append,List.cons_append];rw [hs,k8,k9];congr 1
  ·omega
  ·congr 1;omega
 unfold headB;rw [e2,e3];have hw:∀i,i<6->i≠1->([167,b.getD 1 0]++(be 4 n++([b.getD 6 0,b.getD 7 0]++[b.getD 8 0,b.getD 9 0]))).getD i 0=(uX n).getD i 0:=fun i h1 h2=>by
  unfold uX
  match i,h1,h2 with
  | 0,_,_=>rfl
  | 2,_,_=>rfl
  | 3,_,_=>rfl
  | 4,_,_=>rfl
  | 5,_,_=>rfl
 by_cases h6:i<6/\i≠1
 ·rw [hw i h6.1 h6.2,k i h6.1 h6.2]
 ·match i,h2,h6 with
  | 1,_,_=>rfl
  | 6,_,_=>rfl
  | 7,_,_=>rfl
  | 8,_,_=>rfl
  | 9,_,_=>rfl
  | 0,_,h6=>omega
  | 2,_,h6=>omega
  | 3,_,h6=>omega
  | 4,_,h6=>omega
  | 5,_,h6=>omega
theorem alN {b:List Int} {n:Int} (hb:Bytes b) (h:¬Wrong b n) (hl:10+szB b<=b.length):b.take (10+szB b)=preB n (b.getD 1 0) ((b.drop 10).take (szB b)):=by
 rw [List.take_add,ahp hb h (by omega),preB];congr 2;rw [List.length_take,List.length_drop];omega
theorem aiL {b:List Int} {n:Int} (hb:Bytes b) (h:¬Wrong b n) (hl:8<=b.length):szB b<=4096:=by
 have:=QH hb;by_cases hh:256*b.getD 6 0+b.getD 7 0 > 4096
 ·exact (h (.inl ⟨hl,hh⟩)).elim
 ·omega
theorem aeu {a b:List Int} (hl:a.length=b.length) (h:∀i,i<a.length->a.getD i 0=b.getD i 0):a=b:=by
 refine List.ext_getElem hl fun i h1 h2 => ?_;have:=h i h1
 rwa [Ac 0 h1,Ac 0 h2] at this
theorem getD_take {l:List Int} {i n:Nat} (h:i<n):(l.take n).getD i 0=l.getD i 0:=by
 rw [List.getD_eq_getElem?_getD,List.getElem?_take_of_lt h,List.getD_eq_getElem?_getD]
section
variable {b:List Int} {n:Nat}
theorem yG (h:n>=1048576\/Wrong b n):oh b n=((0,[]),(0,5)):=by unfold oh;rw [if_pos h]
theorem uY (h:¬(n>=1048576\/Wrong b n)) (k:b.length<14+szB b):oh b n=((0,[]),(0,6)):=by
 unfold oh;rw [if_neg h];by_cases h14:b.length<14
 ·rw [if_pos h14]
 ·rw [if_neg h14,if_pos k]
theorem Dj (h:¬(n>=1048576\/Wrong b n)) (k:¬b.length<14+szB b) (c:¬be 4 (crc (b.take (10+szB b)))=(b.drop (10+szB b)).take 4):oh b n=((0,[]),(0,11)):=by
 unfold oh;rw [if_neg h,if_neg (by omega),if_neg k,if_neg c]
theorem QJ (h:¬(n>=1048576\/Wrong b n)) (k:¬b.length<14+szB b) (c:be 4 (crc (b.take (10+szB b)))=(b.drop (10+szB b)).take 4):oh b n=((b.getD 1 0,(b.drop 10).take (szB b)),(((14+szB b:Nat):Int),0)):=by
 unfold oh;rw [if_neg h,if_neg (by omega),if_neg k,if_pos c]
end
end Go.Proofs.YtkpijdndakljjaaGreat.Jn
