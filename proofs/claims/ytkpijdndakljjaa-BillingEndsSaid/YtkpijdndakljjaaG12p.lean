import Derived.Test.YtkpijdndakljjaaV7p
import Derived.Test.YtkpijdndakljjaaY3p
import Derived.Test.YtkpijdndakljjaaZrp
set_option linter.unusedSimpArgs false
set_option linter.unusedVariables false
set_option maxRecDepth 100000
namespace Go.Proofs.Ytkpijdndakljjaa.Rt
open Go.RowKit
theorem get_bz {α β:Type} {l:List α} {v:Int} (d:α) (f:α→Option β) (h:0≤v∧v<(l.length:Int)):bindO l[Int.toNat v]? f=f (l.getD v.toNat d):=by rw [get_D' d (by omega)];rfl
theorem get_at {α:Type} {l:List α} {i:Nat} (d:α) (h:i<l.length):∃x,l.getD i d=x∧∀ {β:Type} (f:α→Option β),bindO l[Int.toNat (i:Int)]? f=f x:=⟨_,rfl,fun f=>get_bz d f (by omega)⟩
def Is (o:Option Bool) (P:Prop):Prop:=(P∧o=some true)∨(¬P∧o=some false)
theorem Is.t {P:Prop} (h:P):Is (some true) P := .inl ⟨h,rfl⟩
theorem Is.f {P:Prop} (h:¬P):Is (some false) P := .inr ⟨h,rfl⟩
theorem Is.d {P Q:Prop} [Decidable Q] (h:Q↔P):Is (some (decide Q)) P:=by
 by_cases k:Q
 ·exact .inl ⟨h.1 k,by rw [decide_eq_true k]⟩
 ·exact .inr ⟨fun p=>k (h.2 p),by rw [decide_eq_false k]⟩
theorem Is.eq {o o':Option Bool} {P:Prop} (h:Is o P) (k:Is o' P):o=o':=by
 rcases h with ⟨h,e⟩ | ⟨h,e⟩<;>rcases k with ⟨k,e'⟩ | ⟨k,e'⟩
 ·rw [e,e']
 ·exact (k h).elim
 ·exact (h k).elim
 ·rw [e,e']
theorem Is.and {γ:Type} {k:γ→Option Bool} {P Q:Prop} (x:Option (γ ⊕ Bool)) (h:(P∧∃g,x=some (.inl g)∧Is (k g) Q)∨(¬P∧x=some (.inr false))):Is (joinO x k) (P∧Q):=by
 rcases h with ⟨h,g,e,hp⟩ | ⟨h,e⟩
 ·rw [e]
  show Is (k g) _
  rcases hp with ⟨q,e'⟩ | ⟨q,e'⟩
  ·exact .inl ⟨⟨h,q⟩,e'⟩
  ·exact .inr ⟨fun k=>q k.2,e'⟩
 ·rw [e]
  exact .inr ⟨fun q=>h q.1,rfl⟩
theorem within_b {β:Type} (a b c:Int) (f:Bool→Option β):bindO (rating_within (a,(b,c))) f=f (decide (b≤a∧a≤c)):=by
 have e:rating_within (a,(b,c))=bif decide (a≥b) then some (decide (a≤c)) else some false:=rfl
 rw [e,cond_ite]
 by_cases h:b≤a
 ·rw [if_pos (show a≥b from h)]
  simp [h,bindO_some]
 ·rw [if_neg (show ¬a≥b from h)]
  simp [h,bindO_some]
theorem money_b {β:Type} (a:Int) (f:Bool→Option β):bindO (dialtoneref37_money a) f=f (decide (0≤a∧a≤1000000000)):=by
 have e:dialtoneref37_money a=bif decide (a≥0) then some (decide (a≤1000000000)) else some false:=rfl
 rw [e,cond_ite]
 by_cases h:0≤a
 ·rw [if_pos (show a≥0 from h)]
  simp [h,bindO_some]
 ·rw [if_neg (show ¬a≥0 from h)]
  simp [h,bindO_some]
abbrev BdOk (d f t:Int):Prop:=(1≤d∧d≤127)∧0≤f∧f<t∧t≤1440
theorem bandP_j (d f t:Int):rating_validBand (d,(f,t))=some (decide (BdOk d f t)):=by
 unfold rating_validBand
 by_cases h1:1≤d<;>by_cases h2:d≤127<;>by_cases h3:0≤f<;>by_cases h4:f<t<;>simp [h1,h2,h3,h4,BdOk]
theorem bandR_j (d f t:Int):dialtoneref37_Band (d,(f,t))=some (decide (BdOk d f t)):=by
 unfold dialtoneref37_Band
 by_cases h1:1≤d<;>by_cases h2:d≤127<;>by_cases h3:0≤f<;>by_cases h4:f<t<;>simp [h1,h2,h3,h4,BdOk]
abbrev MnOk (a:Int):Prop:=0≤a∧a≤1000000000
abbrev Pok (p:Pr1):Prop:=BdOk p.1.1 p.1.2.1 p.1.2.2∧MnOk p.2.1∧MnOk p.2.2
theorem bandR_b {β:Type} (d f t:Int) (k:Bool→Option β):bindO (dialtoneref37_Band (d,(f,t))) k=k (decide (BdOk d f t)):=by rw [bandR_j];rfl
theorem priceP_b {β:Type} (p:Pr1) (k:Bool→Option β):bindO (rating_validPrice (p.1.1,(p.1.2.1,(p.1.2.2,(p.2.1,p.2.2))))) k=k (decide (Pok p)):=by
 obtain ⟨⟨d,f,t⟩,m,n⟩:=p
 have e:rating_validPrice (d,(f,(t,(m,n))))=some (decide (Pok ((d,(f,t)),(m,n)))):=by
  unfold rating_validPrice
  simp only [bandP_j,bindO_some]
  by_cases h:BdOk d f t<;>by_cases h1:0≤m<;>by_cases h2:m≤1000000000<;>by_cases h3:0≤n<;>simp [h,h1,h2,h3,Pok,MnOk]
 show bindO (rating_validPrice (d,(f,(t,(m,n))))) k=_
 rw [e];rfl
abbrev p0:Pr1:=((0,(0,0)),(0,0))
abbrev r0:Ra:=([],(0,(0,(0,[]))))
noncomputable def dgB (a1:List UInt8):Int→Option (Int ⊕ (Unit ⊕ Bool)) :=
(fun v8 =>
 bif (decide (v8<(((List.length a1):Nat):Int))) then
 bif (decide (((0:Int)≤v8)∧(v8<(((List.length a1):Nat):Int)))) then
 bif (decide ((((UInt8.toNat (List.getD a1 (Int.toNat v8) (0:UInt8))):Nat):Int)<(48:Int))) then
 outO (outO (some Bool.false))
 else
 bif (decide (((0:Int)≤v8)∧(v8<(((List.length a1):Nat):Int)))) then
 bif (decide ((((UInt8.toNat (List.getD a1 (Int.toNat v8) (0:UInt8))):Nat):Int) > (57:Int))) then
 outO (outO (some Bool.false))
 else
 some (Sum.inl (Go.IntKind.wrap .i64 (v8+(1:Int))))
 else none
 else none
 else
 outO (some (Sum.inl ())))
noncomputable def ppB (a5:List Pr1):Int→Option (Int ⊕ (Unit ⊕ Bool)) :=
(fun v10 =>
 bif (decide (v10<(((List.length a5):Nat):Int))) then
 bif (decide (((0:Int)≤v10)∧(v10<(((List.length a5):Nat):Int)))) then
 bindO a5[(Int.toNat v10)]? fun x11 =>
 bindO (rating_validPrice (x11.1.1,(x11.1.2.1,(x11.1.2.2,(x11.2.1,x11.2.2))))) fun x12 =>
 bif (!x12) then
 outO (outO (some Bool.false))
 else
 some (Sum.inl (Go.IntKind.wrap .i64 (v10+(1:Int))))
 else none
 else
 outO (some (Sum.inl ())))
noncomputable def prB (a5:List Pr1):Int→Option (Int ⊕ (Unit ⊕ Bool)) :=
(fun v9 =>
 bif (decide (v9<(((List.length a5):Nat):Int))) then
 bif (decide (((0:Int)≤v9)∧(v9<(((List.length a5):Nat):Int)))) then
 bindO a5[(Int.toNat v9)]? fun x10 =>
 bindO (dialtoneref37_Band (x10.1.1,(x10.1.2.1,x10.1.2.2))) fun x11 =>
 bif (!x11) then
 outO (outO (some Bool.false))
 else
 bindO (dialtoneref37_money x10.2.1) fun x12 =>
 bif (!x12) then
 outO (outO (some Bool.false))
 else
 bindO (dialtoneref37_money x10.2.2) fun x13 =>
 bif (!x13) then
 outO (outO (some Bool.false))
 else
 some (Sum.inl (Go.IntKind.wrap .i64 (v9+(1:Int))))
 else none
 else
 outO (some (Sum.inl ())))
theorem validRate_eq (a1:List UInt8) (a2 a3 a4:Int) (a5:List Pr1):rating_validRate (a1,(a2,(a3,(a4,a5)))) =
 joinO (bif (decide ((((List.length a1):Nat):Int) > (20:Int))) then
 outO (some Bool.false)
 else
 bif (decide (a2<(0:Int))) then
 outO (some Bool.false)
 else
 bif (decide (a2 > (1000000000:Int))) then
 outO (some Bool.false)
 else
 bindO (rating_within (a3,((1:Int),(3600:Int)))) fun x6 =>
 bif (!x6) then
 outO (some Bool.false)
 else
 bindO (rating_within (a4,((1:Int),(3600:Int)))) fun x7 =>
 bif (!x7) then
 outO (some Bool.false)
 else
 some (Sum.inl ())) fun _ =>
 joinO (loopO (dgB a1) (0:Int)) fun _ =>
 bif (decide ((((List.length a5):Nat):Int)<(1:Int))) then
  some Bool.false
 else
  bif (decide ((((List.length a5):Nat):Int) > (20:Int))) then
   some Bool.false
  else
   joinO (loopO (ppB a5) (0:Int)) fun _ =>
   bindO (some (Go.IntKind.wrap .i64 ((((List.length a5):Nat):Int)-(1:Int)))) fun x14 =>
   bif (decide (((0:Int)≤x14)∧(x14<(((List.length a5):Nat):Int)))) then
    bindO a5[(Int.toNat x14)]? fun x15 =>
    some ((decide (x15.1.1=(127:Int)))&&((decide (x15.1.2.1=(0:Int)))&&(decide (x15.1.2.2=(1440:Int)))))
   else none:=rfl
theorem rate_eq (a1:List UInt8) (a2 a3 a4:Int) (a5:List Pr1):dialtoneref37_Rate (a1,(a2,(a3,(a4,a5)))) =
 joinO (bif (decide ((((List.length a1):Nat):Int) > (20:Int))) then
 outO (some Bool.false)
 else
 bindO (dialtoneref37_money a2) fun x6 =>
 bif (!x6) then
 outO (some Bool.false)
 else
 bif (decide (a3<(1:Int))) then
 outO (some Bool.false)
 else
 bif (decide (a3 > (3600:Int))) then
 outO (some Bool.false)
 else
 bif (decide (a4<(1:Int))) then
 outO (some Bool.false)
 else
 bif (decide (a4 > (3600:Int))) then
 outO (some Bool.false)
 else
 some (Sum.inl ())) fun _ =>
 joinO (loopO (dgB a1) (0:Int)) fun _ =>
 bif (decide ((((List.length a5):Nat):Int)<(1:Int))) then
  some Bool.false
 else
  bif (decide ((((List.length a5):Nat):Int) > (20:Int))) then
   some Bool.false
  else
   joinO (loopO (prB a5) (0:Int)) fun _ =>
   bindO (some (Go.IntKind.wrap .i64 ((((List.length a5):Nat):Int)-(1:Int)))) fun x15 =>
   bif (decide (((0:Int)≤x15)∧(x15<(((List.length a5):Nat):Int)))) then
    bindO a5[(Int.toNat x15)]? fun x16 =>
    bif (decide (x16.1.1=(127:Int))) then
     bif (decide (x16.1.2.1=(0:Int))) then
      some (decide (x16.1.2.2=(1440:Int)))
     else
      some Bool.false
    else
     some Bool.false
   else none:=rfl
theorem loop_all {body:Int→Option (Int ⊕ (Unit ⊕ Bool))} (n:Nat) (ok:Nat→Prop) (h1:∀i:Nat,i<n→ok i→body (i:Int)=some (.inl ((i+1:Nat):Int))) (h2:∀i:Nat,i<n→¬ok i→body (i:Int)=some (.inr (.inr false))) (h3:body (n:Int)=some (.inr (.inl ()))) :
 ((∀i,i<n→ok i)∧loopO body (0:Int)=some (.inl ()))∨(¬(∀i,i<n→ok i)∧loopO body (0:Int)=some (.inr false)):=by
 have hs:=loopO_search (body:=body) (fun i=>(i:Int)) n (fun i=>¬ok i) (r0 := .inl ()) (r1 := .inr false) (x:=0) rfl (fun i hi hb=>h1 i hi (Classical.not_not.1 hb)) h2 h3
 rcases hs with ⟨⟨i,hi,hb⟩,e⟩ | ⟨hn,e⟩
 ·exact .inr ⟨fun h=>hb (h i hi),e⟩
 ·exact .inl ⟨fun i hi=>Classical.byContradiction fun h=>hn ⟨i,hi,h⟩,e⟩
abbrev DgC (c:UInt8):Prop:=48≤c.toNat∧c.toNat≤57
def Dg (s:List UInt8):Prop:=∀i,i<s.length→DgC (s.getD i 0)
theorem dg_loop (a1:List UInt8) (hl:a1.length≤1000):(Dg a1∧loopO (dgB a1) 0=some (.inl ()))∨(¬Dg a1∧loopO (dgB a1) 0=some (.inr false)):=by
 refine loop_all (body:=dgB a1) a1.length (fun i=>DgC (a1.getD i 0)) (fun i hi hb' => ?_) (fun i hi hb => ?_) ?_
 ·have hn:((i:Int)+1)=((i+1:Nat):Int):=rfl
  unfold dgB
  simp (disch:=(first | omega | (simp only [LNl];omega))) only [↓SDl,SDr,if_pos,if_neg,Int.toNat_natCast,wrap_i64',hn]
 ·unfold dgB
  by_cases h:(a1.getD i 0).toNat<48
  ·simp (disch:=(first | omega | (simp only [LNl];omega))) only [↓SDl,SDr,if_pos,if_neg,Int.toNat_natCast]
  ·have h2:(a1.getD i 0).toNat > 57:=by unfold DgC at hb;omega
   simp (disch:=(first | omega | (simp only [LNl];omega))) only [↓SDl,SDr,if_pos,if_neg,Int.toNat_natCast]
 ·unfold dgB
  simp (disch:=(first | omega | (simp only [LNl];omega))) only [↓SDl,SDr,if_pos,if_neg,Int.toNat_natCast]
def Pks (l:List Pr1):Prop:=∀i,i<l.length→Pok (l.getD i p0)
theorem pp_loop (l:List Pr1) (hl:l.length≤1000):(Pks l∧loopO (ppB l) 0=some (.inl ()))∨(¬Pks l∧loopO (ppB l) 0=some (.inr false)):=by
 refine loop_all (body:=ppB l) l.length (fun i=>Pok (l.getD i p0)) (fun i hi hb' => ?_) (fun i hi hb => ?_) ?_
 ·obtain ⟨x,hx,hxb⟩:=get_at p0 hi
  rw [hx] at hb'
  have hn:((i:Int)+1)=((i+1:Nat):Int):=rfl
  unfold ppB
  simp (disch:=(first | omega | (simp only [LNl];omega))) only [↓SDl,SDr,if_pos,if_neg,↓hxb,priceP_b,wrap_i64',hn,hb',decide_true]
 ·obtain ⟨x,hx,hxb⟩:=get_at p0 hi
  rw [hx] at hb
  unfold ppB
  simp (disch:=(first | omega | (simp only [LNl];omega))) only [↓SDl,SDr,if_pos,if_neg,↓hxb,priceP_b,hb,decide_false]
 ·unfold ppB
  simp (disch:=(first | omega | (simp only [LNl];omega))) only [↓SDl,SDr,if_pos,if_neg]
theorem pr_loop (l:List Pr1) (hl:l.length≤1000):(Pks l∧loopO (prB l) 0=some (.inl ()))∨(¬Pks l∧loopO (prB l) 0=some (.inr false)):=by
 refine loop_all (body:=prB l) l.length (fun i=>Pok (l.getD i p0)) (fun i hi hb' => ?_) (fun i hi hb => ?_) ?_
 ·obtain ⟨x,hx,hxb⟩:=get_at p0 hi
  rw [hx] at hb'
  have hn:((i:Int)+1)=((i+1:Nat):Int):=rfl
  unfold prB
  simp (disch:=(first | omega | (simp only [LNl];omega))) only [↓SDl,SDr,if_pos,if_neg,↓hxb,bandR_b,money_b,wrap_i64',hn,hb'.1,hb'.2.1,hb'.2.2,and_self,decide_true]
 ·obtain ⟨x,hx,hxb⟩:=get_at p0 hi
  rw [hx] at hb
  unfold prB
  by_cases h1:BdOk x.1.1 x.1.2.1 x.1.2.2
  ·by_cases h2:MnOk x.2.1
   ·have h3:¬MnOk x.2.2:=fun h=>hb ⟨h1,h2,h⟩
    simp (disch:=(first | omega | (simp only [LNl];omega))) only [↓SDl,SDr,if_pos,if_neg,↓hxb,bandR_b,money_b,h1,h2,h3,and_self,decide_true,decide_false]
   ·simp (disch:=(first | omega | (simp only [LNl];omega))) only [↓SDl,SDr,if_pos,if_neg,↓hxb,bandR_b,money_b,h1,h2,and_self,decide_true,decide_false]
  ·simp (disch:=(first | omega | (simp only [LNl];omega))) only [↓SDl,SDr,if_pos,if_neg,↓hxb,bandR_b,money_b,h1,decide_false]
 ·unfold prB
  simp (disch:=(first | omega | (simp only [LNl];omega))) only [↓SDl,SDr,if_pos,if_neg]
abbrev Lst (p:Pr1):Prop:=p.1.1=127∧p.1.2.1=0∧p.1.2.2=1440
abbrev RVa (a1:List UInt8) (a2 a3 a4:Int):Prop:=a1.length≤20∧MnOk a2∧(1≤a3∧a3≤3600)∧(1≤a4∧a4≤3600)
abbrev RVl (l:List Pr1):Prop:=(1≤l.length∧l.length≤20)∧Pks l∧Lst (l.getD (l.length-1) p0)
def RV (r:Ra):Prop:=RVa r.1 r.2.1 r.2.2.1 r.2.2.2.1∧Dg r.1∧RVl r.2.2.2.2
theorem validRate_j (a1:List UInt8) (a2 a3 a4:Int) (a5:List Pr1):Is (rating_validRate (a1,(a2,(a3,(a4,a5))))) (RV (a1,(a2,(a3,(a4,a5))))):=by
 rw [validRate_eq]
 refine Is.and _ ?_
 by_cases h:RVa a1 a2 a3 a4
 ·obtain ⟨h1,h2,h3,h4⟩:=h
  refine .inl ⟨⟨h1,h2,h3,h4⟩,(),?_,?_⟩
  ·simp (disch:=(first | omega | (simp only [LNl];omega))) only [↓SDl,SDr,if_pos,if_neg,within_b,h3,h4,and_self,decide_true]
  ·refine Is.and _ ?_
   rcases dg_loop a1 (by omega) with ⟨d,e⟩ | ⟨d,e⟩
   ·refine .inl ⟨d,(),e,?_⟩
    by_cases hl:1≤a5.length∧a5.length≤20
    ·simp (disch:=(first | omega | (simp only [LNl];omega))) only [↓SDl,SDr,if_pos,if_neg]
     rcases pp_loop a5 (by omega) with ⟨d,e⟩ | ⟨d,e⟩
     ·simp only [e,↓SDl,SDr]
      obtain ⟨x,hx,hxb⟩:=get_at p0 (show a5.length-1<a5.length by omega)
      have hi:((a5.length:Int)-1)=((a5.length-1:Nat):Int):=by omega
      simp (disch:=(first | omega | (simp only [LNl];omega))) only [↓SDl,SDr,wrap_i64',hi,if_pos,↓hxb,and_dec]
      refine Is.d ?_
      show _↔(_∧_∧Lst (a5.getD (a5.length-1) p0))
      rw [hx]
      exact ⟨fun k=>⟨hl,d,k⟩,fun k=>k.2.2⟩
     ·simp only [e,↓SDl,SDr]
      exact Is.f fun k=>d k.2.1
    ·have:Is (some false) (RVl a5):=Is.f fun k=>hl k.1
     rcases Nat.lt_or_ge a5.length 1 with k | k
     ·simp (disch:=(first | omega | (simp only [LNl];omega))) only [↓SDl,SDr,if_pos,if_neg];exact this
     ·simp (disch:=(first | omega | (simp only [LNl];omega))) only [↓SDl,SDr,if_pos,if_neg];exact this
   ·exact .inr ⟨d,e⟩
 ·refine .inr ⟨h,?_⟩
  by_cases h1:a1.length≤20
  ·by_cases h2:0≤a2
   ·by_cases h3:a2≤1000000000
    ·by_cases h4:1≤a3∧a3≤3600
     ·have h5:¬(1≤a4∧a4≤3600):=fun k=>h ⟨h1,⟨h2,h3⟩,h4,k⟩
      simp (disch:=(first | omega | (simp only [LNl];omega))) only [↓SDl,SDr,if_pos,if_neg,within_b,h4,h5,and_self,decide_true,decide_false]
     ·simp (disch:=(first | omega | (simp only [LNl];omega))) only [↓SDl,SDr,if_pos,if_neg,within_b,h4,decide_false]
    ·simp (disch:=(first | omega | (simp only [LNl];omega))) only [↓SDl,SDr,if_pos,if_neg]
   ·simp (disch:=(first | omega | (simp only [LNl];omega))) only [↓SDl,SDr,if_pos,if_neg]
  ·simp (disch:=(first | omega | (simp only [LNl];omega))) only [↓SDl,SDr,if_pos,if_neg]
theorem rateR_j (a1:List UInt8) (a2 a3 a4:Int) (a5:List Pr1):Is (dialtoneref37_Rate (a1,(a2,(a3,(a4,a5))))) (RV (a1,(a2,(a3,(a4,a5))))):=by
 rw [rate_eq]
 refine Is.and _ ?_
 by_cases h:RVa a1 a2 a3 a4
 ·obtain ⟨h1,h2,h3,h4⟩:=h
  refine .inl ⟨⟨h1,h2,h3,h4⟩,(),?_,?_⟩
  ·simp (disch:=(first | omega | (simp only [LNl];omega))) only [↓SDl,SDr,if_pos,if_neg,money_b,h2,and_self,decide_true]
  ·refine Is.and _ ?_
   rcases dg_loop a1 (by omega) with ⟨d,e⟩ | ⟨d,e⟩
   ·refine .inl ⟨d,(),e,?_⟩
    by_cases hl:1≤a5.length∧a5.length≤20
    ·simp (disch:=(first | omega | (simp only [LNl];omega))) only [↓SDl,SDr,if_pos,if_neg]
     rcases pr_loop a5 (by omega) with ⟨d,e⟩ | ⟨d,e⟩
     ·simp only [e,↓SDl,SDr]
      obtain ⟨x,hx,hxb⟩:=get_at p0 (show a5.length-1<a5.length by omega)
      have hi:((a5.length:Int)-1)=((a5.length-1:Nat):Int):=by omega
      simp (disch:=(first | omega | (simp only [LNl];omega))) only [↓SDl,SDr,wrap_i64',hi,if_pos,↓hxb]
      have key:Is (some (decide (Lst x))) (RVl a5):=by
       refine Is.d ?_
       show _↔(_∧_∧Lst (a5.getD (a5.length-1) p0))
       rw [hx]
       exact ⟨fun k=>⟨hl,d,k⟩,fun k=>k.2.2⟩
      by_cases k1:x.1.1=127
      ·by_cases k2:x.1.2.1=0
       ·simpa [k1,k2,Lst] using key
       ·simpa [k1,k2,Lst] using key
      ·simpa [k1,Lst] using key
     ·simp only [e,↓SDl,SDr]
      exact Is.f fun k=>d k.2.1
    ·have:Is (some false) (RVl a5):=Is.f fun k=>hl k.1
     rcases Nat.lt_or_ge a5.length 1 with k | k
     ·simp (disch:=(first | omega | (simp only [LNl];omega))) only [↓SDl,SDr,if_pos,if_neg];exact this
     ·simp (disch:=(first | omega | (simp only [LNl];omega))) only [↓SDl,SDr,if_pos,if_neg];exact this
   ·exact .inr ⟨d,e⟩
 ·refine .inr ⟨h,?_⟩
  by_cases h1:a1.length≤20
  ·by_cases h2:MnOk a2
   ·by_cases h3:1≤a3
    ·by_cases h4:a3≤3600
     ·by_cases h5:1≤a4
      ·have h6:¬a4≤3600:=fun k=>h ⟨h1,h2,⟨h3,h4⟩,⟨h5,k⟩⟩
       simp (disch:=(first | omega | (simp only [LNl];omega))) only [↓SDl,SDr,if_pos,if_neg,money_b,h2,and_self,decide_true]
      ·simp (disch:=(first | omega | (simp only [LNl];omega))) only [↓SDl,SDr,if_pos,if_neg,money_b,h2,and_self,decide_true]
     ·simp (disch:=(first | omega | (simp only [LNl];omega))) only [↓SDl,SDr,if_pos,if_neg,money_b,h2,and_self,decide_true]
    ·simp (disch:=(first | omega | (simp only [LNl];omega))) only [↓SDl,SDr,if_pos,if_neg,money_b,h2,and_self,decide_true]
   ·simp (disch:=(first | omega | (simp only [LNl];omega))) only [↓SDl,SDr,if_pos,if_neg,money_b,h2,decide_false]
  ·simp (disch:=(first | omega | (simp only [LNl];omega))) only [↓SDl,SDr,if_pos,if_neg]
theorem rate_same (a1:List UInt8) (a2 a3 a4:Int) (a5:List Pr1):dialtoneref37_Rate (a1,(a2,(a3,(a4,a5))))=rating_validRate (a1,(a2,(a3,(a4,a5)))):=(rateR_j a1 a2 a3 a4 a5).eq (validRate_j a1 a2 a3 a4 a5)
end Go.Proofs.Ytkpijdndakljjaa.Rt

set_option maxRecDepth 100000
namespace Go.Proofs.Ytkpijdndakljjaa.Rt
open Go.RowKit
noncomputable def vpB (a1:List Ra):(Int×List (List UInt8))→Option ((Int×List (List UInt8)) ⊕ (List (List UInt8) ⊕ Bool)) :=
(fun (v4,v5) =>
 bif (decide (v4<(((List.length a1):Nat):Int))) then
 bif (decide (((0:Int)≤v4)∧(v4<(((List.length a1):Nat):Int)))) then
 bindO a1[(Int.toNat v4)]? fun x6 =>
 bif (decide (Membership.mem v5 x6.1)) then
 outO (outO (some Bool.false))
 else
 bindO (rating_validRate (x6.1,(x6.2.1,(x6.2.2.1,(x6.2.2.2.1,x6.2.2.2.2))))) fun x7 =>
 bif (!x7) then
 outO (outO (some Bool.false))
 else
 some (Sum.inl ((Go.IntKind.wrap .i64 (v4+(1:Int))),(addK v5 x6.1)))
 else none
 else
 outO (some (Sum.inl v5)))
noncomputable def viB (a1:List Ra) (v3:Int):Int→Option (Int ⊕ (Int ⊕ (Int ⊕ (Unit ⊕ Bool)))) :=
(fun v6 =>
 bif (decide (v6<v3)) then
 bif (decide (((0:Int)≤v6)∧(v6<(((List.length a1):Nat):Int)))) then
 bindO a1[(Int.toNat v6)]? fun x7 =>
 bif (decide (((0:Int)≤v3)∧(v3<(((List.length a1):Nat):Int)))) then
 bindO a1[(Int.toNat v3)]? fun x8 =>
 bif (decide (x7.1=x8.1)) then
 outO (outO (outO (outO (some Bool.false))))
 else
 some (Sum.inl (Go.IntKind.wrap .i64 (v6+(1:Int))))
 else none
 else none
 else
 outO (some (Sum.inl v6)))
noncomputable def vrB (a1:List Ra):Int→Option (Int ⊕ (Unit ⊕ Bool)) :=
(fun v3 =>
 bif (decide (v3<(((List.length a1):Nat):Int))) then
 joinO (bif (decide (((0:Int)≤v3)∧(v3<(((List.length a1):Nat):Int)))) then
 bindO a1[(Int.toNat v3)]? fun x4 =>
 bindO (dialtoneref37_Rate (x4.1,(x4.2.1,(x4.2.2.1,(x4.2.2.2.1,x4.2.2.2.2))))) fun x5 =>
 bif (!x5) then
 outO (outO (outO (some Bool.false)))
 else
 loopO (viB a1 v3) (0:Int)
 else none) fun v10 =>
 some (Sum.inl (Go.IntKind.wrap .i64 (v3+(1:Int))))
 else
 outO (some (Sum.inl ())))
theorem validP_eq (a1:List Ra) (a2:Int):rating_Valid (a1,a2) =
 bif (decide ((((List.length a1):Nat):Int) > (1000:Int))) then
  some Bool.false
 else
  bindO (rating_within (a2,((0:Int),(3600:Int)))) fun x3 =>
  bif (!x3) then
   some Bool.false
  else
   joinO (loopO (vpB a1) ((0:Int),([]:List (List UInt8)))) fun v9 =>
   some Bool.true:=rfl
theorem validR_eq (a1:List Ra) (a2:Int):dialtoneref37_Valid (a1,a2) =
 joinO (bif (decide ((((List.length a1):Nat):Int) > (1000:Int))) then
 outO (some Bool.false)
 else
 bif (decide (a2<(0:Int))) then
 outO (some Bool.false)
 else
 bif (decide (a2 > (3600:Int))) then
 outO (some Bool.false)
 else
 some (Sum.inl ())) fun _ =>
 joinO (loopO (vrB a1) (0:Int)) fun _ =>
 some Bool.true:=rfl
noncomputable def fpB (a1:List Ra) (a3:List UInt8):(Int×Int)→Option ((Int×Int) ⊕ (Int ⊕ (Int×Bool))) :=
(fun (v5,v6) =>
 bif (decide (v5<(((List.length a1):Nat):Int))) then
 bif (decide (((0:Int)≤v5)∧(v5<(((List.length a1):Nat):Int)))) then
 bindO a1[(Int.toNat v5)]? fun x7 =>
 bindO (strings_HasPrefix (a3,x7.1)) fun x8 =>
 bif x8 then
 bif (decide (v6<(0:Int))) then
 some (Sum.inl ((Go.IntKind.wrap .i64 (v5+(1:Int))),v5))
 else
 bif (decide (((0:Int)≤v6)∧(v6<(((List.length a1):Nat):Int)))) then
 bindO a1[(Int.toNat v6)]? fun x10 =>
 bif (decide ((((List.length x7.1):Nat):Int) > (((List.length x10.1):Nat):Int))) then
 some (Sum.inl ((Go.IntKind.wrap .i64 (v5+(1:Int))),v5))
 else
 some (Sum.inl ((Go.IntKind.wrap .i64 (v5+(1:Int))),v6))
 else none
 else
 some (Sum.inl ((Go.IntKind.wrap .i64 (v5+(1:Int))),v6))
 else none
 else
 outO (some (Sum.inl v6)))
noncomputable def fiB (a1:List Ra) (a3:List UInt8) (v5:Int):Int→Option (Int ⊕ (Int ⊕ (Int ⊕ (Unit ⊕ (Int×Bool))))) :=
(fun v6 =>
 bif (decide (v6<(((List.length a1):Nat):Int))) then
 bif (decide (((0:Int)≤v6)∧(v6<(((List.length a1):Nat):Int)))) then
 bindO a1[(Int.toNat v6)]? fun x7 =>
 bif (decide ((((List.length x7.1):Nat):Int)=v5)) then
 bif (decide (((0:Int)≤v6)∧(v6<(((List.length a1):Nat):Int)))) then
 bindO a1[(Int.toNat v6)]? fun x8 =>
 bindO (dialtoneref37_Begins (a3,x8.1)) fun x9 =>
 bif x9 then
 outO (outO (outO (outO (some (v6,Bool.true)))))
 else
 some (Sum.inl (Go.IntKind.wrap .i64 (v6+(1:Int))))
 else none
 else
 some (Sum.inl (Go.IntKind.wrap .i64 (v6+(1:Int))))
 else none
 else
 outO (some (Sum.inl v6)))
noncomputable def frB (a1:List Ra) (a3:List UInt8):Int→Option (Int ⊕ (Unit ⊕ (Int×Bool))) :=
(fun v5 =>
 bif (decide (v5≥(0:Int))) then
 joinO (loopO (fiB a1 a3 v5) (0:Int)) fun v12 =>
 some (Sum.inl (Go.IntKind.wrap .i64 (v5-(1:Int))))
 else
 outO (some (Sum.inl ())))
theorem findP_eq (a1:List Ra) (a2:Int) (a3:List UInt8):rating_Find ((a1,a2),a3) =
 bindO (rating_Valid (a1,a2)) fun x4 =>
 bif (!x4) then
  some ((0:Int),Bool.false)
 else
  joinO (loopO (fpB a1 a3) ((0:Int),(-1:Int))) fun v14 =>
  bif (decide (v14<(0:Int))) then
   some ((0:Int),Bool.false)
  else
   some (v14,Bool.true):=rfl
theorem findR_eq (a1:List Ra) (a2:Int) (a3:List UInt8):dialtoneref37_Find ((a1,a2),a3) =
 bindO (dialtoneref37_Valid (a1,a2)) fun x4 =>
 bif (!x4) then
  some ((0:Int),Bool.false)
 else
  joinO (loopO (frB a1 a3) (20:Int)) fun _ =>
  some ((0:Int),Bool.false):=rfl
theorem loop_first {β:Type} {body:Int→Option (Int ⊕ β)} (n:Nat) (p:Nat→Prop) (g:Nat→β) (r0:β) (h1:∀i:Nat,i<n→¬p i→body (i:Int)=some (.inl ((i+1:Nat):Int))) (h2:∀i:Nat,i<n→p i→body (i:Int)=some (.inr (g i))) (h3:body (n:Int)=some (.inr r0)) :
 (∃i,i<n∧p i∧(∀j,j<i→¬p j)∧loopO body (0:Int)=some (g i))∨((∀i,i<n→¬p i)∧loopO body (0:Int)=some r0):=by
 by_cases h:∃i,i<n∧p i
 ·obtain ⟨i,⟨k1,k2⟩,k3⟩:=least h
  exact .inl ⟨i,k1,k2,fun j hj hp=>k3 j hj ⟨by omega,hp⟩,loopO_from (fun i=>(i:Int)) i rfl (fun j hj=>h1 j (by omega) fun hp=>k3 j hj ⟨by omega,hp⟩) (h2 i k1 k2)⟩
 ·exact .inr ⟨fun i hi hp=>h ⟨i,hi,hp⟩,loopO_from (fun i=>(i:Int)) n rfl (fun j hj=>h1 j hj fun hp=>h ⟨j,hj,hp⟩) h3⟩
theorem mem_addK {ks:List (List UInt8)} {k u:List UInt8}:u∈addK ks k↔u=k∨u∈ks:=by
 unfold addK
 by_cases h:k∈ks
 ·rw [if_pos h]
  exact ⟨.inr,fun h'=>h'.elim (fun e=>by rw [e];exact h) id⟩
 ·rw [if_neg h]
  simp [or_comm]
theorem Is.iff {o:Option Bool} {P Q:Prop} (h:Is o P) (k:P↔Q):Is o Q:=by
 rcases h with ⟨h,e⟩ | ⟨h,e⟩
 ·exact .inl ⟨k.1 h,e⟩
 ·exact .inr ⟨fun q=>h (k.2 q),e⟩
theorem rate_b {β:Type} (x:Ra) {P:Prop} (f:Bool→Option β) (h:RV x):bindO (rating_validRate (x.1,(x.2.1,(x.2.2.1,(x.2.2.2.1,x.2.2.2.2))))) f=f true:=by
 rcases validRate_j x.1 x.2.1 x.2.2.1 x.2.2.2.1 x.2.2.2.2 with ⟨_,e⟩ | ⟨k,e⟩
 ·rw [e];rfl
 ·exact (k h).elim
theorem rate_bf {β:Type} (x:Ra) (f:Bool→Option β) (h:¬RV x):bindO (rating_validRate (x.1,(x.2.1,(x.2.2.1,(x.2.2.2.1,x.2.2.2.2))))) f=f false:=by
 rcases validRate_j x.1 x.2.1 x.2.2.1 x.2.2.2.1 x.2.2.2.2 with ⟨k,e⟩ | ⟨_,e⟩
 ·exact (h k).elim
 ·rw [e];rfl
def ks (l:List Ra):Nat→List (List UInt8)
 | 0=>[]
 | k+1=>addK (ks l k) (l.getD k r0).1
theorem mem_ks {l:List Ra} {u:List UInt8}:∀ {k:Nat},u∈ks l k↔∃i,i<k∧(l.getD i r0).1=u
 | 0=>by simp [ks]
 | k+1=>by
   rw [ks,mem_addK,mem_ks]
   constructor
   ·rintro (h | ⟨i,h1,h2⟩)
    ·exact ⟨k,by omega,h.symm⟩
    ·exact ⟨i,by omega,h2⟩
   ·rintro ⟨i,h1,h2⟩
    by_cases e:i=k
    ·subst e;exact .inl h2.symm
    ·exact .inr ⟨i,by omega,h2⟩
def Rok (l:List Ra) (i:Nat):Prop:=RV (l.getD i r0)∧∀k,k<i→(l.getD k r0).1≠(l.getD i r0).1
def TV (l:List Ra) (f:Int):Prop:=(l.length≤1000∧(0≤f∧f≤3600))∧∀i,i<l.length→Rok l i
theorem vp_loop (l:List Ra) (hl:l.length≤1000):((∀i,i<l.length→Rok l i)∧∃v,loopO (vpB l) ((0:Int),[])=some (.inl v))∨(¬(∀i,i<l.length→Rok l i)∧loopO (vpB l) ((0:Int),[])=some (.inr false)):=by
 have hs:=loopO_search (body:=vpB l) (fun i=>((i:Int),ks l i)) l.length (fun i=>¬Rok l i) (r0 := .inl (ks l l.length)) (r1 := .inr false) (x:=((0:Int),[])) rfl
  (fun i hi hb=>by
    obtain ⟨h1,h2⟩:=Classical.not_not.1 hb
    obtain ⟨x,hx,hxb⟩:=get_at r0 hi
    have hm:¬x.1∈ks l i:=fun h=>by
     obtain ⟨k,k1,k2⟩:=mem_ks.1 h
     exact h2 k k1 (by rw [hx];exact k2)
    rw [hx] at h1
    have hn:((i:Int)+1)=((i+1:Nat):Int):=rfl
    have hk:ks l (i+1)=addK (ks l i) x.1:=by rw [ks,hx]
    unfold vpB
    simp (disch:=(first | omega | (simp only [LNl];omega))) only [↓SDl,SDr,if_pos,if_neg,↓hxb,hm,rate_b x (P:=True) _ h1,wrap_i64',hn,hk,decide_false])
  (fun i hi hb=>by
    obtain ⟨x,hx,hxb⟩:=get_at r0 hi
    unfold vpB
    by_cases hm:x.1∈ks l i
    ·simp (disch:=(first | omega | (simp only [LNl];omega))) only [↓SDl,SDr,if_pos,if_neg,↓hxb,hm,decide_true]
    ·have h1:¬RV x:=fun h=>hb ⟨by rw [hx];exact h,fun k hk e=>hm (mem_ks.2 ⟨k,hk,by rw [hx] at e;exact e⟩)⟩
     simp (disch:=(first | omega | (simp only [LNl];omega))) only [↓SDl,SDr,if_pos,if_neg,↓hxb,hm,rate_bf x _ h1,decide_false])
  (by unfold vpB;simp (disch:=(first | omega | (simp only [LNl];omega))) only [↓SDl,SDr,if_pos,if_neg])
 rcases hs with ⟨⟨i,hi,hb⟩,e⟩ | ⟨hn,e⟩
 ·exact .inr ⟨fun h=>hb (h i hi),e⟩
 ·exact .inl ⟨fun i hi=>Classical.byContradiction fun h=>hn ⟨i,hi,h⟩,_,e⟩
theorem validP_j (l:List Ra) (f:Int):Is (rating_Valid (l,f)) (TV l f):=by
 rw [validP_eq]
 by_cases h1:l.length≤1000
 ·by_cases h2:0≤f∧f≤3600
  ·simp (disch:=(first | omega | (simp only [LNl];omega))) only [↓SDl,SDr,if_pos,if_neg,within_b,h2,and_self,decide_true]
   rcases vp_loop l h1 with ⟨d,v,e⟩ | ⟨d,e⟩
   ·rw [e];exact Is.t ⟨⟨h1,h2⟩,d⟩
   ·rw [e];exact Is.f fun k=>d k.2
  ·simp (disch:=(first | omega | (simp only [LNl];omega))) only [↓SDl,SDr,if_pos,if_neg,within_b,h2,decide_false]
   exact Is.f fun k=>h2 k.1.2
 ·simp (disch:=(first | omega | (simp only [LNl];omega))) only [↓SDl,SDr,if_pos,if_neg]
  exact Is.f fun k=>h1 k.1.1
theorem vi_loop (l:List Ra) {i:Nat} (hi:i<l.length) (hl:l.length≤1000):((∀k,k<i→(l.getD k r0).1≠(l.getD i r0).1)∧loopO (viB l i) (0:Int)=some (.inl (i:Int)))∨(¬(∀k,k<i→(l.getD k r0).1≠(l.getD i r0).1)∧loopO (viB l i) (0:Int)=some (.inr (.inr (.inr false)))):=by
 obtain ⟨y,hy,hyb⟩:=get_at r0 hi
 rcases loop_first (body:=viB l i) i (fun k=>(l.getD k r0).1=(l.getD i r0).1) (fun _ => .inr (.inr (.inr false))) (.inl (i:Int))
  (fun k hk hb=>by
    obtain ⟨x,hx,hxb⟩:=get_at r0 (show k<l.length by omega)
    rw [hx,hy] at hb
    have hn:((k:Int)+1)=((k+1:Nat):Int):=rfl
    unfold viB
    simp (disch:=(first | omega | (simp only [LNl];omega))) only [↓SDl,SDr,if_pos,if_neg,↓hxb,↓hyb,hb,wrap_i64',hn,decide_false])
  (fun k hk hb=>by
    obtain ⟨x,hx,hxb⟩:=get_at r0 (show k<l.length by omega)
    rw [hx,hy] at hb
    unfold viB
    simp (disch:=(first | omega | (simp only [LNl];omega))) only [↓SDl,SDr,if_pos,if_neg,↓hxb,↓hyb,hb,decide_true])
  (by unfold viB;simp (disch:=(first | omega | (simp only [LNl];omega))) only [↓SDl,SDr,if_pos,if_neg]) with ⟨k,h1,h2,_,e⟩ | ⟨h,e⟩
 ·exact .inr ⟨fun g=>g k h1 h2,e⟩
 ·exact .inl ⟨h,e⟩
theorem vr_loop (l:List Ra) (hl:l.length≤1000):((∀i,i<l.length→Rok l i)∧loopO (vrB l) (0:Int)=some (.inl ()))∨(¬(∀i,i<l.length→Rok l i)∧loopO (vrB l) (0:Int)=some (.inr false)):=by
 refine loop_all (body:=vrB l) l.length (Rok l) (fun i hi hb => ?_) (fun i hi hb => ?_) ?_
 ·obtain ⟨h1,h2⟩:=hb
  obtain ⟨x,hx,hxb⟩:=get_at r0 hi
  rw [hx] at h1
  have hn:((i:Int)+1)=((i+1:Nat):Int):=rfl
  rcases vi_loop l hi hl with ⟨_,e⟩ | ⟨k,_⟩
  ·unfold vrB
   simp (disch:=(first | omega | (simp only [LNl];omega))) only [↓SDl,SDr,if_pos,if_neg,↓hxb,rate_same,rate_b x (P:=True) _ h1,e,wrap_i64',hn]
  ·exact (k h2).elim
 ·obtain ⟨x,hx,hxb⟩:=get_at r0 hi
  by_cases h1:RV x
  ·have h2:¬ ∀k,k<i→(l.getD k r0).1≠(l.getD i r0).1:=fun k=>hb ⟨by rw [hx];exact h1,k⟩
   rcases vi_loop l hi hl with ⟨k,_⟩ | ⟨_,e⟩
   ·exact (h2 k).elim
   ·unfold vrB
    simp (disch:=(first | omega | (simp only [LNl];omega))) only [↓SDl,SDr,if_pos,if_neg,↓hxb,rate_same,rate_b x (P:=True) _ h1,e]
  ·unfold vrB
   simp (disch:=(first | omega | (simp only [LNl];omega))) only [↓SDl,SDr,if_pos,if_neg,↓hxb,rate_same,rate_bf x _ h1]
 ·unfold vrB
  simp (disch:=(first | omega | (simp only [LNl];omega))) only [↓SDl,SDr,if_pos,if_neg]
theorem validR_j (l:List Ra) (f:Int):Is (dialtoneref37_Valid (l,f)) (TV l f):=by
 rw [validR_eq]
 refine Is.and _ ?_
 by_cases h1:l.length≤1000
 ·by_cases h2:0≤f
  ·by_cases h3:f≤3600
   ·refine .inl ⟨⟨h1,h2,h3⟩,(),by simp (disch:=(first | omega | (simp only [LNl];omega))) only [↓SDl,SDr,if_pos,if_neg],?_⟩
    rcases vr_loop l h1 with ⟨d,e⟩ | ⟨d,e⟩
    ·rw [e];exact Is.t d
    ·rw [e];exact Is.f d
   ·exact .inr ⟨fun k=>h3 k.2.2,by simp (disch:=(first | omega | (simp only [LNl];omega))) only [↓SDl,SDr,if_pos,if_neg]⟩
  ·exact .inr ⟨fun k=>h2 k.2.1,by simp (disch:=(first | omega | (simp only [LNl];omega))) only [↓SDl,SDr,if_pos,if_neg]⟩
 ·exact .inr ⟨fun k=>h1 k.1,by simp (disch:=(first | omega | (simp only [LNl];omega))) only [↓SDl,SDr,if_pos,if_neg]⟩
theorem valid_same (l:List Ra) (f:Int):dialtoneref37_Valid (l,f)=rating_Valid (l,f):=(validR_j l f).eq (validP_j l f)
abbrev Bg (num p:List UInt8):Prop:=p.length≤num.length∧num.take p.length=p
theorem begR_b {β:Type} (num p:List UInt8) (f:Bool→Option β):bindO (dialtoneref37_Begins (num,p)) f=f (decide (Bg num p)):=by
 have e:dialtoneref37_Begins (num,p)=some (decide (Bg num p)):=by
  unfold dialtoneref37_Begins
  by_cases h:p.length≤num.length
  ·simp (disch:=omega) only [↓SDl,SDr,if_pos,if_neg,Int.toNat_natCast,Bg,h,true_and]
  ·simp (disch:=omega) only [↓SDl,SDr,if_pos,if_neg,Bg,h,false_and,decide_false]
 rw [e];rfl
theorem begP_b {β:Type} (num p:List UInt8) (f:Bool→Option β):bindO (strings_HasPrefix (num,p)) f=f (decide (Bg num p)):=by
 have e:strings_HasPrefix (num,p)=some (decide (Bg num p)):=by
  unfold strings_HasPrefix
  by_cases h:p.length≤num.length
  ·simp (disch:=omega) only [↓SDl,SDr,if_pos,if_neg,Int.toNat_natCast,Bg,h,true_and]
  ·simp (disch:=omega) only [↓SDl,SDr,if_pos,if_neg,Bg,h,false_and,decide_false]
 rw [e];rfl
abbrev Mt (l:List Ra) (num:List UInt8) (i:Nat):Prop:=Bg num (l.getD i r0).1
def FB (l:List Ra) (num:List UInt8) (n:Nat) (x:Int):Prop:=(x = -1∧∀j,j<n→¬Mt l num j)∨∃i:Nat,i<n∧x=(i:Int)∧Mt l num i∧∀j,j<n→Mt l num j→(l.getD j r0).1.length≤(l.getD i r0).1.length
theorem fp_loop (l:List Ra) (num:List UInt8) (hl:l.length≤1000):∃r,loopO (fpB l num) ((0:Int),(-1:Int))=some r∧∃x,r = .inl x∧FB l num l.length x:=by
 refine loopO_post (fun s=>∃(k:Nat) (x:Int),s=((k:Int),x)∧k≤l.length∧FB l num k x) _ (fun s=>l.length-s.1.toNat) (fun s hs => ?_) ⟨0,-1,rfl,by omega,.inl ⟨rfl,fun j hj=>by omega⟩⟩
 obtain ⟨k,x,rfl,hk,hF⟩:=hs
 by_cases ck:k<l.length
 ·refine .inr ?_
  obtain ⟨y,hy,hyb⟩:=get_at r0 ck
  have hn:((k:Int)+1)=((k+1:Nat):Int):=rfl
  have hlt:l.length-(((k+1:Nat):Int)).toNat<l.length-((k:Nat):Int).toNat:=by rw [Int.toNat_natCast,Int.toNat_natCast];omega
  by_cases hm:Bg num y.1
  ·have hmk:Mt l num k:=by unfold Mt;rw [hy];exact hm
   rcases hF with ⟨rfl,hno⟩ | ⟨i,hi,rfl,hmi,hmax⟩
   ·refine ⟨(((k+1:Nat):Int),(k:Int)),?_,⟨k+1,_,rfl,by omega,.inr ⟨k,by omega,rfl,hmk,fun j hj hmj => ?_⟩⟩,hlt⟩
    ·unfold fpB
     simp (disch:=(first | omega | (simp only [LNl];omega))) only [↓SDl,SDr,if_pos,if_neg,↓hyb,begP_b,hm,wrap_i64',hn,decide_true]
    ·by_cases e:j=k
     ·subst e;exact Nat.le_refl _
     ·exact (hno j (by omega) hmj).elim
   ·obtain ⟨z,hz,hzb⟩:=get_at r0 (show i<l.length by omega)
    by_cases hg:z.1.length<y.1.length
    ·refine ⟨(((k+1:Nat):Int),(k:Int)),?_,⟨k+1,_,rfl,by omega,.inr ⟨k,by omega,rfl,hmk,fun j hj hmj => ?_⟩⟩,hlt⟩
     ·unfold fpB
      simp (disch:=(first | omega | (simp only [LNl];omega))) only [↓SDl,SDr,if_pos,if_neg,↓hyb,↓hzb,begP_b,hm,wrap_i64',hn,decide_true]
     ·by_cases e:j=k
      ·subst e;exact Nat.le_refl _
      ·have:=hmax j (by omega) hmj
       rw [hz] at this
       rw [hy];omega
    ·refine ⟨(((k+1:Nat):Int),(i:Int)),?_,⟨k+1,_,rfl,by omega,.inr ⟨i,by omega,rfl,hmi,fun j hj hmj => ?_⟩⟩,hlt⟩
     ·unfold fpB
      simp (disch:=(first | omega | (simp only [LNl];omega))) only [↓SDl,SDr,if_pos,if_neg,↓hyb,↓hzb,begP_b,hm,wrap_i64',hn,decide_true]
     ·by_cases e:j=k
      ·subst e;rw [hy,hz];omega
      ·exact hmax j (by omega) hmj
  ·have hmk:¬Mt l num k:=by unfold Mt;rw [hy];exact hm
   refine ⟨(((k+1:Nat):Int),x),?_,⟨k+1,_,rfl,by omega,?_⟩,hlt⟩
   ·unfold fpB
    simp (disch:=(first | omega | (simp only [LNl];omega))) only [↓SDl,SDr,if_pos,if_neg,↓hyb,begP_b,hm,wrap_i64',hn,decide_false]
   ·rcases hF with ⟨rfl,hno⟩ | ⟨i,hi,rfl,hmi,hmax⟩
    ·refine .inl ⟨rfl,fun j hj hmj => ?_⟩
     by_cases e:j=k
     ·subst e;exact hmk hmj
     ·exact hno j (by omega) hmj
    ·refine .inr ⟨i,by omega,rfl,hmi,fun j hj hmj => ?_⟩
     by_cases e:j=k
     ·subst e;exact (hmk hmj).elim
     ·exact hmax j (by omega) hmj
 ·obtain rfl:k=l.length:=by omega
  refine .inl ⟨.inl x,?_,x,rfl,hF⟩
  unfold fpB
  simp (disch:=(first | omega | (simp only [LNl];omega))) only [↓SDl,SDr,if_pos,if_neg]
def FX (l:List Ra) (num:List UInt8) (r:Int×Bool):Prop:=(r=(0,false)∧∀j,j<l.length→¬Mt l num j)∨∃i:Nat,i<l.length∧r=((i:Int),true)∧Mt l num i∧∀j,j<l.length→Mt l num j→(l.getD j r0).1.length≤(l.getD i r0).1.length
theorem FX.uniq {l:List Ra} {num:List UInt8} {f:Int} (hv:TV l f) {r r':Int×Bool} (h:FX l num r) (h':FX l num r'):r=r':=by
 rcases h with ⟨rfl,h⟩ | ⟨i,hi,rfl,hm,hx⟩<;>rcases h' with ⟨rfl,h'⟩ | ⟨i',hi',rfl,hm',hx'⟩
 ·rfl
 ·exact (h i' hi' hm').elim
 ·exact (h' i hi hm).elim
 ·have e1:=hx i' hi' hm'
  have e2:=hx' i hi hm
  have e3:(l.getD i r0).1=(l.getD i' r0).1:=by
   rw [←hm.2,←hm'.2,show (l.getD i r0).1.length=(l.getD i' r0).1.length from by omega]
  have:i=i':=by
   rcases Nat.lt_trichotomy i i' with k | k | k
   ·exact ((hv.2 i' hi').2 i k e3).elim
   ·exact k
   ·exact ((hv.2 i hi).2 i' k e3.symm).elim
  rw [this]
theorem findP_j {l:List Ra} {f:Int} (num:List UInt8) (hv:TV l f):∃r,rating_Find ((l,f),num)=some r∧FX l num r:=by
 rw [findP_eq]
 have e:rating_Valid (l,f)=some true:=by
  rcases validP_j l f with ⟨_,e⟩ | ⟨k,_⟩
  ·exact e
  ·exact (k hv).elim
 obtain ⟨r,hr,x,rfl,hF⟩:=fp_loop l num hv.1.1
 simp only [e,↓SDl,SDr,hr]
 rcases hF with ⟨rfl,h⟩ | ⟨i,hi,rfl,hm,hx⟩
 ·exact ⟨(0,false),by simp (disch:=omega) only [↓SDl,SDr,if_pos],.inl ⟨rfl,h⟩⟩
 ·exact ⟨((i:Int),true),by simp (disch:=omega) only [↓SDl,SDr,if_neg],.inr ⟨i,hi,rfl,hm,hx⟩⟩
theorem find_bad {l:List Ra} {f:Int} (num:List UInt8) (hv:¬TV l f):rating_Find ((l,f),num)=some (0,false)∧dialtoneref37_Find ((l,f),num)=some (0,false):=by
 have e:rating_Valid (l,f)=some false:=by
  rcases validP_j l f with ⟨k,_⟩ | ⟨_,e⟩
  ·exact (hv k).elim
  ·exact e
 rw [findP_eq,findR_eq,valid_same,e]
 exact ⟨rfl,rfl⟩
theorem fi_loop (l:List Ra) (num:List UInt8) (v:Int) (hl:l.length≤1000):(∃i:Nat,i<l.length∧(((l.getD i r0).1.length:Int)=v∧Mt l num i)∧loopO (fiB l num v) (0:Int)=some (.inr (.inr (.inr ((i:Int),true)))))∨((∀i,i<l.length→¬(((l.getD i r0).1.length:Int)=v∧Mt l num i))∧loopO (fiB l num v) (0:Int)=some (.inl (l.length:Int))):=by
 rcases loop_first (body:=fiB l num v) l.length (fun k=>((l.getD k r0).1.length:Int)=v∧Mt l num k) (fun i => .inr (.inr (.inr ((i:Int),true)))) (.inl (l.length:Int))
  (fun k hk hb=>by
    obtain ⟨x,hx,hxb⟩:=get_at r0 hk
    unfold Mt at hb
    rw [hx] at hb
    have hn:((k:Int)+1)=((k+1:Nat):Int):=rfl
    unfold fiB
    by_cases h1:(x.1.length:Int)=v
    ·have h2:¬Bg num x.1:=fun k=>hb ⟨h1,k⟩
     simp (disch:=(first | omega | (simp only [LNl];omega))) only [↓SDl,SDr,if_pos,if_neg,↓hxb,begR_b,h2,wrap_i64',hn,decide_false]
    ·simp (disch:=(first | omega | (simp only [LNl];omega))) only [↓SDl,SDr,if_pos,if_neg,↓hxb,wrap_i64',hn])
  (fun k hk hb=>by
    obtain ⟨x,hx,hxb⟩:=get_at r0 hk
    unfold Mt at hb
    rw [hx] at hb
    obtain ⟨h1,h2⟩:=hb
    unfold fiB
    simp (disch:=(first | omega | (simp only [LNl];omega))) only [↓SDl,SDr,if_pos,if_neg,↓hxb,begR_b,h2,decide_true])
  (by unfold fiB;simp (disch:=(first | omega | (simp only [LNl];omega))) only [↓SDl,SDr,if_pos,if_neg]) with ⟨k,h1,h2,_,e⟩ | ⟨h,e⟩
 ·exact .inl ⟨k,h1,h2,e⟩
 ·exact .inr ⟨h,e⟩
theorem findR_j {l:List Ra} {f:Int} (num:List UInt8) (hv:TV l f):∃r,dialtoneref37_Find ((l,f),num)=some r∧FX l num r:=by
 rw [findR_eq]
 have e:dialtoneref37_Valid (l,f)=some true:=by
  rcases validR_j l f with ⟨_,e⟩ | ⟨k,_⟩
  ·exact e
  ·exact (k hv).elim
 simp only [e,↓SDl,SDr]
 refine loopO_postG (I:=fun v => -1≤v∧v≤20∧∀j,j<l.length→Mt l num j→((l.getD j r0).1.length:Int)≤v) (fun v=>(v+1).toNat) (fun o=>∃r,o=some r∧FX l num r) (fun v hI => ?_) ⟨by decide,by decide,fun j hj _ => ?_⟩
 ·obtain ⟨h1,h2,h3⟩:=hI
  unfold frB
  by_cases c:0≤v
  ·rcases fi_loop l num v hv.1.1 with ⟨i,hi,⟨k1,k2⟩,e⟩ | ⟨hno,e⟩
   ·simp (disch:=omega) only [↓SDl,SDr,if_pos,e]
    exact PostS.stop ⟨_,rfl,.inr ⟨i,hi,rfl,k2,fun j hj hm=>by have:=h3 j hj hm;omega⟩⟩
   ·simp (disch:=omega) only [↓SDl,SDr,if_pos,e,wrap_i64']
    refine PostS.next ⟨by omega,by omega,fun j hj hm => ?_⟩ (by omega)
    have k1:=h3 j hj hm
    have k2:=hno j hj
    have k3:¬(((l.getD j r0).1.length:Int)=v):=fun k=>k2 ⟨k,hm⟩
    omega
  ·simp (disch:=omega) only [↓SDl,SDr,if_neg]
   exact PostS.stop ⟨_,rfl,.inl ⟨rfl,fun j hj hm=>by have:=h3 j hj hm;omega⟩⟩
 ·have:=(hv.2 j hj).1.1.1
  omega
theorem find_same (l:List Ra) (f:Int) (num:List UInt8):∃r,rating_Find ((l,f),num)=some r∧dialtoneref37_Find ((l,f),num)=some r∧(TV l f→FX l num r)∧(¬TV l f→r=(0,false)):=by
 by_cases h:TV l f
 ·obtain ⟨r,e1,k1⟩:=findP_j num h
  obtain ⟨r',e2,k2⟩:=findR_j num h
  rw [k2.uniq h k1] at e2
  exact ⟨r,e1,e2,fun _=>k1,fun k=>(k h).elim⟩
 ·obtain ⟨e1,e2⟩:=find_bad num h
  exact ⟨_,e1,e2,fun k=>(h k).elim,fun _=>rfl⟩
end Go.Proofs.Ytkpijdndakljjaa.Rt

set_option maxRecDepth 100000
namespace Go.Proofs.Ytkpijdndakljjaa.Rt
open Go.RowKit
noncomputable def paB (a1:List Pr1) (x4 x6:Int):Int→Option (Int ⊕ (Unit ⊕ Int)) :=
(fun v7 =>
 bif (decide (v7<(((List.length a1):Nat):Int))) then
 bif (decide (((0:Int)≤v7)∧(v7<(((List.length a1):Nat):Int)))) then
 bindO a1[(Int.toNat v7)]? fun x8 =>
 bif (decide ((0:Int)≤x4)) then
 bif (decide ((Go.IntKind.wrap .u8 (((BitVec.toNat ((BitVec.ofInt 8 (Int.fdiv x8.1.1 ((2:Int) ^ (Min.min (Int.toNat x4) 8)))) &&& (BitVec.ofInt 8 (1:Int)))):Nat):Int))=(1:Int))) then
 bif (decide (x6≥x8.1.2.1)) then
 bif (decide (x6<x8.1.2.2)) then
 outO (outO (some v7))
 else
 some (Sum.inl (Go.IntKind.wrap .i64 (v7+(1:Int))))
 else
 some (Sum.inl (Go.IntKind.wrap .i64 (v7+(1:Int))))
 else
 some (Sum.inl (Go.IntKind.wrap .i64 (v7+(1:Int))))
 else none
 else none
 else
 outO (some (Sum.inl ())))
theorem priceAt_eq (a1:List Pr1) (a2:Int):rating_priceAt (a1,a2) =
 bindO (some (Int.tmod (Go.IntKind.wrap .i64 (Int.tdiv a2 (86400000:Int))) (7:Int))) fun x4 =>
 bindO (some (Int.tmod (Go.IntKind.wrap .i64 (Int.tdiv a2 (60000:Int))) (1440:Int))) fun x6 =>
 joinO (loopO (paB a1 x4 x6) (0:Int)) fun _ =>
 some (-1:Int):=rfl
noncomputable def btB (a1:Int):(Int×Int)→Option ((Int×Int) ⊕ (Int ⊕ Int)) :=
(fun (v2,v3) =>
 bif (decide (v2<a1)) then
 some (Sum.inl ((Go.IntKind.wrap .i64 (v2+(1:Int))),(Go.IntKind.wrap .i64 ((2:Int)*v3))))
 else
 outO (some (Sum.inl v3)))
theorem bit_eq (a1:Int):dialtoneref37_bit a1 =
 joinO (loopO (btB a1) ((0:Int),(1:Int))) fun v6 =>
 some v6:=rfl
noncomputable def prcB (a5:List Pr1) (a6:Int):Int→Option (Int ⊕ (Unit ⊕ (Int×Bool))) :=
(fun v8 =>
 bif (decide (v8<(((List.length a5):Nat):Int))) then
 bif (decide (((0:Int)≤v8)∧(v8<(((List.length a5):Nat):Int)))) then
 bindO a5[(Int.toNat v8)]? fun x9 =>
 bindO (dialtoneref37_Contains ((x9.1.1,(x9.1.2.1,x9.1.2.2)),a6)) fun x10 =>
 bif x10 then
 outO (outO (some (v8,Bool.true)))
 else
 some (Sum.inl (Go.IntKind.wrap .i64 (v8+(1:Int))))
 else none
 else
 outO (some (Sum.inl ())))
theorem priceR_eq (a1:List UInt8) (a2 a3 a4:Int) (a5:List Pr1) (a6:Int):dialtoneref37_PriceAt ((a1,(a2,(a3,(a4,a5)))),a6) =
 joinO (bindO (dialtoneref37_Rate (a1,(a2,(a3,(a4,a5))))) fun x7 =>
 bif (!x7) then
 outO (some ((0:Int),Bool.false))
 else
 bif (decide (a6<(0:Int))) then
 outO (some ((0:Int),Bool.false))
 else
 bif (decide (a6 > (562949953421312:Int))) then
 outO (some ((0:Int),Bool.false))
 else
 some (Sum.inl ())) fun _ =>
 joinO (loopO (prcB a5 a6) (0:Int)) fun _ =>
 some ((0:Int),Bool.false):=rfl
def SE (a b:Int):Int:=if 0≤a∧a≤b∧b≤281474976710656 then (b-a+999) / 1000 else 0
theorem secondsP_j (a b:Int):rating_Seconds (a,b)=some (SE a b):=by
 unfold rating_Seconds SE
 by_cases h1:0≤a∧a≤281474976710656
 ·by_cases h2:a≤b∧b≤281474976710656
  ·rw [if_pos (show 0≤a∧a≤b∧b≤281474976710656 by omega)]
   simp (disch:=omega) only [↓SDl,SDr,within_b,h1,h2,and_self,decide_true,wrap_i64']
   rw [Int.tdiv_eq_ediv_of_nonneg (by omega)]
   rw [wrap_i64' (by omega)]
  ·rw [if_neg (by omega)]
   simp (disch:=omega) only [↓SDl,SDr,within_b,h1,h2,and_self,decide_true,decide_false]
 ·rw [if_neg (by omega)]
  simp (disch:=omega) only [↓SDl,SDr,within_b,h1,decide_false]
abbrev Spn (a b:Int):Prop:=0≤a∧a≤b∧b≤281474976710656
theorem span_b {β:Type} (a b:Int) (f:Bool→Option β):bindO (dialtoneref37_Span (a,b)) f=f (decide (Spn a b)):=by
 have e:dialtoneref37_Span (a,b)=some (decide (Spn a b)):=by
  unfold dialtoneref37_Span
  by_cases h1:0≤a
  ·by_cases h2:0≤b
   ·by_cases h3:a≤281474976710656
    ·by_cases h4:b≤281474976710656
     ·simp (disch:=omega) only [↓SDl,SDr,if_pos]
      exact congrArg some (decide_eq_decide.2 ⟨fun k=>⟨h1,k,h4⟩,fun k=>k.2.1⟩)
     ·simp (disch:=omega) only [↓SDl,SDr,if_pos,if_neg]
      rw [decide_eq_false (show ¬Spn a b by omega)]
    ·simp (disch:=omega) only [↓SDl,SDr,if_pos,if_neg]
     rw [decide_eq_false (show ¬Spn a b by omega)]
   ·simp (disch:=omega) only [↓SDl,SDr,if_pos,if_neg]
    rw [decide_eq_false (show ¬Spn a b by omega)]
  ·simp (disch:=omega) only [↓SDl,SDr,if_pos,if_neg]
   rw [decide_eq_false (show ¬Spn a b by omega)]
 rw [e];rfl
theorem secondsR_j (a b:Int):dialtoneref37_Seconds (a,b)=some (SE a b):=by
 unfold dialtoneref37_Seconds SE
 by_cases h:Spn a b
 ·rw [if_pos h]
  have h':=h
  obtain ⟨h1,h2,h3⟩:=h'
  simp (disch:=omega) only [↓SDl,SDr,span_b,h,decide_true,wrap_i64']
  rw [Int.tdiv_eq_ediv_of_nonneg (by omega),Int.tmod_eq_emod_of_nonneg (by omega)]
  rw [wrap_i64' (n:=(b-a) / 1000) (by omega)]
  by_cases k:(b-a) % 1000 > 0
  ·rw [if_pos k,wrap_i64' (n:=(b-a) / 1000+1) (by omega)]
   congr 1
   omega
  ·rw [if_neg k]
   congr 1
   omega
 ·rw [if_neg h]
  simp (disch:=omega) only [↓SDl,SDr,span_b,h,decide_false]
theorem se_nn (a b:Int):0≤SE a b∧SE a b≤300000000000:=by
 unfold SE;split<;>omega
def wkd (a:Int):Int:=(a / 86400000) % 7
def mnt (a:Int):Int:=(a / 60000) % 1440
def CT (p:Pr1) (a:Int):Prop:=(p.1.1 / (2:Int) ^ (wkd a).toNat) % 2=1∧p.1.2.1≤mnt a∧mnt a<p.1.2.2
instance (p:Pr1) (a:Int):Decidable (CT p a):=by unfold CT;infer_instance
theorem wrap_u8' {n:Int} (h:0≤n∧n≤255):IntKind.wrap .u8 n=n:=by
 show (if (false&&decide (n % 256≥128))=true then n % 256-256 else n % 256)=n
 simp only [Bool.false_and,Bool.false_eq_true,if_false]
 omega
theorem pow_pos' (k:Nat):(0:Int)<2 ^ k:=Int.pow_pos (by decide)
theorem bit_lem {d:Int} (k:Nat) (hd:0≤d∧d≤255) (hk:k≤8):(Go.IntKind.wrap .u8 (((BitVec.toNat ((BitVec.ofInt 8 (Int.fdiv d ((2:Int) ^ (Min.min k 8)))) &&& (BitVec.ofInt 8 (1:Int)))):Nat):Int))=(d / (2:Int) ^ k) % 2:=by
 rw [show Min.min k 8=k from by omega,Int.fdiv_eq_ediv_of_nonneg _ (by have:=pow_pos' k;omega)]
 have h0:0≤d / (2:Int) ^ k:=Int.ediv_nonneg hd.1 (by have:=pow_pos' k;omega)
 have h1:d / (2:Int) ^ k≤d:=Int.ediv_le_self _ hd.1
 generalize d / (2:Int) ^ k=X at *
 rw [BitVec.toNat_and,BitVec.toNat_ofInt,BitVec.toNat_ofInt]
 have e1:((1:Int) % ((2 ^ 8:Nat):Int)).toNat=1:=rfl
 rw [e1,Nat.and_one_is_mod]
 have e2:(X % ((2 ^ 8:Nat):Int)).toNat=X.toNat:=by
  rw [Int.emod_eq_of_lt h0 (by show X<256;omega)]
 rw [e2]
 have e3:((X.toNat % 2:Nat):Int)=X % 2:=by omega
 rw [e3]
 exact wrap_u8' (by omega)
theorem wk_j {a:Int} (h:0≤a∧a≤4000000000000000000):Int.tmod (Go.IntKind.wrap .i64 (Int.tdiv a (86400000:Int))) (7:Int)=wkd a:=by
 rw [Int.tdiv_eq_ediv_of_nonneg h.1,wrap_i64' (by omega),Int.tmod_eq_emod_of_nonneg (by omega)];rfl
theorem mn_j {a:Int} (h:0≤a∧a≤4000000000000000000):Int.tmod (Go.IntKind.wrap .i64 (Int.tdiv a (60000:Int))) (1440:Int)=mnt a:=by
 rw [Int.tdiv_eq_ediv_of_nonneg h.1,wrap_i64' (by omega),Int.tmod_eq_emod_of_nonneg (by omega)];rfl
theorem wkd_r (a:Int):0≤wkd a∧wkd a≤6:=by unfold wkd;omega
theorem mnt_r (a:Int):0≤mnt a∧mnt a≤1439:=by unfold mnt;omega
def PX (l:List Pr1) (a x:Int):Prop:=(x = -1∧∀j,j<l.length→¬CT (l.getD j p0) a)∨∃i:Nat,i<l.length∧x=(i:Int)∧CT (l.getD i p0) a∧∀j,j<i→¬CT (l.getD j p0) a
theorem PX.uniq {l:List Pr1} {a x y:Int} (h:PX l a x) (k:PX l a y):x=y:=by
 rcases h with ⟨rfl,h⟩ | ⟨i,hi,rfl,hc,hn⟩<;>rcases k with ⟨rfl,k⟩ | ⟨j,hj,rfl,kc,kn⟩
 ·rfl
 ·exact (h j hj kc).elim
 ·exact (k i hi hc).elim
 ·have:i=j:=by
   rcases Nat.lt_trichotomy i j with g | g | g
   ·exact (kn i g hc).elim
   ·exact g
   ·exact (hn j g kc).elim
  rw [this]
theorem priceAt_j {l:List Pr1} {a:Int} (hl:l.length≤1000) (hp:Pks l) (ha:0≤a∧a≤4000000000000000000):∃x,rating_priceAt (l,a)=some x∧PX l a x:=by
 rw [priceAt_eq]
 simp only [↓SDl,SDr,wk_j ha,mn_j ha]
 have hw:=wkd_r a
 rcases loop_first (body:=paB l (wkd a) (mnt a)) l.length (fun i=>CT (l.getD i p0) a) (fun i => .inr (i:Int)) (.inl ())
  (fun i hi hb=>by
    obtain ⟨x,hx,hxb⟩:=get_at p0 hi
    have hpi:=hp i hi
    rw [hx] at hb hpi
    have hbl:=bit_lem (d:=x.1.1) (wkd a).toNat (by have:=hpi.1;omega) (by omega)
    have hn:((i:Int)+1)=((i+1:Nat):Int):=rfl
    unfold paB
    simp (disch:=(first | omega | (simp only [LNl];omega))) only [↓SDl,SDr,if_pos,if_neg,↓hxb,hbl,wrap_i64',hn]
    by_cases c1:(x.1.1 / (2:Int) ^ (wkd a).toNat) % 2=1
    ·by_cases c2:x.1.2.1≤mnt a
     ·have c3:¬mnt a<x.1.2.2:=fun k=>hb ⟨c1,c2,k⟩
      simp (disch:=(first | omega | (simp only [LNl];omega))) only [↓SDl,SDr,if_pos,if_neg,wrap_i64',hn]
     ·simp (disch:=(first | omega | (simp only [LNl];omega))) only [↓SDl,SDr,if_pos,if_neg,wrap_i64',hn]
    ·simp (disch:=(first | omega | (simp only [LNl];omega))) only [↓SDl,SDr,if_pos,if_neg,wrap_i64',hn])
  (fun i hi hb=>by
    obtain ⟨x,hx,hxb⟩:=get_at p0 hi
    have hpi:=hp i hi
    rw [hx] at hb hpi
    obtain ⟨c1,c2,c3⟩:=hb
    have hbl:=bit_lem (d:=x.1.1) (wkd a).toNat (by have:=hpi.1;omega) (by omega)
    unfold paB
    simp (disch:=(first | omega | (simp only [LNl];omega))) only [↓SDl,SDr,if_pos,if_neg,↓hxb,hbl])
  (by unfold paB;simp (disch:=(first | omega | (simp only [LNl];omega))) only [↓SDl,SDr,if_pos,if_neg]) with ⟨i,h1,h2,h3,e⟩ | ⟨h,e⟩
 ·rw [e];exact ⟨_,rfl,.inr ⟨i,h1,rfl,h2,h3⟩⟩
 ·rw [e];exact ⟨_,rfl,.inl ⟨rfl,h⟩⟩
theorem last_ct {p:Pr1} (h:Lst p) (a:Int):CT p a:=by
 obtain ⟨h1,h2,h3⟩:=h
 have hm:=mnt_r a
 have hw:=wkd_r a
 refine ⟨?_,by omega,by omega⟩
 rw [h1]
 obtain ⟨k,hk⟩:∃k,(wkd a).toNat=k:=⟨_,rfl⟩
 rw [hk]
 have hk6:k≤6:=by omega
 have:k=0∨k=1∨k=2∨k=3∨k=4∨k=5∨k=6:=by omega
 rcases this with rfl | rfl | rfl | rfl | rfl | rfl | rfl<;>decide
theorem PX.pos {l:List Pr1} {a x:Int} (hl:RVl l) (h:PX l a x):∃i:Nat,i<l.length∧x=(i:Int):=by
 rcases h with ⟨rfl,h⟩ | ⟨i,hi,rfl,_⟩
 ·exact (h (l.length-1) (by have:=hl.1;omega) (last_ct hl.2.2 a)).elim
 ·exact ⟨i,hi,rfl⟩
theorem bit_j (k:Nat) (hk:k≤8):dialtoneref37_bit (k:Int)=some ((2:Int) ^ k):=by
 rw [bit_eq]
 have e:loopO (btB (k:Int)) ((0:Int),(1:Int))=some (.inl ((2:Int) ^ k)):=by
  refine loopO_from (fun i=>((i:Int),(2:Int) ^ i)) k rfl (fun i hi => ?_) ?_
  ·have hp:(2:Int) ^ (i+1)=2*2 ^ i:=by rw [Int.pow_succ,Int.mul_comm]
   have hb:(2:Int) ^ i≤256:=by
    have:i=0∨i=1∨i=2∨i=3∨i=4∨i=5∨i=6∨i=7:=by omega
    rcases this with rfl | rfl | rfl | rfl | rfl | rfl | rfl | rfl<;>decide
   have h0:=pow_pos' i
   have hn:((i:Int)+1)=((i+1:Nat):Int):=rfl
   unfold btB
   simp (disch:=omega) only [↓SDl,SDr,if_pos,wrap_i64',hn,hp]
  ·unfold btB
   simp (disch:=omega) only [↓SDl,SDr,if_neg]
 rw [e];rfl
theorem cont_b {β:Type} {x:Pr1} {a:Int} (hp:Pok x) (ha:0≤a∧a≤4000000000000000000) (f:Bool→Option β):bindO (dialtoneref37_Contains ((x.1.1,(x.1.2.1,x.1.2.2)),a)) f=f (decide (CT x a)):=by
 have e:dialtoneref37_Contains ((x.1.1,(x.1.2.1,x.1.2.2)),a)=some (decide (CT x a)):=by
  unfold dialtoneref37_Contains
  have hw:=wkd_r a
  have hm:=mnt_r a
  simp only [↓SDl,SDr,wk_j ha,mn_j ha]
  obtain ⟨k,hk⟩:∃k:Nat,wkd a=(k:Int):=⟨(wkd a).toNat,by omega⟩
  have hk':(wkd a).toNat=k:=by omega
  have h0:=pow_pos' k
  have hd:=hp.1
  have d0:0≤x.1.1 / (2:Int) ^ k:=Int.ediv_nonneg (by omega) (by omega)
  have d1:x.1.1 / (2:Int) ^ k≤x.1.1:=Int.ediv_le_self _ (by omega)
  rw [hk,bit_j k (by omega)]
  simp (disch:=omega) only [↓SDl,SDr,ne_eq,wrap_i64',Int.tdiv_eq_ediv_of_nonneg]
  rw [Int.tmod_eq_emod_of_nonneg d0]
  have hct:CT x a↔(x.1.1 / (2:Int) ^ k) % 2=1∧x.1.2.1≤mnt a∧mnt a<x.1.2.2:=by unfold CT;rw [hk']
  by_cases c1:(x.1.1 / (2:Int) ^ k) % 2=1
  ·by_cases c2:x.1.2.1≤mnt a
   ·rw [if_pos c1,if_pos c2]
    by_cases c3:mnt a<x.1.2.2
    ·rw [decide_eq_true c3,decide_eq_true (hct.2 ⟨c1,c2,c3⟩)]
    ·rw [decide_eq_false c3,decide_eq_false (fun k=>c3 (hct.1 k).2.2)]
   ·rw [if_pos c1,if_neg c2,decide_eq_false (fun k=>c2 (hct.1 k).2.1)]
  ·rw [if_neg c1,decide_eq_false (fun k=>c1 (hct.1 k).1)]
 rw [e];rfl
theorem prc_loop {l:List Pr1} {a:Int} (hl:l.length≤1000) (hp:Pks l) (ha:0≤a∧a≤4000000000000000000):(∃i:Nat,PX l a (i:Int)∧loopO (prcB l a) (0:Int)=some (.inr ((i:Int),true)))∨(PX l a (-1)∧loopO (prcB l a) (0:Int)=some (.inl ())):=by
 rcases loop_first (body:=prcB l a) l.length (fun i=>CT (l.getD i p0) a) (fun i => .inr ((i:Int),true)) (.inl ())
  (fun i hi hb=>by
    obtain ⟨x,hx,hxb⟩:=get_at p0 hi
    have hpi:=hp i hi
    rw [hx] at hb hpi
    have hn:((i:Int)+1)=((i+1:Nat):Int):=rfl
    unfold prcB
    simp (disch:=(first | omega | (simp only [LNl];omega))) only [↓SDl,SDr,if_pos,if_neg,↓hxb,cont_b hpi ha,hb,decide_false,wrap_i64',hn])
  (fun i hi hb=>by
    obtain ⟨x,hx,hxb⟩:=get_at p0 hi
    have hpi:=hp i hi
    rw [hx] at hb hpi
    unfold prcB
    simp (disch:=(first | omega | (simp only [LNl];omega))) only [↓SDl,SDr,if_pos,if_neg,↓hxb,cont_b hpi ha,hb,decide_true])
  (by unfold prcB;simp (disch:=(first | omega | (simp only [LNl];omega))) only [↓SDl,SDr,if_pos,if_neg]) with ⟨i,h1,h2,h3,e⟩ | ⟨h,e⟩
 ·exact .inl ⟨i,.inr ⟨i,h1,rfl,h2,h3⟩,e⟩
 ·exact .inr ⟨.inl ⟨rfl,h⟩,e⟩
theorem validRate_t {r:Ra} (h:RV r):rating_validRate (r.1,(r.2.1,(r.2.2.1,(r.2.2.2.1,r.2.2.2.2))))=some true:=by
 rcases validRate_j r.1 r.2.1 r.2.2.1 r.2.2.2.1 r.2.2.2.2 with ⟨_,e⟩ | ⟨k,_⟩
 ·exact e
 ·exact (k h).elim
theorem priceR_j {r:Ra} {a:Int} (h:RV r) (ha:0≤a∧a≤562949953421312):∃i:Nat,i<r.2.2.2.2.length∧PX r.2.2.2.2 a (i:Int)∧dialtoneref37_PriceAt ((r.1,(r.2.1,(r.2.2.1,(r.2.2.2.1,r.2.2.2.2)))),a)=some ((i:Int),true):=by
 rw [priceR_eq,rate_same,validRate_t h]
 simp (disch:=omega) only [↓SDl,SDr,if_neg]
 rcases prc_loop (l:=r.2.2.2.2) (a:=a) (by have:=h.2.2.1;omega) h.2.2.2.1 (by omega) with ⟨i,hx,e⟩ | ⟨hx,e⟩
 ·obtain ⟨i',hi',e'⟩:=hx.pos h.2.2
  have:i=i':=by omega
  subst this
  rw [e]
  exact ⟨i,hi',hx,rfl⟩
 ·obtain ⟨i',hi',e'⟩:=hx.pos h.2.2
  omega
end Go.Proofs.Ytkpijdndakljjaa.Rt

set_option maxRecDepth 100000
namespace Go.Proofs.Ytkpijdndakljjaa.Rt
open Go.RowKit
noncomputable def pcB (a1:List UInt8) (a2 a3 a4:Int) (a5:List Pr1) (a6 a7:Int):Int→Option (Int ⊕ (Int ⊕ Int)) :=
(fun v9 =>
 bindO (dialtoneref37_Begin ((a1,(a2,(a3,(a4,a5)))),(a6,v9))) fun x10 =>
 bif (decide (x10<a7)) then
 some (Sum.inl (Go.IntKind.wrap .i64 (v9+(1:Int))))
 else
 outO (some (Sum.inl v9)))
theorem piecesR_eq (a1:List UInt8) (a2 a3 a4:Int) (a5:List Pr1) (a6 a7:Int):dialtoneref37_Pieces ((a1,(a2,(a3,(a4,a5)))),(a6,a7)) =
 joinO (bindO (dialtoneref37_Rate (a1,(a2,(a3,(a4,a5))))) fun x8 =>
 bif (!x8) then
 outO (some (0:Int))
 else
 bif (decide (a6<(0:Int))) then
 outO (some (0:Int))
 else
 bif (decide (a6 > (3600:Int))) then
 outO (some (0:Int))
 else
 bif (decide (a7<(0:Int))) then
 outO (some (0:Int))
 else
 bif (decide (a7 > (1000000:Int))) then
 outO (some (0:Int))
 else
 some (Sum.inl ())) fun _ =>
 joinO (loopO (pcB a1 a2 a3 a4 a5 a6 a7) (0:Int)) fun v12 =>
 some v12:=rfl
def BG (f fi st:Int) (i:Nat):Int:=if i=0 then f else f+fi+((i:Int)-1)*st
def PN (f fi st s:Int):Int:=if s≤f then 0 else if s-f-fi≤0 then 1 else 1+(s-f-fi+st-1) / st
theorem pn_nn {f fi st s:Int} (hst:1≤st):0≤PN f fi st s:=by
 unfold PN
 split
 ·omega
 ·split
  ·omega
  ·have:=Int.ediv_nonneg (a:=s-f-fi+st-1) (b:=st) (by omega) (by omega)
   omega
theorem bg_lt {f fi st s:Int} (hst:1≤st) {i:Nat} (h:(i:Int)<PN f fi st s):BG f fi st i<s:=by
 unfold PN at h
 unfold BG
 split at h
 ·omega
 ·split at h
  ·have:i=0:=by omega
   rw [if_pos this];omega
  ·by_cases e:i=0
   ·rw [if_pos e];omega
   ·rw [if_neg e]
    have h1:(i:Int)≤(s-f-fi+st-1) / st:=by omega
    have h2:(i:Int)*st≤s-f-fi+st-1:=(Int.le_ediv_iff_mul_le (by omega)).1 h1
    rw [Int.sub_mul,Int.one_mul];omega
theorem bg_ge {f fi st s:Int} (hst:1≤st) {i:Nat} (h:(i:Int)=PN f fi st s):s≤BG f fi st i:=by
 unfold PN at h
 unfold BG
 split at h
 ·rw [if_pos (by omega)];omega
 ·split at h
  ·have:i=1:=by omega
   subst this
   rw [if_neg (by omega),show (((1:Nat):Int)-1)=0 from rfl,Int.zero_mul];omega
  ·have h0:=Int.ediv_nonneg (a:=s-f-fi+st-1) (b:=st) (by omega) (by omega)
   have hl:=Int.lt_ediv_add_one_mul_self (s-f-fi+st-1) (show 0<st by omega)
   rw [if_neg (by omega),show ((i:Int)-1)=(s-f-fi+st-1) / st from by omega]
   rw [Int.add_mul,Int.one_mul] at hl
   omega
theorem pn_le {f fi st s:Int} (hst:1≤st) (hf:0≤f) (hfi:1≤fi) (hs:0≤s):PN f fi st s≤s:=by
 unfold PN
 split
 ·omega
 ·split
  ·omega
  ·have:(s-f-fi+st-1) / st≤s-f-fi:=by
    have h1:=Int.lt_ediv_add_one_mul_self (s-f-fi+st-1) (show 0<st by omega)
    refine Int.ediv_le_of_le_mul (by omega) ?_
    have:(s-f-fi)*st=(s-f-fi-1)*(st-1)+(s-f-fi+st-1):=by
     rw [Int.sub_mul (s-f-fi) 1 (st-1),Int.mul_sub,Int.mul_one,Int.one_mul];omega
    have h2:=Int.mul_nonneg (a:=s-f-fi-1) (b:=st-1) (by omega) (by omega)
    omega
   omega
theorem bg_bd {f fi st:Int} (hf:0≤f∧f≤3600) (hfi:1≤fi∧fi≤3600) (hst:1≤st∧st≤3600) {i:Nat} (hi:i≤1000001):0≤BG f fi st i∧BG f fi st i≤4000000000:=by
 unfold BG
 split
 ·omega
 ·have h1:=Int.mul_nonneg (a:=(i:Int)-1) (b:=st) (by omega) (by omega)
  have h2:((i:Int)-1)*st≤1000000*3600:=Int.mul_le_mul (by omega) hst.2 (by omega) (by omega)
  omega
theorem begin_b {β:Type} (r:Ra) {f:Int} (hf:0≤f∧f≤3600) (hfi:1≤r.2.2.1∧r.2.2.1≤3600) (hst:1≤r.2.2.2.1∧r.2.2.2.1≤3600) {i:Nat} (hi:i≤1000001) (k:Int→Option β):bindO (dialtoneref37_Begin ((r.1,(r.2.1,(r.2.2.1,(r.2.2.2.1,r.2.2.2.2)))),(f,(i:Int)))) k=k (BG f r.2.2.1 r.2.2.2.1 i):=by
 have e:dialtoneref37_Begin ((r.1,(r.2.1,(r.2.2.1,(r.2.2.2.1,r.2.2.2.2)))),(f,(i:Int)))=some (BG f r.2.2.1 r.2.2.2.1 i):=by
  unfold dialtoneref37_Begin BG
  by_cases h:i=0
  ·subst h
   simp (disch:=omega) only [↓SDl,SDr,if_pos]
  ·have h1:=Int.mul_nonneg (a:=(i:Int)-1) (b:=r.2.2.2.1) (by omega) (by omega)
   have h2:((i:Int)-1)*r.2.2.2.1≤1000000*3600:=Int.mul_le_mul (by omega) hst.2 (by omega) (by omega)
   rw [if_neg h]
   simp (disch:=omega) only [↓SDl,SDr,if_neg,wrap_i64']
 rw [e];rfl
theorem piecesP_j {r:Ra} {f s:Int} (h:RV r) (hf:0≤f∧f≤3600) (hs:0≤s∧s≤1000000):rating_Pieces ((r.1,(r.2.1,(r.2.2.1,(r.2.2.2.1,r.2.2.2.2)))),(f,s))=some (PN f r.2.2.1 r.2.2.2.1 s):=by
 have hfi:=h.1.2.2.1
 have hst:=h.1.2.2.2
 unfold rating_Pieces PN
 by_cases h1:s≤f
 ·rw [if_pos h1]
  simp (disch:=omega) only [↓SDl,SDr,validRate_t h,within_b,hf,hs,and_self,decide_true,if_pos]
 ·rw [if_neg h1]
  simp (disch:=omega) only [↓SDl,SDr,validRate_t h,within_b,hf,hs,and_self,decide_true,if_neg,wrap_i64']
  by_cases h2:s-f-r.2.2.1≤0
  ·rw [if_pos h2,if_pos h2]
  ·rw [if_neg h2,if_neg h2]
   have h0:=Int.ediv_nonneg (a:=s-f-r.2.2.1+r.2.2.2.1-1) (b:=r.2.2.2.1) (by omega) (by omega)
   have h3:=Int.ediv_le_self (a:=s-f-r.2.2.1+r.2.2.2.1-1) r.2.2.2.1 (by omega)
   rw [Int.tdiv_eq_ediv_of_nonneg (by omega)]
   simp (disch:=omega) only [↓SDl,SDr,if_pos,wrap_i64',ne_eq]
theorem piecesR_j {r:Ra} {f s:Int} (h:RV r) (hf:0≤f∧f≤3600) (hs:0≤s∧s≤1000000):dialtoneref37_Pieces ((r.1,(r.2.1,(r.2.2.1,(r.2.2.2.1,r.2.2.2.2)))),(f,s))=some (PN f r.2.2.1 r.2.2.2.1 s):=by
 have hfi:=h.1.2.2.1
 have hst:=h.1.2.2.2
 rw [piecesR_eq,rate_same,validRate_t h]
 have hn:=pn_nn (f:=f) (fi:=r.2.2.1) (s:=s) hst.1
 have hle:=pn_le (st:=r.2.2.2.1) hst.1 hf.1 hfi.1 hs.1
 obtain ⟨n,hn'⟩:∃n:Nat,PN f r.2.2.1 r.2.2.2.1 s=(n:Int):=⟨(PN f r.2.2.1 r.2.2.2.1 s).toNat,by omega⟩
 have e:loopO (pcB r.1 r.2.1 r.2.2.1 r.2.2.2.1 r.2.2.2.2 f s) (0:Int)=some (.inl (n:Int)):=by
  refine loopO_from (fun i=>(i:Int)) n rfl (fun i hi => ?_) ?_
  ·have hlt:=bg_lt (f:=f) (fi:=r.2.2.1) (s:=s) hst.1 (i:=i) (by omega)
   have hn1:((i:Int)+1)=((i+1:Nat):Int):=rfl
   unfold pcB
   rw [begin_b r hf hfi hst (by omega)]
   simp (disch:=omega) only [↓SDl,SDr,if_pos,wrap_i64',hn1]
  ·have hge:=bg_ge (f:=f) (fi:=r.2.2.1) (s:=s) hst.1 (i:=n) (by omega)
   unfold pcB
   rw [begin_b r hf hfi hst (by omega)]
   simp (disch:=omega) only [↓SDl,SDr,if_neg]
 simp (disch:=omega) only [↓SDl,SDr,if_neg,e]
 rw [hn']
end Go.Proofs.Ytkpijdndakljjaa.Rt

set_option maxRecDepth 100000
namespace Go.Proofs.Ytkpijdndakljjaa.Rt
open Go.RowKit
noncomputable def csB (x:Ra) (a2 a4 n:Int):(Int×Int)→Option ((Int×Int) ⊕ (Int ⊕ (Int×Int))) :=
(fun (v15,v16) =>
 bif (decide (v15<n)) then
 bindO (dialtoneref37_Begin ((x.1,(x.2.1,(x.2.2.1,(x.2.2.2.1,x.2.2.2.2)))),(a2,v15))) fun x17 =>
 bindO (dialtoneref37_PriceAt ((x.1,(x.2.1,(x.2.2.1,(x.2.2.2.1,x.2.2.2.2)))),(Go.IntKind.wrap .i64 (a4+(Go.IntKind.wrap .i64 ((1000:Int)*x17)))))) fun (x21,x22) =>
 bif (decide (v15=(0:Int))) then
 bif (decide (((0:Int)≤x21)∧(x21<(((List.length x.2.2.2.2):Nat):Int)))) then
 bindO x.2.2.2.2[(Int.toNat x21)]? fun x23 =>
 some (Sum.inl ((Go.IntKind.wrap .i64 (v15+(1:Int))),(Go.IntKind.wrap .i64 (v16+x23.2.1))))
 else none
 else
 bif (decide (((0:Int)≤x21)∧(x21<(((List.length x.2.2.2.2):Nat):Int)))) then
 bindO x.2.2.2.2[(Int.toNat x21)]? fun x26 =>
 some (Sum.inl ((Go.IntKind.wrap .i64 (v15+(1:Int))),(Go.IntKind.wrap .i64 (v16+x26.2.2))))
 else none
 else
 outO (some (Sum.inl v16)))
theorem costR_eq (a1:List Ra) (a2:Int) (a3:List UInt8) (a4 a5:Int):dialtoneref37_Cost ((a1,a2),(a3,(a4,a5))) =
 bindO (dialtoneref37_Valid (a1,a2)) fun x6 =>
 bif (!x6) then
  some ((0:Int),(2:Int))
 else
  bindO (dialtoneref37_Span (a4,a5)) fun x7 =>
  bif (!x7) then
   some ((0:Int),(3:Int))
  else
   bindO (dialtoneref37_Seconds (a4,a5)) fun x8 =>
   bif (decide (x8 > (1000000:Int))) then
    some ((0:Int),(4:Int))
   else
    bindO (dialtoneref37_Find ((a1,a2),a3)) fun (x10,x11) =>
    bif (!x11) then
     some ((0:Int),(8:Int))
    else
     bif (decide (((0:Int)≤x10)∧(x10<(((List.length a1):Nat):Int)))) then
      bindO a1[(Int.toNat x10)]? fun x12 =>
      bindO (dialtoneref37_Seconds (a4,a5)) fun x13 =>
      bindO (dialtoneref37_Pieces ((x12.1,(x12.2.1,(x12.2.2.1,(x12.2.2.2.1,x12.2.2.2.2)))),(a2,x13))) fun x14 =>
      bif (decide (x14=(0:Int))) then
       some ((0:Int),(0:Int))
      else
       joinO (loopO (csB x12 a2 a4 x14) ((0:Int),x12.2.1)) fun v29 =>
       some (v29,(0:Int))
     else none:=rfl
noncomputable def px (l:List Pr1) (a:Int):Int:=(rating_priceAt (l,a)).getD 0
theorem px_j {l:List Pr1} {a:Int} (h:RVl l) (ha:0≤a∧a≤4000000000000000000):rating_priceAt (l,a)=some (px l a)∧PX l a (px l a):=by
 obtain ⟨x,e,hx⟩:=priceAt_j (l:=l) (a:=a) (by have:=h.1;omega) h.2.1 ha
 have:px l a=x:=by unfold px;rw [e];rfl
 rw [this]
 exact ⟨e,hx⟩
noncomputable def prc (l:List Pr1) (a:Int) (k:Nat):Int:=if k=0 then (l.getD (px l a).toNat p0).2.1 else (l.getD (px l a).toNat p0).2.2
theorem prc_bd {l:List Pr1} {a:Int} (h:RVl l) (ha:0≤a∧a≤4000000000000000000) (k:Nat):0≤prc l a k∧prc l a k≤1000000000:=by
 obtain ⟨i,hi,e⟩:=(px_j h ha).2.pos h
 have hp:=h.2.1 i hi
 unfold prc
 rw [e,Int.toNat_natCast]
 split
 ·exact hp.2.1
 ·exact hp.2.2
noncomputable def CU (l:List Pr1) (rc:Int) (mo:Nat→Int):Nat→Int
 | 0=>rc
 | k+1=>CU l rc mo k+prc l (mo k) k
theorem cs_bd {l:List Pr1} {rc:Int} {mo:Nat→Int} (h:RVl l) (hr:MnOk rc):∀ {n:Nat},(∀k,k<n→0≤mo k∧mo k≤4000000000000000000)→0≤CU l rc mo n∧CU l rc mo n≤1000000000*((n:Int)+1)
 | 0,_=>by unfold CU;omega
 | n+1,hm=>by
   have h1:=cs_bd h hr (n:=n) (fun k hk=>hm k (by omega))
   have h2:=prc_bd h (hm n (by omega)) n
   unfold CU
   omega
theorem sum_j {l:List Pr1} {rc:Int} {mo:Nat→Int} (h:RVl l) (hr:MnOk rc):∀ {n:Nat},n≤1000000→(∀k,k<n→0≤mo k∧mo k≤4000000000000000000)→sumN l rc mo n=some (CU l rc mo n)
 | 0,_,_=>rfl
 | n+1,hn,hm=>by
   have h0:=cs_bd h hr (n:=n) (mo:=mo) (fun k hk=>hm k (by omega))
   have h2:=prc_bd h (hm n (by omega)) n
   obtain ⟨e,hx⟩:=px_j h (hm n (by omega))
   obtain ⟨i,hi,ei⟩:=hx.pos h
   unfold sumN CU
   rw [sum_j h hr (by omega) (fun k hk=>hm k (by omega))]
   simp only [↓SDl,SDr,e]
   have hp:(if (n:Int)=0 then (l.getD (px l (mo n)).toNat ((0,(0,0)),(0,0))).2.1 else (l.getD (px l (mo n)).toNat ((0,(0,0)),(0,0))).2.2)=prc l (mo n) n:=by
    unfold prc
    by_cases k:n=0
    ·rw [if_pos k,if_pos (by omega)]
    ·rw [if_neg k,if_neg (by omega)]
   rw [hp,if_pos (show 0≤px l (mo n)∧px l (mo n)<(l.length:Int) by omega),wrap_i64' (by omega)]
def MO (a f fi st:Int) (k:Nat):Int:=a+1000*BG f fi st k
theorem bg_succ (f fi st:Int) (k:Nat):BG f fi st (k+1)=BG f fi st k+if k=0 then fi else st:=by
 unfold BG
 rw [if_neg (by omega)]
 by_cases h:k=0
 ·subst h
  rw [if_pos rfl,if_pos rfl,show (((0+1:Nat):Int)-1)=0 from rfl,Int.zero_mul];omega
 ·rw [if_neg h,if_neg h,show (((k+1:Nat):Int)-1)=((k:Int)-1)+1 from by omega,Int.add_mul,Int.one_mul];omega
theorem beg_j {a f fi st:Int} (ha:0≤a∧a≤281474976710656) (hf:0≤f∧f≤3600) (hfi:1≤fi∧fi≤3600) (hst:1≤st∧st≤3600):∀ {k:Nat},k≤1000001→begN (IntKind.wrap .i64 (a+IntKind.wrap .i64 (1000*f))) fi st k=MO a f fi st k
 | 0,_=>by
   unfold begN MO BG
   rw [if_pos rfl,wrap_i64' (n:=1000*f) (by omega),wrap_i64' (by omega)]
 | k+1,hk=>by
   have h0:=bg_bd (i:=k) hf hfi hst (by omega)
   have h1:=bg_bd (i:=k+1) hf hfi hst hk
   have hs:=bg_succ f fi st k
   unfold begN
   rw [beg_j ha hf hfi hst (by omega)]
   have hw:∀n:Int,-9223372036854775808≤n∧n<9223372036854775808→wrap64 n=n:=fun n h=>by unfold wrap64;omega
   show wrap64 (MO a f fi st k+wrap64 (1000*(if k=0 then fi else st)))=_
   unfold MO
   rw [hs] at h1 ⊢
   rw [hw (1000*(if k=0 then fi else st)) (by omega),hw _ (by omega)]
   omega
noncomputable def CV (r:Ra) (f a s:Int):Int:=if PN f r.2.2.1 r.2.2.2.1 s=0 then 0 else CU r.2.2.2.2 r.2.1 (MO a f r.2.2.1 r.2.2.2.1) (PN f r.2.2.1 r.2.2.2.1 s).toNat
theorem cs_congr {l:List Pr1} {rc:Int} {mo mo':Nat→Int}:∀ {n:Nat},(∀k,k<n→mo k=mo' k)→CU l rc mo n=CU l rc mo' n
 | 0,_=>rfl
 | n+1,h=>by unfold CU;rw [cs_congr (fun k hk=>h k (by omega)),h n (by omega)]
theorem validP_t {l:List Ra} {f:Int} (hv:TV l f):rating_Valid (l,f)=some true:=by
 rcases validP_j l f with ⟨_,e⟩ | ⟨k,_⟩
 ·exact e
 ·exact (k hv).elim
theorem validP_f {l:List Ra} {f:Int} (hv:¬TV l f):rating_Valid (l,f)=some false:=by
 rcases validP_j l f with ⟨k,_⟩ | ⟨_,e⟩
 ·exact (hv k).elim
 ·exact e
theorem mo_bd {a f fi st:Int} (ha:0≤a∧a≤281474976710656) (hf:0≤f∧f≤3600) (hfi:1≤fi∧fi≤3600) (hst:1≤st∧st≤3600) {k:Nat} (hk:k≤1000001):0≤MO a f fi st k∧MO a f fi st k≤300000000000000:=by
 have:=bg_bd (i:=k) hf hfi hst hk
 unfold MO
 omega
theorem costP_v {l:List Ra} {f a b:Int} {num:List UInt8} (hv:TV l f) (hs:Spn a b) (h1:SE a b≤1000000) {i:Nat} (hi:i<l.length) (hF:rating_Find ((l,f),num)=some ((i:Int),true)):rating_Cost ((l,f),(num,(a,b)))=some (CV (l.getD i r0) f a (SE a b),0):=by
 have hse:=se_nn a b
 have hrv:=(hv.2 i hi).1
 have hf:=hv.1.2
 have hfi:=hrv.1.2.2.1
 have hst:=hrv.1.2.2.2
 have hp:=piecesP_j hrv hf ⟨hse.1,h1⟩
 have hn:=pn_nn (f:=f) (fi:=(l.getD i r0).2.2.1) (s:=SE a b) hst.1
 have hle:=pn_le (st:=(l.getD i r0).2.2.2.1) hst.1 hf.1 hfi.1 hse.1
 have w1:0≤a∧a≤281474976710656:=⟨hs.1,Int.le_trans hs.2.1 hs.2.2⟩
 have w2:a≤b∧b≤281474976710656:=hs.2
 unfold rating_Cost CV
 simp (disch:=omega) only [↓SDl,SDr,validP_t hv,within_b,w1,w2,and_self,decide_true,secondsP_j,if_neg,hF,Int.toNat_natCast]
 have hp':rating_Pieces (l.getD i ([],(0,(0,(0,[])))),(f,SE a b))=some (PN f (l.getD i r0).2.2.1 (l.getD i r0).2.2.2.1 (SE a b)):=hp
 rw [hp']
 simp only [bindO_some]
 by_cases h0:PN f (l.getD i r0).2.2.1 (l.getD i r0).2.2.2.1 (SE a b)=0
 ·simp only [if_pos h0]
 ·simp only [if_neg h0]
  rw [if_pos (show (0:Int)≤PN f (l.getD i r0).2.2.1 (l.getD i r0).2.2.2.1 (SE a b)∧PN f (l.getD i r0).2.2.1 (l.getD i r0).2.2.2.1 (SE a b)≤4000000000000000000 by omega)]
  have hS:sumN (l.getD i r0).2.2.2.2 (l.getD i r0).2.1 (begN (IntKind.wrap .i64 (a+IntKind.wrap .i64 (1000*f))) (l.getD i r0).2.2.1 (l.getD i r0).2.2.2.1) (PN f (l.getD i r0).2.2.1 (l.getD i r0).2.2.2.1 (SE a b)).toNat=some (CU (l.getD i r0).2.2.2.2 (l.getD i r0).2.1 (MO a f (l.getD i r0).2.2.1 (l.getD i r0).2.2.2.1) (PN f (l.getD i r0).2.2.1 (l.getD i r0).2.2.2.1 (SE a b)).toNat):=by
   rw [sum_j hrv.2.2 hrv.1.2.1 (by omega) (fun k hk => ?_),cs_congr (fun k hk=>beg_j w1 hf hfi hst (by omega))]
   rw [beg_j w1 hf hfi hst (by omega)]
   have:=mo_bd w1 hf hfi hst (k:=k) (by omega)
   omega
  rw [hS]
  rfl
theorem priceR_b {β:Type} {r:Ra} {a:Int} (h:RV r) (ha:0≤a∧a≤562949953421312) (k:(Int×Bool)→Option β):bindO (dialtoneref37_PriceAt ((r.1,(r.2.1,(r.2.2.1,(r.2.2.2.1,r.2.2.2.2)))),a)) k=k (px r.2.2.2.2 a,true):=by
 obtain ⟨i,hi,hx,e⟩:=priceR_j h ha
 rw [e,(px_j h.2.2 (by omega)).2.uniq hx];rfl
theorem costR_v {l:List Ra} {f a b:Int} {num:List UInt8} (hv:TV l f) (hs:Spn a b) (h1:SE a b≤1000000) {i:Nat} (hi:i<l.length) (hF:dialtoneref37_Find ((l,f),num)=some ((i:Int),true)):dialtoneref37_Cost ((l,f),(num,(a,b)))=some (CV (l.getD i r0) f a (SE a b),0):=by
 have hse:=se_nn a b
 have hrv:=(hv.2 i hi).1
 obtain ⟨x,hx,hxb⟩:=get_at r0 hi
 rw [hx] at hrv ⊢
 have hf:=hv.1.2
 have hfi:=hrv.1.2.2.1
 have hst:=hrv.1.2.2.2
 have hp:=piecesR_j hrv hf ⟨hse.1,h1⟩
 have hn:=pn_nn (f:=f) (fi:=x.2.2.1) (s:=SE a b) hst.1
 have hle:=pn_le (st:=x.2.2.2.1) hst.1 hf.1 hfi.1 hse.1
 have w1:0≤a∧a≤281474976710656:=⟨hs.1,Int.le_trans hs.2.1 hs.2.2⟩
 rw [costR_eq,valid_same,validP_t hv]
 unfold CV
 simp (disch:=omega) only [↓SDl,SDr,span_b,hs,decide_true,secondsR_j,if_neg,hF]
 simp only [↓hxb,hp,bindO_some]
 by_cases h0:PN f x.2.2.1 x.2.2.2.1 (SE a b)=0
 ·simp only [if_pos h0]
 ·simp only [if_neg h0]
  obtain ⟨n,hn'⟩:∃n:Nat,PN f x.2.2.1 x.2.2.2.1 (SE a b)=(n:Int):=⟨(PN f x.2.2.1 x.2.2.2.1 (SE a b)).toNat,by omega⟩
  rw [hn',Int.toNat_natCast]
  have e:loopO (csB x f a (n:Int)) ((0:Int),x.2.1)=some (.inl (CU x.2.2.2.2 x.2.1 (MO a f x.2.2.1 x.2.2.2.1) n)):=by
   refine loopO_from (fun k=>((k:Int),CU x.2.2.2.2 x.2.1 (MO a f x.2.2.1 x.2.2.2.1) k)) n rfl (fun k hk => ?_) ?_
   ·have hm:∀j,j≤k→0≤MO a f x.2.2.1 x.2.2.2.1 j∧MO a f x.2.2.1 x.2.2.2.1 j≤300000000000000:=fun j hj=>mo_bd w1 hf hfi hst (by omega)
    have hb:=bg_bd (i:=k) hf hfi hst (by omega)
    have hmk:=hm k (Nat.le_refl _)
    have hcs:=cs_bd hrv.2.2 hrv.1.2.1 (n:=k) (mo:=MO a f x.2.2.1 x.2.2.2.1) (fun j hj=>by have:=hm j (by omega);omega)
    have hpr:=prc_bd hrv.2.2 (a:=MO a f x.2.2.1 x.2.2.2.1 k) (by omega) k
    obtain ⟨j,hj,ej⟩:=(px_j hrv.2.2 (a:=MO a f x.2.2.1 x.2.2.2.1 k) (by omega)).2.pos hrv.2.2
    have hn1:((k:Int)+1)=((k+1:Nat):Int):=rfl
    have hMO:a+1000*BG f x.2.2.1 x.2.2.2.1 k=MO a f x.2.2.1 x.2.2.2.1 k:=rfl
    obtain ⟨y,hy,hyb⟩:=get_at p0 hj
    have hprc:prc x.2.2.2.2 (MO a f x.2.2.1 x.2.2.2.1 k) k=if k=0 then y.2.1 else y.2.2:=by unfold prc;rw [ej,Int.toNat_natCast,hy]
    unfold csB
    simp (disch:=omega) only [↓SDl,SDr,if_pos,begin_b x hf hfi hst,wrap_i64',hMO,priceR_b hrv,ej]
    by_cases k0:k=0
    ·rw [if_pos k0] at hprc
     simp (disch:=omega) only [↓SDl,SDr,if_pos,↓hyb,wrap_i64',hn1]
     rw [CU,hprc]
    ·rw [if_neg k0] at hprc
     simp (disch:=omega) only [↓SDl,SDr,if_pos,if_neg,↓hyb,wrap_i64',hn1]
     rw [CU,hprc]
   ·unfold csB
    simp (disch:=omega) only [↓SDl,SDr,if_neg]
  rw [e]
  rfl
theorem cost_same (l:List Ra) (f:Int) (num:List UInt8) (a b:Int):∃r,rating_Cost ((l,f),(num,(a,b)))=some r∧dialtoneref37_Cost ((l,f),(num,(a,b)))=some r:=by
 by_cases hv:TV l f
 ·by_cases hs:Spn a b
  ·by_cases h1:SE a b≤1000000
   ·obtain ⟨r,e1,e2,k1,_⟩:=find_same l f num
    rcases k1 hv with ⟨rfl,_⟩ | ⟨i,hi,rfl,_⟩
    ·have w1:0≤a∧a≤281474976710656:=⟨hs.1,Int.le_trans hs.2.1 hs.2.2⟩
     have w2:a≤b∧b≤281474976710656:=hs.2
     refine ⟨(0,8),?_,?_⟩
     ·unfold rating_Cost
      simp (disch:=omega) only [↓SDl,SDr,validP_t hv,within_b,w1,w2,and_self,decide_true,secondsP_j,if_neg,e1]
     ·rw [costR_eq,valid_same,validP_t hv]
      simp (disch:=omega) only [↓SDl,SDr,span_b,hs,decide_true,secondsR_j,if_neg,e2]
    ·exact ⟨_,costP_v hv hs h1 hi e1,costR_v hv hs h1 hi e2⟩
   ·have w1:0≤a∧a≤281474976710656:=⟨hs.1,Int.le_trans hs.2.1 hs.2.2⟩
    have w2:a≤b∧b≤281474976710656:=hs.2
    refine ⟨(0,4),?_,?_⟩
    ·unfold rating_Cost
     simp (disch:=omega) only [↓SDl,SDr,validP_t hv,within_b,w1,w2,and_self,decide_true,secondsP_j,if_pos]
    ·rw [costR_eq,valid_same,validP_t hv]
     simp (disch:=omega) only [↓SDl,SDr,span_b,hs,decide_true,secondsR_j,if_pos]
  ·refine ⟨(0,3),?_,?_⟩
   ·unfold rating_Cost
    by_cases w1:0≤a∧a≤281474976710656
    ·have w2:¬(a≤b∧b≤281474976710656):=fun k=>hs ⟨w1.1,k⟩
     simp (disch:=omega) only [↓SDl,SDr,validP_t hv,within_b,w1,w2,and_self,decide_true,decide_false]
    ·simp (disch:=omega) only [↓SDl,SDr,validP_t hv,within_b,w1,decide_false]
   ·rw [costR_eq,valid_same,validP_t hv]
    simp (disch:=omega) only [↓SDl,SDr,span_b,hs,decide_false]
 ·refine ⟨(0,2),?_,?_⟩
  ·unfold rating_Cost
   simp only [↓SDl,SDr,validP_f hv]
  ·rw [costR_eq,valid_same,validP_f hv];rfl
end Go.Proofs.Ytkpijdndakljjaa.Rt

namespace Go.Proofs.Ytkpijdndakljjaa.Jn
open Go.RowKit
def crcBit (v:BitVec 32):BitVec 32:=if v.toNat % 2=1 then (v >>> 1) ^^^ 3988292384#32 else v >>> 1
def itB:Nat→BitVec 32→BitVec 32
 | 0,v=>v
 | n+1,v=>crcBit (itB n v)
def crcB (c:BitVec 32) (x:Int):BitVec 32:=itB 8 (c ^^^ BitVec.ofInt 32 x)
def crcV (l:List Int):BitVec 32:=l.foldl crcB 4294967295#32
def crc (l:List Int):Int:=(((crcV l ^^^ 4294967295#32).toNat:Nat):Int)
theorem bvI (v:BitVec 32):BitVec.ofInt 32 ((v.toNat:Nat):Int)=v:=by
 rw [BitVec.ofInt_natCast,BitVec.ofNat_toNat,BitVec.setWidth_eq]
theorem wrBV (v:BitVec 32):IntKind.wrap .u32 ((v.toNat:Nat):Int)=((v.toNat:Nat):Int):=by
 rw [wr_u32]
 have:=v.isLt
 omega
theorem wrHalf (v:BitVec 32):IntKind.wrap .u32 (Int.tdiv ((v.toNat:Nat):Int) 2)=(((v >>> 1).toNat:Nat):Int):=by
 rw [wr_u32,BitVec.toNat_ushiftRight,Nat.shiftRight_eq_div_pow,Int.tdiv_eq_ediv_of_nonneg (by omega)]
 have:=v.isLt
 omega
theorem and1 (v:BitVec 32):(v &&& 1#32).toNat=v.toNat % 2:=by
 rw [BitVec.toNat_and]
 show v.toNat &&& 1=_
 rw [Nat.and_one_is_mod]
theorem foldl_take {α β:Type} (f:β→α→β) (b:β) (l:List α) {i:Nat} (h:i<l.length):(l.take (i+1)).foldl f b=f ((l.take i).foldl f b) l[i]:=by
 rw [List.take_add_one,List.getElem?_eq_getElem h,List.foldl_append];rfl
theorem check_j (l:List Int) (h:Bytes l) (hl:l.length≤9223372036854775806):journal_Check l=some (crc l):=by
 unfold journal_Check
 refine joinO_eq (a:=(((crcV l).toNat:Nat):Int)) (loopO_from (fun i=>((i:Int),((((l.take i).foldl crcB 4294967295#32).toNat:Nat):Int))) l.length rfl ?_ ?_) ?_
 ·intro i hi
  simp only [bindO_some,bindO_none,joinO_inl,joinO_inr,joinO_none,outO_some,outO_none,cond_ite,List.take_length,Nat.le_refl,if_true,Nat.mul_one,Int.mul_one,cond_true,cond_false]
  rw [if_pos (by omega)]
  refine joinO_eq (a:=((((l.take (i+1)).foldl crcB 4294967295#32).toNat:Nat):Int)) ?_ ?_
  ·rw [if_pos (by omega),get_nat hi]
   generalize hc:(l.take i).foldl crcB 4294967295#32=c
   have hx:=h.get hi
   have e0:BitVec.ofInt 32 (IntKind.wrap .u32 l[i])=BitVec.ofInt 32 l[i]:=by
    rw [wr_u32];congr 1;omega
   refine loopO_from (fun j=>((j:Int),(((itB j (c ^^^ BitVec.ofInt 32 l[i])).toNat:Nat):Int))) 8 ?_ ?_ ?_
   ·show ((0:Int),(((c ^^^ BitVec.ofInt 32 l[i]).toNat:Nat):Int))=_
    rw [e0,bvI,wrBV]
   ·intro j hj
    show _=some (Sum.inl (((j+1:Nat):Int),(((crcBit (itB j (c ^^^ BitVec.ofInt 32 l[i]))).toNat:Nat):Int)))
    generalize itB j (c ^^^ BitVec.ofInt 32 l[i])=v at *
    simp only [bindO_some,bindO_none,joinO_inl,joinO_inr,joinO_none,outO_some,outO_none,cond_ite,List.take_length,Nat.le_refl,if_true,Nat.mul_one,Int.mul_one,cond_true,cond_false]
    rw [if_pos (by omega),wrap_i64' (by omega)]
    simp only [wrHalf,bvI,wrBV]
    rw [show BitVec.ofInt 32 1=1#32 from rfl,and1]
    unfold crcBit
    by_cases hb:v.toNat % 2=1
    ·rw [if_pos (by omega),if_pos hb];rfl
    ·rw [if_neg (by omega),if_neg hb];rfl
   ·simp only [bindO_some,bindO_none,joinO_inl,joinO_inr,joinO_none,outO_some,outO_none,cond_ite,List.take_length,Nat.le_refl,if_true,Nat.mul_one,Int.mul_one,cond_true,cond_false]
    rw [if_neg (by omega),foldl_take crcB _ l hi,hc]
    rfl
  ·rw [wrap_i64' (by omega)];rfl
 ·simp only [bindO_some,bindO_none,joinO_inl,joinO_inr,joinO_none,outO_some,outO_none,cond_ite,List.take_length,Nat.le_refl,if_true,Nat.mul_one,Int.mul_one,cond_true,cond_false]
  rw [if_neg (by omega)]
  rfl
 ·simp only [bvI]
  rw [show BitVec.ofInt 32 4294967295=4294967295#32 from rfl,wrBV,BitVec.xor_comm];rfl
theorem check_r (l:List Int) (h:Bytes l) (hl:l.length≤9223372036854775806):dialtoneref20_Check l=some (crc l):=by
 unfold dialtoneref20_Check
 refine joinO_eq (a:=(((crcV l).toNat:Nat):Int)) (loopO_from (fun i=>((i:Int),((((l.take i).foldl crcB 4294967295#32).toNat:Nat):Int))) l.length rfl ?_ ?_) ?_
 ·intro i hi
  simp only [bindO_some,bindO_none,joinO_inl,joinO_inr,joinO_none,outO_some,outO_none,cond_ite,List.take_length,Nat.le_refl,if_true,Nat.mul_one,Int.mul_one,cond_true,cond_false]
  rw [if_pos (by omega)]
  refine joinO_eq (a:=((((l.take (i+1)).foldl crcB 4294967295#32).toNat:Nat):Int)) ?_ ?_
  ·rw [if_pos (by omega),get_nat hi]
   generalize hc:(l.take i).foldl crcB 4294967295#32=c
   have hx:=h.get hi
   have e0:BitVec.ofInt 32 (IntKind.wrap .u32 l[i])=BitVec.ofInt 32 l[i]:=by
    rw [wr_u32];congr 1;omega
   refine loopO_from (fun j=>((j:Int),(((itB j (c ^^^ BitVec.ofInt 32 l[i])).toNat:Nat):Int))) 8 ?_ ?_ ?_
   ·show ((0:Int),(((c ^^^ BitVec.ofInt 32 l[i]).toNat:Nat):Int))=_
    rw [e0,bvI,wrBV]
   ·intro j hj
    show _=some (Sum.inl (((j+1:Nat):Int),(((crcBit (itB j (c ^^^ BitVec.ofInt 32 l[i]))).toNat:Nat):Int)))
    generalize itB j (c ^^^ BitVec.ofInt 32 l[i])=v at *
    simp only [bindO_some,bindO_none,joinO_inl,joinO_inr,joinO_none,outO_some,outO_none,cond_ite,List.take_length,Nat.le_refl,if_true,Nat.mul_one,Int.mul_one,cond_true,cond_false]
    rw [if_pos (by omega),wrap_i64' (by omega)]
    simp only [wrHalf,bvI,wrBV]
    rw [Int.tmod_eq_emod_of_nonneg (by omega)]
    unfold crcBit
    by_cases hb:v.toNat % 2=1
    ·rw [if_pos (by omega),if_pos hb];rfl
    ·rw [if_neg (by omega),if_neg hb];rfl
   ·simp only [bindO_some,bindO_none,joinO_inl,joinO_inr,joinO_none,outO_some,outO_none,cond_ite,List.take_length,Nat.le_refl,if_true,Nat.mul_one,Int.mul_one,cond_true,cond_false]
    rw [if_neg (by omega),foldl_take crcB _ l hi,hc]
    rfl
  ·rw [wrap_i64' (by omega)];rfl
 ·simp only [bindO_some,bindO_none,joinO_inl,joinO_inr,joinO_none,outO_some,outO_none,cond_ite,List.take_length,Nat.le_refl,if_true,Nat.mul_one,Int.mul_one,cond_true,cond_false]
  rw [if_neg (by omega)]
  rfl
 ·simp only [bvI]
  rw [show BitVec.ofInt 32 4294967295=4294967295#32 from rfl,wrBV];rfl
theorem crc_bnd (l:List Int):0≤crc l∧crc l<4294967296:=by
 unfold crc
 have:=(crcV l ^^^ 4294967295#32).isLt
 omega
end Go.Proofs.Ytkpijdndakljjaa.Jn

namespace Go.Proofs.Ytkpijdndakljjaa.Jn
open Go.RowKit
def be:Nat→Int→List Int
 | 0,_=>[]
 | k+1,n=>be k (n / 256)++[n % 256]
theorem be_length:∀(k:Nat) (n:Int),(be k n).length=k
 | 0,_=>rfl
 | k+1,n=>by rw [be,List.length_append,be_length k];rfl
theorem be_cons:∀(k:Nat) (n:Int),be (k+1) n=(n / 256 ^ k % 256)::be k n
 | 0,n=>by simp [be]
 | k+1,n=>by
   rw [be,be_cons k,be,List.cons_append]
   congr 2
   rw [Int.pow_succ,Int.mul_comm,←Int.ediv_ediv_of_nonneg (by omega)]
theorem be_bytes:∀(k:Nat) (n:Int),Bytes (be k n)
 | 0,_=>fun x hx=>by cases hx
 | k+1,n=>by
   rw [be]
   refine (be_bytes k _).app fun x hx => ?_
   rw [List.mem_singleton] at hx
   omega
theorem number_r (n:Int) (k:Nat) (h0:0≤n) (hn:n≤9223372036854775807) (hk:k≤1000):dialtoneref20_number (n,(k:Int))=some (be k n):=by
 unfold dialtoneref20_number
 refine joinO_eq (a:=be k n) (loopO_from (fun i=>((i:Int),(n / 256 ^ i,be i n))) k (by simp [be]) ?_ ?_) rfl
 ·intro i hi
  have hp:0<(256:Int) ^ i:=Int.pow_pos (by omega)
  have hd0:0≤n / 256 ^ i:=Int.ediv_nonneg h0 (by omega)
  have hd1:n / 256 ^ i≤n:=Int.ediv_le_self _ h0
  have hnext:IntKind.wrap .i64 (Int.tdiv (n / 256 ^ i) 256)=n / 256 ^ (i+1):=by
   rw [Int.tdiv_eq_ediv_of_nonneg hd0,Int.pow_succ,←Int.ediv_ediv_of_nonneg (by omega),wrap_i64' (by omega)]
  simp only [bindO_some,bindO_none,joinO_inl,joinO_inr,joinO_none,outO_some,outO_none,cond_ite,List.take_length,Nat.le_refl,if_true,Nat.mul_one,Int.mul_one,cond_true,cond_false,be_cons i n]
  rw [if_pos (by omega),Int.tmod_eq_emod_of_nonneg hd0,wr_u8,Int.emod_emod_of_dvd _ (by omega),hnext,wrap_i64' (by omega),be_length]
  by_cases hi0:i=0
  ·subst hi0
   rw [if_neg (by omega)]
   rfl
  ·rw [if_pos (by omega),if_pos (by rw [List.length_append,be_length];simp;omega)]
   rfl
 ·simp only [bindO_some,bindO_none,joinO_inl,joinO_inr,joinO_none,outO_some,outO_none,cond_ite,List.take_length,Nat.le_refl,if_true,Nat.mul_one,Int.mul_one,cond_true,cond_false]
  rw [if_neg (by omega)]
theorem wloop {β:Type} {body:Int×List Int→Option ((Int×List Int) ⊕ β)} (v:Int) (size:Nat) (b:List Int) (fin:List Int→β) {x:Int×List Int} (hx:x=((size:Int)-1,b))
 (h1:∀(i:Nat) (c:List Int),i<size→c.length≤b.length+size→body ((i:Int),c)=some (.inl ((i:Int)-1,c++[v / 256 ^ i % 256]))) (h2:∀c,body (-1,c)=some (.inr (fin c))):loopO body x=some (fin (b++be size v)):=by
 have key:∀(n:Nat) (c:List Int),n≤size→c.length+n=b.length+size→loopO body ((n:Int)-1,c)=some (fin (c++be n v)):=by
  intro n
  induction n with
  | zero=>intro c _ _;rw [loopO_eq,show (((0:Nat):Int)-1) = -1 from rfl,h2];simp [be]
  | succ n ih =>
    intro c hn hc
    rw [loopO_eq,show (((n+1:Nat):Int)-1)=((n:Nat):Int) from by omega,h1 n c (by omega) (by omega)]
    simp only
    rw [ih _ (by omega) (by rw [List.length_append];simp;omega),be_cons,List.append_assoc]
    rfl
 rw [hx]
 exact key size b (Nat.le_refl _) rfl
theorem fdiv256 (v:Int) (i:Nat) (hi:i<4):Int.fdiv v ((2:Int) ^ (Min.min (Int.toNat (8*(i:Int))) 32))=v / 256 ^ i:=by
 rw [Int.fdiv_eq_ediv_of_nonneg _ (Int.pow_nonneg (by omega))]
 rcases (by omega:i=0∨i=1∨i=2∨i=3) with rfl | rfl | rfl | rfl<;>rfl
def flds (fs:List (Int×Int)):List Int:=fs.flatMap fun f=>be f.2.toNat f.1
def headB (n k s:Int):List Int:=[167,k]++(be 4 n++(be 2 s++be 2 (65535-s)))
def preB (n k:Int) (d:List Int):List Int:=headB n k d.length++d
def encB (n k:Int) (d:List Int):List Int:=preB n k d++be 4 (crc (preB n k d))
def encS (n k:Int) (d:List Int):List Int×Int:=if n<0 then ([],3) else if n > 1048575 then ([],3) else if (d.length:Int) > 4096 then ([],4) else (encB n k d,0)
theorem headB_length (n k s:Int):(headB n k s).length=10:=by simp [headB,be_length]
theorem headB_bytes {n k s:Int} (hk:0≤k∧k≤255):Bytes (headB n k s):=by
 refine Bytes.app (fun x hx => ?_) ((be_bytes _ _).app ((be_bytes _ _).app (be_bytes _ _)))
 simp only [List.mem_cons,List.not_mem_nil,or_false] at hx
 omega
theorem preB_bytes {n k:Int} {d:List Int} (hk:0≤k∧k≤255) (hd:Bytes d):Bytes (preB n k d):=(headB_bytes hk).app hd
theorem preB_length (n k:Int) (d:List Int):(preB n k d).length=10+d.length:=by rw [preB,List.length_append,headB_length]
theorem flds5 (n k s:Int) (hk:0≤k∧k≤255):flds [(167,1),(k,1),(n,4),(s,2),(65535-s,2)]=headB n k s:=by
 have h1:be 1 167=[167]:=rfl
 have h2:be 1 k=[k]:=by simp [be];omega
 simp only [flds,List.flatMap_cons,List.flatMap_nil,List.append_nil]
 show be 1 167++(be 1 k++(be 4 n++(be 2 s++be 2 (65535-s))))=_
 rw [h1,h2];rfl
theorem floop {β:Type} {body:Int×List Int→Option ((Int×List Int) ⊕ β)} (fs:List (Int×Int)) (b:List Int) (fin:List Int→β) {x:Int×List Int} (hx:x=(0,b))
 (h1:∀(i:Nat) (c:List Int) (hi:i<fs.length),c.length≤b.length+40→body ((i:Int),c)=some (.inl ((i:Int)+1,c++be fs[i].2.toNat fs[i].1))) (h2:∀c,body ((fs.length:Int),c)=some (.inr (fin c))) (h3:(flds fs).length≤40):loopO body x=some (fin (b++flds fs)):=by
 have hle:∀i,(flds (fs.take i)).length≤(flds fs).length:=fun i=>by
  conv=>rhs;rw [←List.take_append_drop i fs]
  unfold flds
  rw [List.flatMap_append,List.length_append];omega
 refine loopO_from (fun i=>((i:Int),b++flds (fs.take i))) fs.length ?_ ?_ ?_
 ·rw [hx];simp [flds]
 ·intro i hi
  rw [h1 i _ hi (by rw [List.length_append];have:=hle i;omega),List.take_add_one,List.getElem?_eq_getElem hi]
  unfold flds
  rw [List.flatMap_append,←List.append_assoc]
  simp
 ·simp only [List.take_length]
  exact h2 _
theorem encode_r (n k:Int) (d:List Int) (hn:n≤9223372036854775807) (hk:0≤k∧k≤255) (hd:Bytes d):dialtoneref20_Encode (n,(k,d))=some (encS n k d):=by
 unfold dialtoneref20_Encode encS
 simp only [bindO_some,bindO_none,joinO_inl,joinO_inr,joinO_none,outO_some,outO_none,cond_ite,List.take_length,Nat.le_refl,if_true,Nat.mul_one,Int.mul_one,cond_true,cond_false]
 by_cases h1:n<0
 ·rw [if_pos h1,if_pos h1]
 by_cases h2:n > 1048575
 ·rw [if_neg h1,if_pos (by omega),if_neg h1,if_pos h2]
 by_cases h3:(d.length:Int) > 4096
 ·rw [if_neg h1,if_neg (by omega),if_pos h3,if_neg h1,if_neg h2,if_pos h3]
 rw [if_neg h1,if_neg (by omega),if_neg h3,if_neg h1,if_neg h2,if_neg h3]
 refine bindO_eq (number_r n 4 (by omega) (by omega) (by omega)) ?_
 rw [if_pos (by rw [be_length];omega),if_pos (by simp [be_length])]
 refine bindO_eq (number_r _ 2 (by omega) (by omega) (by omega)) ?_
 rw [if_pos (by simp [be_length])]
 rw [wrap_i64' (by omega)]
 refine bindO_eq (number_r _ 2 (by omega) (by omega) (by omega)) ?_
 rw [if_pos (by simp [be_length]),if_pos (by simp [be_length];omega)]
 have e:[167,k]++be 4 n++be 2 (d.length:Int)++be 2 (65535-(d.length:Int))++d=preB n k d:=by
  simp [preB,headB]
 rw [e]
 refine bindO_eq (check_r _ (preB_bytes hk hd) (by rw [preB_length];omega)) ?_
 have:=crc_bnd (preB n k d)
 rw [wrap_i64' (by omega)]
 refine bindO_eq (number_r _ 4 (by omega) (by omega) (by omega)) ?_
 rw [if_pos (by rw [List.length_append,preB_length,be_length];omega)]
 rfl
end Go.Proofs.Ytkpijdndakljjaa.Jn

namespace Go.Proofs.Ytkpijdndakljjaa.Jn
open Go.RowKit
theorem encode_j (n k:Int) (d:List Int) (hn:n≤9223372036854775807) (hk:0≤k∧k≤255) (hd:Bytes d):journal_Encode (n,(k,d))=some (encS n k d):=by
 unfold journal_Encode encS
 simp only [bindO_some,bindO_none,joinO_inl,joinO_inr,joinO_none,outO_some,outO_none,cond_ite,List.take_length,Nat.le_refl,if_true,Nat.mul_one,Int.mul_one,cond_true,cond_false]
 by_cases h1:n<0
 ·rw [if_pos h1,if_pos h1]
 by_cases h2:n > 1048575
 ·rw [if_neg h1,if_pos (by omega),if_neg h1,if_pos h2]
 by_cases h3:(d.length:Int) > 4096
 ·rw [if_neg h1,if_neg (by omega),if_pos h3,if_neg h1,if_neg h2,if_pos h3]
 rw [if_neg h1,if_neg (by omega),if_neg h3,if_neg h1,if_neg h2,if_neg h3]
 have ws:∀z:Int,0≤z→z≤4294967295→IntKind.wrap .u32 z=z:=fun z a b=>by rw [wr_u32];omega
 rw [ws k (by omega) (by omega),ws n (by omega) (by omega),ws (d.length:Int) (by omega) (by omega),wrap_i64' (n:=65535-(d.length:Int)) (by omega),ws (65535-(d.length:Int)) (by omega) (by omega)]
 refine joinO_eq (a:=headB n k d.length) ?_ ?_
 ·refine joinO_eq (a:=headB n k d.length) ?_ rfl
  rw [←flds5 n k d.length hk]
  obtain ⟨L,hL⟩:∃L:List (Int×Int),L=[(167,1),(k,1),(n,4),((d.length:Int),2),(65535-(d.length:Int),2)]:=⟨_,rfl⟩
  have hlen:L.length=5:=by rw [hL];rfl
  have hsz:∀(i:Nat) (hi:i<L.length),1≤L[i].2∧L[i].2≤4:=fun i hi=>by
   subst hL
   rcases (by omega:i=0∨i=1∨i=2∨i=3∨i=4) with rfl | rfl | rfl | rfl | rfl<;>exact ⟨by simp,by simp⟩
  have hfl:(flds L).length≤40:=by rw [hL,flds5 n k d.length hk,headB_length];omega
  rw [←hL]
  refine floop L [] Sum.inl rfl ?_ ?_ hfl
  ·intro i c hi hc
   have hz:=hsz i hi
   have hc40:c.length≤40:=hc
   simp only [bindO_some,bindO_none,joinO_inl,joinO_inr,joinO_none,outO_some,outO_none,cond_ite,List.take_length,Nat.le_refl,if_true,Nat.mul_one,Int.mul_one,cond_true,cond_false]
   rw [if_pos (by omega)]
   refine joinO_eq (a:=c++be L[i].2.toNat L[i].1) ?_ ?_
   ·rw [if_pos (by omega),get_nat hi]
    refine wloop L[i].1 L[i].2.toNat c Sum.inl ?_ ?_ ?_
    ·rw [wrap_i64' (by omega)]
     congr 1;omega
    ·intro j b hj hb
     simp only [bindO_some,bindO_none,joinO_inl,joinO_inr,joinO_none,outO_some,outO_none,cond_ite,List.take_length,Nat.le_refl,if_true,Nat.mul_one,Int.mul_one,cond_true,cond_false]
     rw [if_pos (by omega),wrap_i64' (n:=8*(j:Int)) (by omega),if_pos (by omega),fdiv256 _ j (by omega),wr_u8,if_pos (by rw [List.length_append];simp;omega),wrap_i64' (by omega)]
    ·intro b
     simp only [bindO_some,bindO_none,joinO_inl,joinO_inr,joinO_none,outO_some,outO_none,cond_ite,List.take_length,Nat.le_refl,if_true,Nat.mul_one,Int.mul_one,cond_true,cond_false]
     rw [if_neg (by omega)]
   ·rw [wrap_i64' (by omega)]
  ·intro c
   simp only [bindO_some,bindO_none,joinO_inl,joinO_inr,joinO_none,outO_some,outO_none,cond_ite,List.take_length,Nat.le_refl,if_true,Nat.mul_one,Int.mul_one,cond_true,cond_false]
   rw [if_neg (by omega)]
 ·rw [show headB n k (d.length:Int)++d=preB n k d from rfl,if_pos (by rw [preB_length];omega)]
  refine bindO_eq (check_j _ (preB_bytes hk hd) (by rw [preB_length];omega)) ?_
  have hcb:=crc_bnd (preB n k d)
  generalize hP:preB n k d=B at *
  have hB:B.length≤5000:=by rw [←hP,preB_length];omega
  refine joinO_eq (a:=B++be 4 (crc B)) ?_ ?_
  ·refine joinO_eq (a:=B++be 4 (crc B)) ?_ rfl
   have e1:flds [(crc B,4)]=be 4 (crc B):=by simp only [flds,List.flatMap_cons,List.flatMap_nil,List.append_nil];rfl
   rw [←e1]
   refine floop [(crc B,4)] B Sum.inl rfl ?_ ?_ ?_
   ·intro i c hi hc
    have hi1:i<1:=hi
    have hi0:i=0:=by omega
    subst hi0
    simp only [bindO_some,bindO_none,joinO_inl,joinO_inr,joinO_none,outO_some,outO_none,cond_ite,List.take_length,Nat.le_refl,if_true,Nat.mul_one,Int.mul_one,cond_true,cond_false]
    rw [if_pos (by omega)]
    refine joinO_eq (a:=c++be 4 (crc B)) ?_ ?_
    ·rw [if_pos (by omega)]
     refine bindO_eq rfl ?_
     refine wloop (crc B) 4 c Sum.inl rfl ?_ ?_
     ·intro j b hj hb
      have hj4:j<4:=hj
      simp only [bindO_some,bindO_none,joinO_inl,joinO_inr,joinO_none,outO_some,outO_none,cond_ite,List.take_length,Nat.le_refl,if_true,Nat.mul_one,Int.mul_one,cond_true,cond_false]
      rw [if_pos (by omega),wrap_i64' (n:=8*(j:Int)) (by omega),if_pos (by omega),fdiv256 _ j (by omega),wr_u8,if_pos (by rw [List.length_append];simp;omega),wrap_i64' (by omega)]
     ·intro b
      simp only [bindO_some,bindO_none,joinO_inl,joinO_inr,joinO_none,outO_some,outO_none,cond_ite,List.take_length,Nat.le_refl,if_true,Nat.mul_one,Int.mul_one,cond_true,cond_false]
      rw [if_neg (by omega)]
    ·rw [wrap_i64' (by omega)];rfl
   ·intro c
    simp only [bindO_some,bindO_none,joinO_inl,joinO_inr,joinO_none,outO_some,outO_none,cond_ite,List.take_length,Nat.le_refl,if_true,Nat.mul_one,Int.mul_one,cond_true,cond_false]
    rw [if_neg (by simp)]
   ·rw [e1,be_length];omega
  ·rw [encB,hP]
end Go.Proofs.Ytkpijdndakljjaa.Jn

namespace Go.Proofs.Ytkpijdndakljjaa.Jn
open Go.RowKit
theorem getD_take {l:List Int} {i n:Nat} (h:i<n):(l.take n).getD i 0=l.getD i 0:=by
 rw [List.getD_eq_getElem?_getD,List.getElem?_take_of_lt h,List.getD_eq_getElem?_getD]
section
variable {b:List Int} {n:Nat}
end
end Go.Proofs.Ytkpijdndakljjaa.Jn

namespace Go.Proofs.Ytkpijdndakljjaa.Jn
open Go.RowKit
theorem joined_j (a b:List Int) (ha:a.length≤1000000) (hb:b.length≤1000000):journal_joined (a,b)=some (a++b):=by
 unfold journal_joined
 simp only [bindO_some,bindO_none,joinO_inl,joinO_inr,joinO_none,outO_some,outO_none,cond_ite,List.take_length,Nat.le_refl,if_true,Nat.mul_one,Int.mul_one,cond_true,cond_false]
 rw [wrap_i64' (by omega),if_pos (by omega)]
 have e:((a.length:Int)+(b.length:Int)).toNat=a.length+b.length:=by omega
 have h1:(List.take (a.length+b.length) a)=a:=List.take_of_length_le (by omega)
 have h2:(List.take (a.length+b.length-a.length) b)=b:=List.take_of_length_le (by omega)
 have h3:layL (List.replicate (a.length+b.length) (0:Int)) 0 a=a++List.replicate b.length 0:=by
  unfold layL
  rw [List.take_zero,List.nil_append,Nat.zero_add,List.drop_replicate,show a.length+b.length-a.length=b.length from by omega]
 have h4:layL (a++List.replicate b.length (0:Int)) a.length b=a++b:=by
  unfold layL
  rw [List.take_left,List.drop_of_length_le (by rw [List.length_append,List.length_replicate];omega),List.append_nil]
 rw [e,Int.toNat_natCast,h1,h2,h3,h4]
 rw [if_pos (by rw [List.length_replicate];omega),if_pos (by omega),if_pos (by rw [List.length_append,List.length_replicate];omega),if_pos (by rw [List.length_append];omega),List.take_of_length_le (by rw [List.length_append];omega)]
theorem samelog_refl (a:List Int×(Int×Int)):dialtoneref20_SameLog (a,a)=some true:=by
 unfold dialtoneref20_SameLog
 simp
end Go.Proofs.Ytkpijdndakljjaa.Jn

namespace Go.Proofs.Ytkpijdndakljjaa.Jn
open Go.RowKit
def RecOk (r:Int×List Int):Prop:=(0≤r.1∧r.1≤255)∧Bytes r.2∧r.2.length≤4096
theorem encB_length (n k:Int) (d:List Int):(encB n k d).length=14+d.length:=by
 rw [encB,List.length_append,be_length,preB_length];omega
end Go.Proofs.Ytkpijdndakljjaa.Jn

namespace Go.Proofs.Ytkpijdndakljjaa.Jn
open Go.RowKit
def Rec2 (r:Int×List Int):Prop:=(0≤r.1∧r.1≤255)∧Bytes r.2∧r.2.length≤200
theorem Rec2.ok {r:Int×List Int} (h:Rec2 r):RecOk r:=⟨h.1,h.2.1,by have:=h.2.2;omega⟩
theorem valid_j (b:List Int) (s c:Int):journal_Valid (b,(s,c))=some (decide (0≤s∧s≤(b.length:Int)∧0≤c∧c≤1048576)):=by
 unfold journal_Valid
 simp only [bindO_some,bindO_none,joinO_inl,joinO_inr,joinO_none,outO_some,outO_none,cond_ite,List.take_length,Nat.le_refl,if_true,Nat.mul_one,Int.mul_one,cond_true,cond_false]
 by_cases h1:s≥0
 ·by_cases h2:s≤(b.length:Int)
  ·by_cases h3:c≥0
   ·rw [if_pos h1,if_pos h2,if_pos h3]
    congr 1
    rw [decide_eq_decide];omega
   ·rw [if_pos h1,if_pos h2,if_neg h3,decide_eq_false (by omega)]
  ·rw [if_pos h1,if_neg h2,decide_eq_false (by omega)]
 ·rw [if_neg h1,decide_eq_false (by omega)]
theorem append_j (b:List Int) (s c k:Int) (d:List Int) (hb:b.length≤900000) (hs:0≤s∧s≤(b.length:Int)) (hc:0≤c∧c<1048576) (hr:RecOk (k,d)):journal_Append ((b,(s,c)),(k,d))=some ((b++encB c k d,(s,c+1)),0):=by
 unfold journal_Append
 refine bindO_eq (valid_j b s c) ?_
 rw [decide_eq_true (by omega)]
 simp only [bindO_some,bindO_none,joinO_inl,joinO_inr,joinO_none,outO_some,outO_none,cond_ite,List.take_length,Nat.le_refl,if_true,Nat.mul_one,Int.mul_one,cond_true,cond_false,Bool.not_true]
 rw [if_neg (by omega)]
 have he:encS c k d=(encB c k d,0):=by
  have:=hr.2.2
  simp only at this
  unfold encS
  rw [if_neg (by omega),if_neg (by omega),if_neg (by omega)]
 refine bindO_eq ((encode_j c k d (by omega) hr.1 hr.2.1).trans (congrArg some he)) ?_
 simp only [ne_eq,not_true_eq_false,if_false]
 have:=hr.2.2
 simp only at this
 refine bindO_eq (joined_j _ _ (by omega) (by rw [encB_length];omega)) ?_
 rw [wrap_i64' (by omega)]
end Go.Proofs.Ytkpijdndakljjaa.Jn

namespace Go.Proofs.Ytkpijdndakljjaa.Jn
open Go.RowKit
theorem sync_j (b:List Int) (s c:Int) (hb:b.length≤900000) (hs:0≤s∧s≤(b.length:Int)) (hc:0≤c∧c≤1048576):journal_Sync (b,(s,c))=some (b,((b.length:Int),c)):=by
 unfold journal_Sync
 refine bindO_eq (valid_j b s c) ?_
 rw [decide_eq_true (by omega)]
 simp only [bindO_some,bindO_none,joinO_inl,joinO_inr,joinO_none,outO_some,outO_none,cond_ite,List.take_length,Nat.le_refl,if_true,Nat.mul_one,Int.mul_one,cond_true,cond_false,Bool.not_true]
 refine bindO_eq (joined_j b [] (by omega) (by simp)) ?_
 rw [List.append_nil]
end Go.Proofs.Ytkpijdndakljjaa.Jn
