import Derived.Test.YtkpijdndakljjaaQ1p
import Derived.Test.YtkpijdndakljjaaZrp
import Derived.Test.YtkpijdndakljjaaV6p
set_option linter.unusedSimpArgs false
set_option linter.unusedVariables false
noncomputable section
set_option maxRecDepth 100000
namespace Go.Proofs.Ytkpijdndakljjaa.Rt
open Go.RowKit
def vpB (a1:List Ra):(Int×List (List UInt8))->Option ((Int×List (List UInt8)) ⊕ (List (List UInt8) ⊕ Bool)) :=
(fun (v4,v5) =>
 bif (decide (v4<(a1.length:Int))) then
 bif (decide ((0<=v4)/\(v4<(a1.length:Int)))) then
 ah a1[v4.toNat]? fun x6 =>
 bif (decide (Membership.mem v5 x6.1)) then
 au (au (some false))
 else
 ah (dX (x6.1,(x6.2.1,(x6.2.2.1,(x6.2.2.2.1,x6.2.2.2.2))))) fun x7 =>
 bif (!x7) then
 au (au (some false))
 else
 some (Sum.inl ((IntKind.wrap .i64 (v4+(1:Int))),(Dz v5 x6.1)))
 else none
 else
 au (some (Sum.inl v5)))
def viB (a1:List Ra) (v3:Int):Int->Option (Int ⊕ (Int ⊕ (Int ⊕ (Unit ⊕ Bool)))) :=
(fun v6 =>
 bif (decide (v6<v3)) then
 bif (decide ((0<=v6)/\(v6<(a1.length:Int)))) then
 ah a1[v6.toNat]? fun x7 =>
 bif (decide ((0<=v3)/\(v3<(a1.length:Int)))) then
 ah a1[v3.toNat]? fun x8 =>
 bif (decide (x7.1=x8.1)) then
 au (au (au (au (some false))))
 else
 some (Sum.inl (IntKind.wrap .i64 (v6+(1:Int))))
 else none
 else none
 else
 au (some (Sum.inl v6)))
def Xk (a1:List Ra):Int->Option (Int ⊕ (Unit ⊕ Bool)) :=
(fun v3 =>
 bif (decide (v3<(a1.length:Int))) then
 aA (bif (decide ((0<=v3)/\(v3<(a1.length:Int)))) then
 ah a1[v3.toNat]? fun x4 =>
 ah (cu (x4.1,(x4.2.1,(x4.2.2.1,(x4.2.2.2.1,x4.2.2.2.2))))) fun x5 =>
 bif (!x5) then
 au (au (au (some false)))
 else
 ay (viB a1 v3) (0:Int)
 else none) fun v10 =>
 some (Sum.inl (IntKind.wrap .i64 (v3+(1:Int))))
 else
 au (some (Sum.inl ())))
theorem abE (a1:List Ra) (a2:Int):aW (a1,a2) =
 bif (decide ((a1.length:Int) > 1000)) then
  some false
 else
  ah (aU (a2,((0:Int),(3600:Int)))) fun x3 =>
  bif (!x3) then
   some false
  else
   aA (ay (vpB a1) ((0:Int),([]:List (List UInt8)))) fun v9 =>
   some true:=rfl
theorem abG (a1:List Ra) (a2:Int):dG (a1,a2) =
 aA (bif (decide ((a1.length:Int) > 1000)) then
 au (some false)
 else
 bif (decide (a2<0)) then
 au (some false)
 else
 bif (decide (a2 > 3600)) then
 au (some false)
 else
 some (Sum.inl ())) fun _ =>
 aA (ay (Xk a1) (0:Int)) fun _ =>
 some true:=rfl
def fpB (a1:List Ra) (a3:List UInt8):(Int×Int)->Option ((Int×Int) ⊕ (Int ⊕ (Int×Bool))) :=
(fun (v5,v6) =>
 bif (decide (v5<(a1.length:Int))) then
 bif (decide ((0<=v5)/\(v5<(a1.length:Int)))) then
 ah a1[v5.toNat]? fun x7 =>
 ah (strings_HasPrefix (a3,x7.1)) fun x8 =>
 bif x8 then
 bif (decide (v6<0)) then
 some (Sum.inl ((IntKind.wrap .i64 (v5+(1:Int))),v5))
 else
 bif (decide ((0<=v6)/\(v6<(a1.length:Int)))) then
 ah a1[v6.toNat]? fun x10 =>
 bif (decide ((x7.1.length:Int) > (x10.1.length:Int))) then
 some (Sum.inl ((IntKind.wrap .i64 (v5+(1:Int))),v5))
 else
 some (Sum.inl ((IntKind.wrap .i64 (v5+(1:Int))),v6))
 else none
 else
 some (Sum.inl ((IntKind.wrap .i64 (v5+(1:Int))),v6))
 else none
 else
 au (some (Sum.inl v6)))
def Zn (a1:List Ra) (a3:List UInt8) (v5:Int):Int->Option (Int ⊕ (Int ⊕ (Int ⊕ (Unit ⊕ (Int×Bool))))) :=
(fun v6 =>
 bif (decide (v6<(a1.length:Int))) then
 bif (decide ((0<=v6)/\(v6<(a1.length:Int)))) then
 ah a1[v6.toNat]? fun x7 =>
 bif (decide ((x7.1.length:Int)=v5)) then
 bif (decide ((0<=v6)/\(v6<(a1.length:Int)))) then
 ah a1[v6.toNat]? fun x8 =>
 ah (fP (a3,x8.1)) fun x9 =>
 bif x9 then
 au (au (au (au (some (v6,true)))))
 else
 some (Sum.inl (IntKind.wrap .i64 (v6+(1:Int))))
 else none
 else
 some (Sum.inl (IntKind.wrap .i64 (v6+(1:Int))))
 else none
 else
 au (some (Sum.inl v6)))
def frB (a1:List Ra) (a3:List UInt8):Int->Option (Int ⊕ (Unit ⊕ (Int×Bool))) :=
(fun v5 =>
 bif (decide (v5>=0)) then
 aA (ay (Zn a1 a3 v5) (0:Int)) fun v12 =>
 some (Sum.inl (IntKind.wrap .i64 (v5-(1:Int))))
 else
 au (some (Sum.inl ())))
theorem U0 (a1:List Ra) (a2:Int) (a3:List UInt8):gX ((a1,a2),a3) =
 ah (aW (a1,a2)) fun x4 =>
 bif (!x4) then
  some ((0:Int),false)
 else
  aA (ay (fpB a1 a3) ((0:Int),(-1:Int))) fun v14 =>
  bif (decide (v14<0)) then
   some ((0:Int),false)
  else
   some (v14,true):=rfl
theorem U1 (a1:List Ra) (a2:Int) (a3:List UInt8):eU ((a1,a2),a3) =
 ah (dG (a1,a2)) fun x4 =>
 bif (!x4) then
  some ((0:Int),false)
 else
  aA (ay (frB a1 a3) (20:Int)) fun _ =>
  some ((0:Int),false):=rfl
theorem lM {β:Type} {body:Int->Option (Int ⊕ β)} (n:Nat) (p:Nat->Prop) (g:Nat->β) (r0:β) (h1:∀i:Nat,i<n->¬p i->body (i:Int)=some (.inl ((i+1:Nat):Int))) (h2:∀i:Nat,i<n->p i->body (i:Int)=some (.inr (g i))) (h3:body (n:Int)=some (.inr r0)) :
 (∃i,i<n/\p i/\(∀j,j<i->¬p j)/\ay body (0:Int)=some (g i))\/((∀i,i<n->¬p i)/\ay body (0:Int)=some r0):=by
 by_cases h:∃i,i<n/\p i
 ·obtain ⟨i,⟨k1,k2⟩,k3⟩:=least h;exact .inl ⟨i,k1,k2,fun j hj hp=>k3 j hj ⟨by omega,hp⟩,bG (fun i=>(i:Int)) i rfl (fun j hj=>h1 j (by omega) fun hp=>k3 j hj ⟨by omega,hp⟩) (h2 i k1 k2)⟩
 ·exact .inr ⟨fun i hi hp=>h ⟨i,hi,hp⟩,bG (fun i=>(i:Int)) n rfl (fun j hj=>h1 j hj fun hp=>h ⟨j,hj,hp⟩) h3⟩
theorem aeX {ks:List (List UInt8)} {k u:List UInt8}:u∈Dz ks k↔u=k\/u∈ks:=by
 unfold Dz;by_cases h:k∈ks
 ·rw [if_pos h];exact ⟨.inr,fun h'=>h'.elim (fun e=>by rw [e];exact h) id⟩
 ·rw [if_neg h];simp [or_comm]
theorem Is.iff {o:Option Bool} {P Q:Prop} (h:Is o P) (k:P↔Q):Is o Q:=by
 rcases h with ⟨h,e⟩ | ⟨h,e⟩
 ·exact .inl ⟨k.1 h,e⟩
 ·exact .inr ⟨fun q=>h (k.2 q),e⟩
theorem Xl {β:Type} (x:Ra) {P:Prop} (f:Bool->Option β) (h:RV x):ah (dX (x.1,(x.2.1,(x.2.2.1,(x.2.2.2.1,x.2.2.2.2))))) f=f true:=by
 rcases wz x.1 x.2.1 x.2.2.1 x.2.2.2.1 x.2.2.2.2 with ⟨_,e⟩ | ⟨k,e⟩
 ·rw [e];rfl
 ·exact (k h).elim
theorem Zo {β:Type} (x:Ra) (f:Bool->Option β) (h:¬RV x):ah (dX (x.1,(x.2.1,(x.2.2.1,(x.2.2.2.1,x.2.2.2.2))))) f=f false:=by
 rcases wz x.1 x.2.1 x.2.2.1 x.2.2.2.1 x.2.2.2.2 with ⟨k,e⟩ | ⟨_,e⟩
 ·exact (h k).elim
 ·rw [e];rfl
def ks (l:List Ra):Nat->List (List UInt8)
 | 0=>[]
 | k+1=>Dz (ks l k) (l.getD k r0).1
theorem Xm {l:List Ra} {u:List UInt8}:∀ {k:Nat},u∈ks l k↔∃i,i<k/\(l.getD i r0).1=u
 | 0=>by simp [ks]
 | k+1=>by
   rw [ks,aeX,Xm];constructor
   ·rintro (h | ⟨i,h1,h2⟩)
    ·exact ⟨k,by omega,h.symm⟩
    ·exact ⟨i,by omega,h2⟩
   ·rintro ⟨i,h1,h2⟩;by_cases e:i=k
    ·subst e;exact .inl h2.symm
    ·exact .inr ⟨i,by omega,h2⟩
def Rok (l:List Ra) (i:Nat):Prop:=RV (l.getD i r0)/\∀k,k<i->(l.getD k r0).1≠(l.getD i r0).1
def TV (l:List Ra) (f:Int):Prop:=(l.length<=1000/\(0<=f/\f<=3600))/\∀i,i<l.length->Rok l i
theorem ah5 (l:List Ra) (hl:l.length<=1000):((∀i,i<l.length->Rok l i)/\∃v,ay (vpB l) ((0:Int),[])=some (.inl v))\/(¬(∀i,i<l.length->Rok l i)/\ay (vpB l) ((0:Int),[])=some (.inr false)):=by
 have hs:=tZ (body:=vpB l) (fun i=>((i:Int),ks l i)) l.length (fun i=>¬Rok l i) (r0 := .inl (ks l l.length)) (r1 := .inr false) (x:=((0:Int),[])) rfl
  (fun i hi hb=>by
    obtain ⟨h1,h2⟩:=Classical.not_not.1 hb;obtain ⟨x,hx,hxb⟩:=get_at r0 hi;have hm:¬x.1∈ks l i:=fun h=>by
     obtain ⟨k,k1,k2⟩:=Xm.1 h;exact h2 k k1 (by rw [hx];exact k2)
    rw [hx] at h1;have hn:((i:Int)+1)=((i+1:Nat):Int):=rfl;have hk:ks l (i+1)=Dz (ks l i) x.1:=by rw [ks,hx]
    unfold vpB;simp (disch:=(first | omega | (simp only [bJ];omega))) only [↓aF,aG,if_pos,if_neg,↓hxb,hm,Xl x (P:=True) _ h1,aj,hn,hk,decide_false])
  (fun i hi hb=>by
    obtain ⟨x,hx,hxb⟩:=get_at r0 hi;unfold vpB;by_cases hm:x.1∈ks l i
    ·simp (disch:=(first | omega | (simp only [bJ];omega))) only [↓aF,aG,if_pos,if_neg,↓hxb,hm,decide_true]
    ·have h1:¬RV x:=fun h=>hb ⟨by rw [hx];exact h,fun k hk e=>hm (Xm.2 ⟨k,hk,by rw [hx] at e;exact e⟩)⟩;simp (disch:=(first | omega | (simp only [bJ];omega))) only [↓aF,aG,if_pos,if_neg,↓hxb,hm,Zo x _ h1,decide_false])
  (by unfold vpB;simp (disch:=(first | omega | (simp only [bJ];omega))) only [↓aF,aG,if_pos,if_neg])
 rcases hs with ⟨⟨i,hi,hb⟩,e⟩ | ⟨hn,e⟩
 ·exact .inr ⟨fun h=>hb (h i hi),e⟩
 ·exact .inl ⟨fun i hi=>Classical.byContradiction fun h=>hn ⟨i,hi,h⟩,_,e⟩
theorem Am (l:List Ra) (f:Int):Is (aW (l,f)) (TV l f):=by
 rw [abE];by_cases h1:l.length<=1000
 ·by_cases h2:0<=f/\f<=3600
  ·simp (disch:=(first | omega | (simp only [bJ];omega))) only [↓aF,aG,if_pos,if_neg,iC,h2,and_self,decide_true];rcases ah5 l h1 with ⟨d,v,e⟩ | ⟨d,e⟩
   ·rw [e];exact Is.t ⟨⟨h1,h2⟩,d⟩
   ·rw [e];exact Is.f fun k=>d k.2
  ·simp (disch:=(first | omega | (simp only [bJ];omega))) only [↓aF,aG,if_pos,if_neg,iC,h2,decide_false];exact Is.f fun k=>h2 k.1.2
 ·simp (disch:=(first | omega | (simp only [bJ];omega))) only [↓aF,aG,if_pos,if_neg];exact Is.f fun k=>h1 k.1.1
theorem Zp (l:List Ra) {i:Nat} (hi:i<l.length) (hl:l.length<=1000):((∀k,k<i->(l.getD k r0).1≠(l.getD i r0).1)/\ay (viB l i) (0:Int)=some (.inl (i:Int)))\/(¬(∀k,k<i->(l.getD k r0).1≠(l.getD i r0).1)/\ay (viB l i) (0:Int)=some (.inr (.inr (.inr false)))):=by
 obtain ⟨y,hy,hyb⟩:=get_at r0 hi
 rcases lM (body:=viB l i) i (fun k=>(l.getD k r0).1=(l.getD i r0).1) (fun _ => .inr (.inr (.inr false))) (.inl (i:Int))
  (fun k hk hb=>by
    obtain ⟨x,hx,hxb⟩:=get_at r0 (show k<l.length by omega);rw [hx,hy] at hb;have hn:((k:Int)+1)=((k+1:Nat):Int):=rfl;unfold viB;simp (disch:=(first | omega | (simp only [bJ];omega))) only [↓aF,aG,if_pos,if_neg,↓hxb,↓hyb,hb,aj,hn,decide_false])
  (fun k hk hb=>by
    obtain ⟨x,hx,hxb⟩:=get_at r0 (show k<l.length by omega);rw [hx,hy] at hb;unfold viB;simp (disch:=(first | omega | (simp only [bJ];omega))) only [↓aF,aG,if_pos,if_neg,↓hxb,↓hyb,hb,decide_true])
  (by unfold viB;simp (disch:=(first | omega | (simp only [bJ];omega))) only [↓aF,aG,if_pos,if_neg]) with ⟨k,h1,h2,_,e⟩ | ⟨h,e⟩
 ·exact .inr ⟨fun g=>g k h1 h2,e⟩
 ·exact .inl ⟨h,e⟩
theorem Rf (l:List Ra) (hl:l.length<=1000):((∀i,i<l.length->Rok l i)/\ay (Xk l) (0:Int)=some (.inl ()))\/(¬(∀i,i<l.length->Rok l i)/\ay (Xk l) (0:Int)=some (.inr false)):=by
 refine Ak (body:=Xk l) l.length (Rok l) (fun i hi hb => ?_) (fun i hi hb => ?_) ?_
 ·obtain ⟨h1,h2⟩:=hb;obtain ⟨x,hx,hxb⟩:=get_at r0 hi;rw [hx] at h1;have hn:((i:Int)+1)=((i+1:Nat):Int):=rfl;rcases Zp l hi hl with ⟨_,e⟩ | ⟨k,_⟩
  ·unfold Xk;simp (disch:=(first | omega | (simp only [bJ];omega))) only [↓aF,aG,if_pos,if_neg,↓hxb,xP,Xl x (P:=True) _ h1,e,aj,hn]
  ·exact (k h2).elim
 ·obtain ⟨x,hx,hxb⟩:=get_at r0 hi;by_cases h1:RV x
  ·have h2:¬ ∀k,k<i->(l.getD k r0).1≠(l.getD i r0).1:=fun k=>hb ⟨by rw [hx];exact h1,k⟩;rcases Zp l hi hl with ⟨k,_⟩ | ⟨_,e⟩
   ·exact (h2 k).elim
   ·unfold Xk;simp (disch:=(first | omega | (simp only [bJ];omega))) only [↓aF,aG,if_pos,if_neg,↓hxb,xP,Xl x (P:=True) _ h1,e]
  ·unfold Xk;simp (disch:=(first | omega | (simp only [bJ];omega))) only [↓aF,aG,if_pos,if_neg,↓hxb,xP,Zo x _ h1]
 ·unfold Xk;simp (disch:=(first | omega | (simp only [bJ];omega))) only [↓aF,aG,if_pos,if_neg]
theorem U2 (l:List Ra) (f:Int):Is (dG (l,f)) (TV l f):=by
 rw [abG];refine Is.and _ ?_;by_cases h1:l.length<=1000
 ·by_cases h2:0<=f
  ·by_cases h3:f<=3600
   ·refine .inl ⟨⟨h1,h2,h3⟩,(),by simp (disch:=(first | omega | (simp only [bJ];omega))) only [↓aF,aG,if_pos,if_neg],?_⟩;rcases Rf l h1 with ⟨d,e⟩ | ⟨d,e⟩
    ·rw [e];exact Is.t d
    ·rw [e];exact Is.f d
   ·exact .inr ⟨fun k=>h3 k.2.2,by simp (disch:=(first | omega | (simp only [bJ];omega))) only [↓aF,aG,if_pos,if_neg]⟩
  ·exact .inr ⟨fun k=>h2 k.2.1,by simp (disch:=(first | omega | (simp only [bJ];omega))) only [↓aF,aG,if_pos,if_neg]⟩
 ·exact .inr ⟨fun k=>h1 k.1,by simp (disch:=(first | omega | (simp only [bJ];omega))) only [↓aF,aG,if_pos,if_neg]⟩
theorem qV (l:List Ra) (f:Int):dG (l,f)=aW (l,f):=(U2 l f).eq (Am l f)
abbrev Bg (num p:List UInt8):Prop:=p.length<=num.length/\num.take p.length=p
theorem aeY {β:Type} (num p:List UInt8) (f:Bool->Option β):ah (fP (num,p)) f=f (decide (Bg num p)):=by
 have e:fP (num,p)=some (decide (Bg num p)):=by
  unfold fP;by_cases h:p.length<=num.length
  ·simp (disch:=omega) only [↓aF,aG,if_pos,if_neg,Int.toNat_natCast,Bg,h,true_and]
  ·simp (disch:=omega) only [↓aF,aG,if_pos,if_neg,Bg,h,false_and,decide_false]
 rw [e];rfl
theorem Rh {β:Type} (num p:List UInt8) (f:Bool->Option β):ah (strings_HasPrefix (num,p)) f=f (decide (Bg num p)):=by
 have e:strings_HasPrefix (num,p)=some (decide (Bg num p)):=by
  unfold strings_HasPrefix;by_cases h:p.length<=num.length
  ·simp (disch:=omega) only [↓aF,aG,if_pos,if_neg,Int.toNat_natCast,Bg,h,true_and]
  ·simp (disch:=omega) only [↓aF,aG,if_pos,if_neg,Bg,h,false_and,decide_false]
 rw [e];rfl
abbrev Mt (l:List Ra) (num:List UInt8) (i:Nat):Prop:=Bg num (l.getD i r0).1
def FB (l:List Ra) (num:List UInt8) (n:Nat) (x:Int):Prop:=(x = -1/\∀j,j<n->¬Mt l num j)\/∃i:Nat,i<n/\x=(i:Int)/\Mt l num i/\∀j,j<n->Mt l num j->(l.getD j r0).1.length<=(l.getD i r0).1.length
theorem ah6 (l:List Ra) (num:List UInt8) (hl:l.length<=1000):∃r,ay (fpB l num) ((0:Int),(-1:Int))=some r/\∃x,r = .inl x/\FB l num l.length x:=by
 refine Dp (fun s=>∃(k:Nat) (x:Int),s=((k:Int),x)/\k<=l.length/\FB l num k x) _ (fun s=>l.length-s.1.toNat) (fun s hs => ?_) ⟨0,-1,rfl,by omega,.inl ⟨rfl,fun j hj=>by omega⟩⟩;obtain ⟨k,x,rfl,hk,hF⟩:=hs;by_cases ck:k<l.length
 ·refine .inr ?_;obtain ⟨y,hy,hyb⟩:=get_at r0 ck;have hn:((k:Int)+1)=((k+1:Nat):Int):=rfl;have hlt:l.length-(((k+1:Nat):Int)).toNat<l.length-((k:Nat):Int).toNat:=by rw [Int.toNat_natCast,Int.toNat_natCast];omega
  by_cases hm:Bg num y.1
  ·have hmk:Mt l num k:=by unfold Mt;rw [hy];exact hm
   rcases hF with ⟨rfl,hno⟩ | ⟨i,hi,rfl,hmi,hmax⟩
   ·refine ⟨(((k+1:Nat):Int),(k:Int)),?_,⟨k+1,_,rfl,by omega,.inr ⟨k,by omega,rfl,hmk,fun j hj hmj => ?_⟩⟩,hlt⟩
    ·unfold fpB;simp (disch:=(first | omega | (simp only [bJ];omega))) only [↓aF,aG,if_pos,if_neg,↓hyb,Rh,hm,aj,hn,decide_true]
    ·by_cases e:j=k
     ·subst e;exact Nat.le_refl _
     ·exact (hno j (by omega) hmj).elim
   ·obtain ⟨z,hz,hzb⟩:=get_at r0 (show i<l.length by omega);by_cases hg:z.1.length<y.1.length
    ·refine ⟨(((k+1:Nat):Int),(k:Int)),?_,⟨k+1,_,rfl,by omega,.inr ⟨k,by omega,rfl,hmk,fun j hj hmj => ?_⟩⟩,hlt⟩
     ·unfold fpB;simp (disch:=(first | omega | (simp only [bJ];omega))) only [↓aF,aG,if_pos,if_neg,↓hyb,↓hzb,Rh,hm,aj,hn,decide_true]
     ·by_cases e:j=k
      ·subst e;exact Nat.le_refl _
      ·have:=hmax j (by omega) hmj;rw [hz] at this;rw [hy];omega
    ·refine ⟨(((k+1:Nat):Int),(i:Int)),?_,⟨k+1,_,rfl,by omega,.inr ⟨i,by omega,rfl,hmi,fun j hj hmj => ?_⟩⟩,hlt⟩
     ·unfold fpB;simp (disch:=(first | omega | (simp only [bJ];omega))) only [↓aF,aG,if_pos,if_neg,↓hyb,↓hzb,Rh,hm,aj,hn,decide_true]
     ·by_cases e:j=k
      ·subst e;rw [hy,hz];omega
      ·exact hmax j (by omega) hmj
  ·have hmk:¬Mt l num k:=by unfold Mt;rw [hy];exact hm
   refine ⟨(((k+1:Nat):Int),x),?_,⟨k+1,_,rfl,by omega,?_⟩,hlt⟩
   ·unfold fpB;simp (disch:=(first | omega | (simp only [bJ];omega))) only [↓aF,aG,if_pos,if_neg,↓hyb,Rh,hm,aj,hn,decide_false]
   ·rcases hF with ⟨rfl,hno⟩ | ⟨i,hi,rfl,hmi,hmax⟩
    ·refine .inl ⟨rfl,fun j hj hmj => ?_⟩;by_cases e:j=k
     ·subst e;exact hmk hmj
     ·exact hno j (by omega) hmj
    ·refine .inr ⟨i,by omega,rfl,hmi,fun j hj hmj => ?_⟩;by_cases e:j=k
     ·subst e;exact (hmk hmj).elim
     ·exact hmax j (by omega) hmj
 ·obtain rfl:k=l.length:=by omega
  refine .inl ⟨.inl x,?_,x,rfl,hF⟩;unfold fpB;simp (disch:=(first | omega | (simp only [bJ];omega))) only [↓aF,aG,if_pos,if_neg]
def FX (l:List Ra) (num:List UInt8) (r:Int×Bool):Prop:=(r=(0,false)/\∀j,j<l.length->¬Mt l num j)\/∃i:Nat,i<l.length/\r=((i:Int),true)/\Mt l num i/\∀j,j<l.length->Mt l num j->(l.getD j r0).1.length<=(l.getD i r0).1.length
theorem FX.uniq {l:List Ra} {num:List UInt8} {f:Int} (hv:TV l f) {r r':Int×Bool} (h:FX l num r) (h':FX l num r'):r=r':=by
 rcases h with ⟨rfl,h⟩ | ⟨i,hi,rfl,hm,hx⟩<;>rcases h' with ⟨rfl,h'⟩ | ⟨i',hi',rfl,hm',hx'⟩
 ·rfl
 ·exact (h i' hi' hm').elim
 ·exact (h' i hi hm).elim
 ·have e1:=hx i' hi' hm';have e2:=hx' i hi hm;have e3:(l.getD i r0).1=(l.getD i' r0).1:=by
   rw [<-hm.2,<-hm'.2,show (l.getD i r0).1.length=(l.getD i' r0).1.length from by omega]
  have:i=i':=by
   rcases Nat.lt_trichotomy i i' with k | k | k
   ·exact ((hv.2 i' hi').2 i k e3).elim
   ·exact k
   ·exact ((hv.2 i hi).2 i' k e3.symm).elim
  rw [this]
theorem ah7 {l:List Ra} {f:Int} (num:List UInt8) (hv:TV l f):∃r,gX ((l,f),num)=some r/\FX l num r:=by
 rw [U0];have e:aW (l,f)=some true:=by
  rcases Am l f with ⟨_,e⟩ | ⟨k,_⟩
  ·exact e
  ·exact (k hv).elim
 obtain ⟨r,hr,x,rfl,hF⟩:=ah6 l num hv.1.1;simp only [e,↓aF,aG,hr];rcases hF with ⟨rfl,h⟩ | ⟨i,hi,rfl,hm,hx⟩
 ·exact ⟨(0,false),by simp (disch:=omega) only [↓aF,aG,if_pos],.inl ⟨rfl,h⟩⟩
 ·exact ⟨((i:Int),true),by simp (disch:=omega) only [↓aF,aG,if_neg],.inr ⟨i,hi,rfl,hm,hx⟩⟩
theorem aeZ {l:List Ra} {f:Int} (num:List UInt8) (hv:¬TV l f):gX ((l,f),num)=some (0,false)/\eU ((l,f),num)=some (0,false):=by
 have e:aW (l,f)=some false:=by
  rcases Am l f with ⟨k,_⟩ | ⟨_,e⟩
  ·exact (hv k).elim
  ·exact e
 rw [U0,U1,qV,e];exact ⟨rfl,rfl⟩
theorem Jo (l:List Ra) (num:List UInt8) (v:Int) (hl:l.length<=1000):(∃i:Nat,i<l.length/\(((l.getD i r0).1.length:Int)=v/\Mt l num i)/\ay (Zn l num v) (0:Int)=some (.inr (.inr (.inr ((i:Int),true)))))\/((∀i,i<l.length->¬(((l.getD i r0).1.length:Int)=v/\Mt l num i))/\ay (Zn l num v) (0:Int)=some (.inl (l.length:Int))):=by
 rcases lM (body:=Zn l num v) l.length (fun k=>((l.getD k r0).1.length:Int)=v/\Mt l num k) (fun i => .inr (.inr (.inr ((i:Int),true)))) (.inl (l.length:Int))
  (fun k hk hb=>by
    obtain ⟨x,hx,hxb⟩:=get_at r0 hk;unfold Mt at hb;rw [hx] at hb;have hn:((k:Int)+1)=((k+1:Nat):Int):=rfl;unfold Zn;by_cases h1:(x.1.length:Int)=v
    ·have h2:¬Bg num x.1:=fun k=>hb ⟨h1,k⟩;simp (disch:=(first | omega | (simp only [bJ];omega))) only [↓aF,aG,if_pos,if_neg,↓hxb,aeY,h2,aj,hn,decide_false]
    ·simp (disch:=(first | omega | (simp only [bJ];omega))) only [↓aF,aG,if_pos,if_neg,↓hxb,aj,hn])
  (fun k hk hb=>by
    obtain ⟨x,hx,hxb⟩:=get_at r0 hk;unfold Mt at hb;rw [hx] at hb;obtain ⟨h1,h2⟩:=hb;unfold Zn;simp (disch:=(first | omega | (simp only [bJ];omega))) only [↓aF,aG,if_pos,if_neg,↓hxb,aeY,h2,decide_true])
  (by unfold Zn;simp (disch:=(first | omega | (simp only [bJ];omega))) only [↓aF,aG,if_pos,if_neg]) with ⟨k,h1,h2,_,e⟩ | ⟨h,e⟩
 ·exact .inl ⟨k,h1,h2,e⟩
 ·exact .inr ⟨h,e⟩
theorem ah8 {l:List Ra} {f:Int} (num:List UInt8) (hv:TV l f):∃r,eU ((l,f),num)=some r/\FX l num r:=by
 rw [U1];have e:dG (l,f)=some true:=by
  rcases U2 l f with ⟨_,e⟩ | ⟨k,_⟩
  ·exact e
  ·exact (k hv).elim
 simp only [e,↓aF,aG];refine UG (I:=fun v => -1<=v/\v<=20/\∀j,j<l.length->Mt l num j->((l.getD j r0).1.length:Int)<=v) (fun v=>(v+1).toNat) (fun o=>∃r,o=some r/\FX l num r) (fun v hI => ?_) ⟨by decide,by decide,fun j hj _ => ?_⟩
 ·obtain ⟨h1,h2,h3⟩:=hI;unfold frB;by_cases c:0<=v
  ·rcases Jo l num v hv.1.1 with ⟨i,hi,⟨k1,k2⟩,e⟩ | ⟨hno,e⟩
   ·simp (disch:=omega) only [↓aF,aG,if_pos,e];exact wu.stop ⟨_,rfl,.inr ⟨i,hi,rfl,k2,fun j hj hm=>by have:=h3 j hj hm;omega⟩⟩
   ·simp (disch:=omega) only [↓aF,aG,if_pos,e,aj];refine wu.next ⟨by omega,by omega,fun j hj hm => ?_⟩ (by omega);have k1:=h3 j hj hm;have k2:=hno j hj;have k3:¬(((l.getD j r0).1.length:Int)=v):=fun k=>k2 ⟨k,hm⟩;omega
  ·simp (disch:=omega) only [↓aF,aG,if_neg];exact wu.stop ⟨_,rfl,.inl ⟨rfl,fun j hj hm=>by have:=h3 j hj hm;omega⟩⟩
 ·have:=(hv.2 j hj).1.1.1;omega
theorem GI (l:List Ra) (f:Int) (num:List UInt8):∃r,gX ((l,f),num)=some r/\eU ((l,f),num)=some r/\(TV l f->FX l num r)/\(¬TV l f->r=(0,false)):=by
 by_cases h:TV l f
 ·obtain ⟨r,e1,k1⟩:=ah7 num h;obtain ⟨r',e2,k2⟩:=ah8 num h;rw [k2.uniq h k1] at e2;exact ⟨r,e1,e2,fun _=>k1,fun k=>(k h).elim⟩
 ·obtain ⟨e1,e2⟩:=aeZ num h;exact ⟨_,e1,e2,fun k=>(h k).elim,fun _=>rfl⟩
def paB (a1:List uf) (x4 x6:Int):Int->Option (Int ⊕ (Unit ⊕ Int)) :=
(fun v7 =>
 bif (decide (v7<(a1.length:Int))) then
 bif (decide ((0<=v7)/\(v7<(a1.length:Int)))) then
 ah a1[v7.toNat]? fun x8 =>
 bif (decide (0<=x4)) then
 bif (decide ((IntKind.wrap .u8 (((BitVec.toNat ((BitVec.ofInt 8 (Int.fdiv x8.1.1 ((2:Int) ^ (Min.min x4.toNat 8)))) &&& (BitVec.ofInt 8 (1:Int)))):Nat):Int))=1)) then
 bif (decide (x6>=x8.1.2.1)) then
 bif (decide (x6<x8.1.2.2)) then
 au (au (some v7))
 else
 some (Sum.inl (IntKind.wrap .i64 (v7+(1:Int))))
 else
 some (Sum.inl (IntKind.wrap .i64 (v7+(1:Int))))
 else
 some (Sum.inl (IntKind.wrap .i64 (v7+(1:Int))))
 else none
 else none
 else
 au (some (Sum.inl ())))
theorem Xn (a1:List uf) (a2:Int):fU (a1,a2) =
 ah (some (Int.tmod (IntKind.wrap .i64 (Int.tdiv a2 (86400000:Int))) (7:Int))) fun x4 =>
 ah (some (Int.tmod (IntKind.wrap .i64 (Int.tdiv a2 (60000:Int))) (1440:Int))) fun x6 =>
 aA (ay (paB a1 x4 x6) (0:Int)) fun _ =>
 some (-1:Int):=rfl
def btB (a1:Int):(Int×Int)->Option ((Int×Int) ⊕ (Int ⊕ Int)) :=
(fun (v2,v3) =>
 bif (decide (v2<a1)) then
 some (Sum.inl ((IntKind.wrap .i64 (v2+(1:Int))),(IntKind.wrap .i64 ((2:Int)*v3))))
 else
 au (some (Sum.inl v3)))
theorem amA (a1:Int):kH a1 =
 aA (ay (btB a1) ((0:Int),(1:Int))) fun v6 =>
 some v6:=rfl
def Xo (a5:List uf) (a6:Int):Int->Option (Int ⊕ (Unit ⊕ (Int×Bool))) :=
(fun v8 =>
 bif (decide (v8<(a5.length:Int))) then
 bif (decide ((0<=v8)/\(v8<(a5.length:Int)))) then
 ah a5[v8.toNat]? fun x9 =>
 ah (eX ((x9.1.1,(x9.1.2.1,x9.1.2.2)),a6)) fun x10 =>
 bif x10 then
 au (au (some (v8,true)))
 else
 some (Sum.inl (IntKind.wrap .i64 (v8+(1:Int))))
 else none
 else
 au (some (Sum.inl ())))
theorem abH (a1:List UInt8) (a2 a3 a4:Int) (a5:List uf) (a6:Int):fF ((a1,(a2,(a3,(a4,a5)))),a6) =
 aA (ah (cu (a1,(a2,(a3,(a4,a5))))) fun x7 =>
 bif (!x7) then
 au (some ((0:Int),false))
 else
 bif (decide (a6<0)) then
 au (some ((0:Int),false))
 else
 bif (decide (a6 > 562949953421312)) then
 au (some ((0:Int),false))
 else
 some (Sum.inl ())) fun _ =>
 aA (ay (Xo a5 a6) (0:Int)) fun _ =>
 some ((0:Int),false):=rfl
def SE (a b:Int):Int:=if 0<=a/\a<=b/\b<=281474976710656 then (b-a+999) / 1000 else 0
theorem qW (a b:Int):bW (a,b)=some (SE a b):=by
 unfold bW SE;by_cases h1:0<=a/\a<=281474976710656
 ·by_cases h2:a<=b/\b<=281474976710656
  ·rw [if_pos (show 0<=a/\a<=b/\b<=281474976710656 by omega)];simp (disch:=omega) only [↓aF,aG,iC,h1,h2,and_self,decide_true,aj];rw [Int.tdiv_eq_ediv_of_nonneg (by omega)];rw [aj (by omega)]
  ·rw [if_neg (by omega)];simp (disch:=omega) only [↓aF,aG,iC,h1,h2,and_self,decide_true,decide_false]
 ·rw [if_neg (by omega)];simp (disch:=omega) only [↓aF,aG,iC,h1,decide_false]
abbrev Spn (a b:Int):Prop:=0<=a/\a<=b/\b<=281474976710656
theorem GK {β:Type} (a b:Int) (f:Bool->Option β):ah (fQ (a,b)) f=f (decide (Spn a b)):=by
 have e:fQ (a,b)=some (decide (Spn a b)):=by
  unfold fQ;by_cases h1:0<=a
  ·by_cases h2:0<=b
   ·by_cases h3:a<=281474976710656
    ·by_cases h4:b<=281474976710656
     ·simp (disch:=omega) only [↓aF,aG,if_pos];exact congrArg some (decide_eq_decide.2 ⟨fun k=>⟨h1,k,h4⟩,fun k=>k.2.1⟩)
     ·simp (disch:=omega) only [↓aF,aG,if_pos,if_neg];rw [decide_eq_false (show ¬Spn a b by omega)]
    ·simp (disch:=omega) only [↓aF,aG,if_pos,if_neg];rw [decide_eq_false (show ¬Spn a b by omega)]
   ·simp (disch:=omega) only [↓aF,aG,if_pos,if_neg];rw [decide_eq_false (show ¬Spn a b by omega)]
  ·simp (disch:=omega) only [↓aF,aG,if_pos,if_neg];rw [decide_eq_false (show ¬Spn a b by omega)]
 rw [e];rfl
theorem yO (a b:Int):bK (a,b)=some (SE a b):=by
 unfold bK SE;by_cases h:Spn a b
 ·rw [if_pos h];have h':=h;obtain ⟨h1,h2,h3⟩:=h';simp (disch:=omega) only [↓aF,aG,GK,h,decide_true,aj];rw [Int.tdiv_eq_ediv_of_nonneg (by omega),Int.tmod_eq_emod_of_nonneg (by omega)];rw [aj (n:=(b-a) / 1000) (by omega)];by_cases k:(b-a) % 1000 > 0
  ·rw [if_pos k,aj (n:=(b-a) / 1000+1) (by omega)];congr 1;omega
  ·rw [if_neg k];congr 1;omega
 ·rw [if_neg h];simp (disch:=omega) only [↓aF,aG,GK,h,decide_false]
theorem MB (a b:Int):0<=SE a b/\SE a b<=300000000000:=by
 unfold SE;split<;>omega
def wkd (a:Int):Int:=(a / 86400000) % 7
def mnt (a:Int):Int:=(a / 60000) % 1440
def CT (p:uf) (a:Int):Prop:=(p.1.1 / (2:Int) ^ (wkd a).toNat) % 2=1/\p.1.2.1<=mnt a/\mnt a<p.1.2.2
instance (p:uf) (a:Int):Decidable (CT p a):=by unfold CT;infer_instance
theorem wrap_u8' {n:Int} (h:0<=n/\n<=255):IntKind.wrap .u8 n=n:=by
 show (if (false&&decide (n % 256>=128))=true then n % 256-256 else n % 256)=n;simp only [Bool.false_and,Bool.false_eq_true,if_false];omega
theorem ER (k:Nat):(0:Int)<2 ^ k:=Int.pow_pos (by decide)
theorem Zq {d:Int} (k:Nat) (hd:0<=d/\d<=255) (hk:k<=8):(IntKind.wrap .u8 (((BitVec.toNat ((BitVec.ofInt 8 (Int.fdiv d ((2:Int) ^ (Min.min k 8)))) &&& (BitVec.ofInt 8 (1:Int)))):Nat):Int))=(d / (2:Int) ^ k) % 2:=by
 rw [show Min.min k 8=k from by omega,Int.fdiv_eq_ediv_of_nonneg _ (by have:=ER k;omega)];have h0:0<=d / (2:Int) ^ k:=Int.ediv_nonneg hd.1 (by have:=ER k;omega);have h1:d / (2:Int) ^ k<=d:=Int.ediv_le_self _ hd.1;generalize d / (2:Int) ^ k=X at *
 rw [BitVec.toNat_and,BitVec.toNat_ofInt,BitVec.toNat_ofInt];have e1:((1:Int) % ((2 ^ 8:Nat):Int)).toNat=1:=rfl;rw [e1,Nat.and_one_is_mod];have e2:(X % ((2 ^ 8:Nat):Int)).toNat=X.toNat:=by
  rw [Int.emod_eq_of_lt h0 (by show X<256;omega)]
 rw [e2];have e3:((X.toNat % 2:Nat):Int)=X % 2:=by omega
 rw [e3];exact wrap_u8' (by omega)
theorem aoM {a:Int} (h:0<=a/\a<=4000000000000000000):Int.tmod (IntKind.wrap .i64 (Int.tdiv a (86400000:Int))) (7:Int)=wkd a:=by
 rw [Int.tdiv_eq_ediv_of_nonneg h.1,aj (by omega),Int.tmod_eq_emod_of_nonneg (by omega)];rfl
theorem aoN {a:Int} (h:0<=a/\a<=4000000000000000000):Int.tmod (IntKind.wrap .i64 (Int.tdiv a (60000:Int))) (1440:Int)=mnt a:=by
 rw [Int.tdiv_eq_ediv_of_nonneg h.1,aj (by omega),Int.tmod_eq_emod_of_nonneg (by omega)];rfl
theorem ae0 (a:Int):0<=wkd a/\wkd a<=6:=by unfold wkd;omega
theorem ajH (a:Int):0<=mnt a/\mnt a<=1439:=by unfold mnt;omega
def PX (l:List uf) (a x:Int):Prop:=(x = -1/\∀j,j<l.length->¬CT (l.getD j p0) a)\/∃i:Nat,i<l.length/\x=(i:Int)/\CT (l.getD i p0) a/\∀j,j<i->¬CT (l.getD j p0) a
theorem PX.uniq {l:List uf} {a x y:Int} (h:PX l a x) (k:PX l a y):x=y:=by
 rcases h with ⟨rfl,h⟩ | ⟨i,hi,rfl,hc,hn⟩<;>rcases k with ⟨rfl,k⟩ | ⟨j,hj,rfl,kc,kn⟩
 ·rfl
 ·exact (h j hj kc).elim
 ·exact (k i hi hc).elim
 ·have:i=j:=by
   rcases Nat.lt_trichotomy i j with g | g | g
   ·exact (kn i g hc).elim
   ·exact g
   ·exact (hn j g kc).elim
  rw [this]
theorem abK {l:List uf} {a:Int} (hl:l.length<=1000) (hp:Pks l) (ha:0<=a/\a<=4000000000000000000):∃x,fU (l,a)=some x/\PX l a x:=by
 rw [Xn];simp only [↓aF,aG,aoM ha,aoN ha];have hw:=ae0 a
 rcases lM (body:=paB l (wkd a) (mnt a)) l.length (fun i=>CT (l.getD i p0) a) (fun i => .inr (i:Int)) (.inl ())
  (fun i hi hb=>by
    obtain ⟨x,hx,hxb⟩:=get_at p0 hi;have hpi:=hp i hi;rw [hx] at hb hpi;have hbl:=Zq (d:=x.1.1) (wkd a).toNat (by have:=hpi.1;omega) (by omega);have hn:((i:Int)+1)=((i+1:Nat):Int):=rfl;unfold paB;simp (disch:=(first | omega | (simp only [bJ];omega))) only [↓aF,aG,if_pos,if_neg,↓hxb,hbl,aj,hn];by_cases c1:(x.1.1 / (2:Int) ^ (wkd a).toNat) % 2=1
    ·by_cases c2:x.1.2.1<=mnt a
     ·have c3:¬mnt a<x.1.2.2:=fun k=>hb ⟨c1,c2,k⟩;simp (disch:=(first | omega | (simp only [bJ];omega))) only [↓aF,aG,if_pos,if_neg,aj,hn]
     ·simp (disch:=(first | omega | (simp only [bJ];omega))) only [↓aF,aG,if_pos,if_neg,aj,hn]
    ·simp (disch:=(first | omega | (simp only [bJ];omega))) only [↓aF,aG,if_pos,if_neg,aj,hn])
  (fun i hi hb=>by
    obtain ⟨x,hx,hxb⟩:=get_at p0 hi;have hpi:=hp i hi;rw [hx] at hb hpi;obtain ⟨c1,c2,c3⟩:=hb;have hbl:=Zq (d:=x.1.1) (wkd a).toNat (by have:=hpi.1;omega) (by omega);unfold paB;simp (disch:=(first | omega | (simp only [bJ];omega))) only [↓aF,aG,if_pos,if_neg,↓hxb,hbl])
  (by unfold paB;simp (disch:=(first | omega | (simp only [bJ];omega))) only [↓aF,aG,if_pos,if_neg]) with ⟨i,h1,h2,h3,e⟩ | ⟨h,e⟩
 ·rw [e];exact ⟨_,rfl,.inr ⟨i,h1,rfl,h2,h3⟩⟩
 ·rw [e];exact ⟨_,rfl,.inl ⟨rfl,h⟩⟩
theorem ah9 {p:uf} (h:Lst p) (a:Int):CT p a:=by
 obtain ⟨h1,h2,h3⟩:=h;have hm:=ajH a;have hw:=ae0 a;refine ⟨?_,by omega,by omega⟩;rw [h1];obtain ⟨k,hk⟩:∃k,(wkd a).toNat=k:=⟨_,rfl⟩
 rw [hk];have hk6:k<=6:=by omega
 have:k=0\/k=1\/k=2\/k=3\/k=4\/k=5\/k=6:=by omega
 rcases this with rfl | rfl | rfl | rfl | rfl | rfl | rfl<;>decide
theorem PX.pos {l:List uf} {a x:Int} (hl:RVl l) (h:PX l a x):∃i:Nat,i<l.length/\x=(i:Int):=by
 rcases h with ⟨rfl,h⟩ | ⟨i,hi,rfl,_⟩
 ·exact (h (l.length-1) (by have:=hl.1;omega) (ah9 hl.2.2 a)).elim
 ·exact ⟨i,hi,rfl⟩
theorem aoO (k:Nat) (hk:k<=8):kH (k:Int)=some ((2:Int) ^ k):=by
 rw [amA];have e:ay (btB (k:Int)) ((0:Int),(1:Int))=some (.inl ((2:Int) ^ k)):=by
  refine bG (fun i=>((i:Int),(2:Int) ^ i)) k rfl (fun i hi => ?_) ?_
  ·have hp:(2:Int) ^ (i+1)=2*2 ^ i:=by rw [Int.pow_succ,Int.mul_comm]
   have hb:(2:Int) ^ i<=256:=by
    have:i=0\/i=1\/i=2\/i=3\/i=4\/i=5\/i=6\/i=7:=by omega
    rcases this with rfl | rfl | rfl | rfl | rfl | rfl | rfl | rfl<;>decide
   have h0:=ER i;have hn:((i:Int)+1)=((i+1:Nat):Int):=rfl;unfold btB;simp (disch:=omega) only [↓aF,aG,if_pos,aj,hn,hp]
  ·unfold btB;simp (disch:=omega) only [↓aF,aG,if_neg]
 rw [e];rfl
theorem ae1 {β:Type} {x:uf} {a:Int} (hp:Pok x) (ha:0<=a/\a<=4000000000000000000) (f:Bool->Option β):ah (eX ((x.1.1,(x.1.2.1,x.1.2.2)),a)) f=f (decide (CT x a)):=by
 have e:eX ((x.1.1,(x.1.2.1,x.1.2.2)),a)=some (decide (CT x a)):=by
  unfold eX;have hw:=ae0 a;have hm:=ajH a;simp only [↓aF,aG,aoM ha,aoN ha];obtain ⟨k,hk⟩:∃k:Nat,wkd a=(k:Int):=⟨(wkd a).toNat,by omega⟩
  have hk':(wkd a).toNat=k:=by omega
  have h0:=ER k;have hd:=hp.1;have d0:0<=x.1.1 / (2:Int) ^ k:=Int.ediv_nonneg (by omega) (by omega);have d1:x.1.1 / (2:Int) ^ k<=x.1.1:=Int.ediv_le_self _ (by omega);rw [hk,aoO k (by omega)];simp (disch:=omega) only [↓aF,aG,ne_eq,aj,Int.tdiv_eq_ediv_of_nonneg];rw [Int.tmod_eq_emod_of_nonneg d0];have hct:CT x a↔(x.1.1 / (2:Int) ^ k) % 2=1/\x.1.2.1<=mnt a/\mnt a<x.1.2.2:=by unfold CT;rw [hk']
  by_cases c1:(x.1.1 / (2:Int) ^ k) % 2=1
  ·by_cases c2:x.1.2.1<=mnt a
   ·rw [if_pos c1,if_pos c2];by_cases c3:mnt a<x.1.2.2
    ·rw [decide_eq_true c3,decide_eq_true (hct.2 ⟨c1,c2,c3⟩)]
    ·rw [decide_eq_false c3,decide_eq_false (fun k=>c3 (hct.1 k).2.2)]
   ·rw [if_pos c1,if_neg c2,decide_eq_false (fun k=>c2 (hct.1 k).2.1)]
  ·rw [if_neg c1,decide_eq_false (fun k=>c1 (hct.1 k).1)]
 rw [e];rfl
theorem ae2 {l:List uf} {a:Int} (hl:l.length<=1000) (hp:Pks l) (ha:0<=a/\a<=4000000000000000000):(∃i:Nat,PX l a (i:Int)/\ay (Xo l a) (0:Int)=some (.inr ((i:Int),true)))\/(PX l a (-1)/\ay (Xo l a) (0:Int)=some (.inl ())):=by
 rcases lM (body:=Xo l a) l.length (fun i=>CT (l.getD i p0) a) (fun i => .inr ((i:Int),true)) (.inl ())
  (fun i hi hb=>by
    obtain ⟨x,hx,hxb⟩:=get_at p0 hi;have hpi:=hp i hi;rw [hx] at hb hpi;have hn:((i:Int)+1)=((i+1:Nat):Int):=rfl;unfold Xo;simp (disch:=(first | omega | (simp only [bJ];omega))) only [↓aF,aG,if_pos,if_neg,↓hxb,ae1 hpi ha,hb,decide_false,aj,hn])
  (fun i hi hb=>by
    obtain ⟨x,hx,hxb⟩:=get_at p0 hi;have hpi:=hp i hi;rw [hx] at hb hpi;unfold Xo;simp (disch:=(first | omega | (simp only [bJ];omega))) only [↓aF,aG,if_pos,if_neg,↓hxb,ae1 hpi ha,hb,decide_true])
  (by unfold Xo;simp (disch:=(first | omega | (simp only [bJ];omega))) only [↓aF,aG,if_pos,if_neg]) with ⟨i,h1,h2,h3,e⟩ | ⟨h,e⟩
 ·exact .inl ⟨i,.inr ⟨i,h1,rfl,h2,h3⟩,e⟩
 ·exact .inr ⟨.inl ⟨rfl,h⟩,e⟩
theorem wE {r:Ra} (h:RV r):dX (r.1,(r.2.1,(r.2.2.1,(r.2.2.2.1,r.2.2.2.2))))=some true:=by
 rcases wz r.1 r.2.1 r.2.2.1 r.2.2.2.1 r.2.2.2.2 with ⟨_,e⟩ | ⟨k,_⟩
 ·exact e
 ·exact (k h).elim
theorem ae3 {r:Ra} {a:Int} (h:RV r) (ha:0<=a/\a<=562949953421312):∃i:Nat,i<r.2.2.2.2.length/\PX r.2.2.2.2 a (i:Int)/\fF ((r.1,(r.2.1,(r.2.2.1,(r.2.2.2.1,r.2.2.2.2)))),a)=some ((i:Int),true):=by
 rw [abH,xP,wE h];simp (disch:=omega) only [↓aF,aG,if_neg];rcases ae2 (l:=r.2.2.2.2) (a:=a) (by have:=h.2.2.1;omega) h.2.2.2.1 (by omega) with ⟨i,hx,e⟩ | ⟨hx,e⟩
 ·obtain ⟨i',hi',e'⟩:=hx.pos h.2.2;have:i=i':=by omega
  subst this;rw [e];exact ⟨i,hi',hx,rfl⟩
 ·obtain ⟨i',hi',e'⟩:=hx.pos h.2.2;omega
def pcB (a1:List UInt8) (a2 a3 a4:Int) (a5:List uf) (a6 a7:Int):Int->Option (Int ⊕ (Int ⊕ Int)) :=
(fun v9 =>
 ah (dW ((a1,(a2,(a3,(a4,a5)))),(a6,v9))) fun x10 =>
 bif (decide (x10<a7)) then
 some (Sum.inl (IntKind.wrap .i64 (v9+(1:Int))))
 else
 au (some (Sum.inl v9)))
theorem Xp (a1:List UInt8) (a2 a3 a4:Int) (a5:List uf) (a6 a7:Int):gW ((a1,(a2,(a3,(a4,a5)))),(a6,a7)) =
 aA (ah (cu (a1,(a2,(a3,(a4,a5))))) fun x8 =>
 bif (!x8) then
 au (some (0:Int))
 else
 bif (decide (a6<0)) then
 au (some (0:Int))
 else
 bif (decide (a6 > 3600)) then
 au (some (0:Int))
 else
 bif (decide (a7<0)) then
 au (some (0:Int))
 else
 bif (decide (a7 > 1000000)) then
 au (some (0:Int))
 else
 some (Sum.inl ())) fun _ =>
 aA (ay (pcB a1 a2 a3 a4 a5 a6 a7) (0:Int)) fun v12 =>
 some v12:=rfl
def BG (f fi st:Int) (i:Nat):Int:=if i=0 then f else f+fi+((i:Int)-1)*st
def PN (f fi st s:Int):Int:=if s<=f then 0 else if s-f-fi<=0 then 1 else 1+(s-f-fi+st-1) / st
theorem Zr {f fi st s:Int} (hst:1<=st):0<=PN f fi st s:=by
 unfold PN;split
 ·omega
 ·split
  ·omega
  ·have:=Int.ediv_nonneg (a:=s-f-fi+st-1) (b:=st) (by omega) (by omega);omega
theorem aoP {f fi st s:Int} (hst:1<=st) {i:Nat} (h:(i:Int)<PN f fi st s):BG f fi st i<s:=by
 unfold PN at h;unfold BG;split at h
 ·omega
 ·split at h
  ·have:i=0:=by omega
   rw [if_pos this];omega
  ·by_cases e:i=0
   ·rw [if_pos e];omega
   ·rw [if_neg e];have h1:(i:Int)<=(s-f-fi+st-1) / st:=by omega
    have h2:(i:Int)*st<=s-f-fi+st-1:=(Int.le_ediv_iff_mul_le (by omega)).1 h1;rw [Int.sub_mul,Int.one_mul];omega
theorem aoQ {f fi st s:Int} (hst:1<=st) {i:Nat} (h:(i:Int)=PN f fi st s):s<=BG f fi st i:=by
 unfold PN at h;unfold BG;split at h
 ·rw [if_pos (by omega)];omega
 ·split at h
  ·have:i=1:=by omega
   subst this;rw [if_neg (by omega),show (((1:Nat):Int)-1)=0 from rfl,Int.zero_mul];omega
  ·have h0:=Int.ediv_nonneg (a:=s-f-fi+st-1) (b:=st) (by omega) (by omega);have hl:=Int.lt_ediv_add_one_mul_self (s-f-fi+st-1) (show 0<st by omega);rw [if_neg (by omega),show ((i:Int)-1)=(s-f-fi+st-1) / st from by omega];rw [Int.add_mul,Int.one_mul] at hl;omega
theorem Zt {f fi st s:Int} (hst:1<=st) (hf:0<=f) (hfi:1<=fi) (hs:0<=s):PN f fi st s<=s:=by
 unfold PN;split
 ·omega
 ·split
  ·omega
  ·have:(s-f-fi+st-1) / st<=s-f-fi:=by
    have h1:=Int.lt_ediv_add_one_mul_self (s-f-fi+st-1) (show 0<st by omega);refine Int.ediv_le_of_le_mul (by omega) ?_;have:(s-f-fi)*st=(s-f-fi-1)*(st-1)+(s-f-fi+st-1):=by
     rw [Int.sub_mul (s-f-fi) 1 (st-1),Int.mul_sub,Int.mul_one,Int.one_mul];omega
    have h2:=Int.mul_nonneg (a:=s-f-fi-1) (b:=st-1) (by omega) (by omega);omega
   omega
theorem Zu {f fi st:Int} (hf:0<=f/\f<=3600) (hfi:1<=fi/\fi<=3600) (hst:1<=st/\st<=3600) {i:Nat} (hi:i<=1000001):0<=BG f fi st i/\BG f fi st i<=4000000000:=by
 unfold BG;split
 ·omega
 ·have h1:=Int.mul_nonneg (a:=(i:Int)-1) (b:=st) (by omega) (by omega);have h2:((i:Int)-1)*st<=1000000*3600:=Int.mul_le_mul (by omega) hst.2 (by omega) (by omega);omega
theorem Ri {β:Type} (r:Ra) {f:Int} (hf:0<=f/\f<=3600) (hfi:1<=r.2.2.1/\r.2.2.1<=3600) (hst:1<=r.2.2.2.1/\r.2.2.2.1<=3600) {i:Nat} (hi:i<=1000001) (k:Int->Option β):ah (dW ((r.1,(r.2.1,(r.2.2.1,(r.2.2.2.1,r.2.2.2.2)))),(f,(i:Int)))) k=k (BG f r.2.2.1 r.2.2.2.1 i):=by
 have e:dW ((r.1,(r.2.1,(r.2.2.1,(r.2.2.2.1,r.2.2.2.2)))),(f,(i:Int)))=some (BG f r.2.2.1 r.2.2.2.1 i):=by
  unfold dW BG;by_cases h:i=0
  ·subst h;simp (disch:=omega) only [↓aF,aG,if_pos]
  ·have h1:=Int.mul_nonneg (a:=(i:Int)-1) (b:=r.2.2.2.1) (by omega) (by omega);have h2:((i:Int)-1)*r.2.2.2.1<=1000000*3600:=Int.mul_le_mul (by omega) hst.2 (by omega) (by omega);rw [if_neg h];simp (disch:=omega) only [↓aF,aG,if_neg,aj]
 rw [e];rfl
theorem abL {r:Ra} {f s:Int} (h:RV r) (hf:0<=f/\f<=3600) (hs:0<=s/\s<=1000000):jL ((r.1,(r.2.1,(r.2.2.1,(r.2.2.2.1,r.2.2.2.2)))),(f,s))=some (PN f r.2.2.1 r.2.2.2.1 s):=by
 have hfi:=h.1.2.2.1;have hst:=h.1.2.2.2;unfold jL PN;by_cases h1:s<=f
 ·rw [if_pos h1];simp (disch:=omega) only [↓aF,aG,wE h,iC,hf,hs,and_self,decide_true,if_pos]
 ·rw [if_neg h1];simp (disch:=omega) only [↓aF,aG,wE h,iC,hf,hs,and_self,decide_true,if_neg,aj];by_cases h2:s-f-r.2.2.1<=0
  ·rw [if_pos h2,if_pos h2]
  ·rw [if_neg h2,if_neg h2];have h0:=Int.ediv_nonneg (a:=s-f-r.2.2.1+r.2.2.2.1-1) (b:=r.2.2.2.1) (by omega) (by omega);have h3:=Int.ediv_le_self (a:=s-f-r.2.2.1+r.2.2.2.1-1) r.2.2.2.1 (by omega);rw [Int.tdiv_eq_ediv_of_nonneg (by omega)];simp (disch:=omega) only [↓aF,aG,if_pos,aj,ne_eq]
theorem abM {r:Ra} {f s:Int} (h:RV r) (hf:0<=f/\f<=3600) (hs:0<=s/\s<=1000000):gW ((r.1,(r.2.1,(r.2.2.1,(r.2.2.2.1,r.2.2.2.2)))),(f,s))=some (PN f r.2.2.1 r.2.2.2.1 s):=by
 have hfi:=h.1.2.2.1;have hst:=h.1.2.2.2;rw [Xp,xP,wE h];have hn:=Zr (f:=f) (fi:=r.2.2.1) (s:=s) hst.1;have hle:=Zt (st:=r.2.2.2.1) hst.1 hf.1 hfi.1 hs.1;obtain ⟨n,hn'⟩:∃n:Nat,PN f r.2.2.1 r.2.2.2.1 s=(n:Int):=⟨(PN f r.2.2.1 r.2.2.2.1 s).toNat,by omega⟩
 have e:ay (pcB r.1 r.2.1 r.2.2.1 r.2.2.2.1 r.2.2.2.2 f s) (0:Int)=some (.inl (n:Int)):=by
  refine bG (fun i=>(i:Int)) n rfl (fun i hi => ?_) ?_
  ·have hlt:=aoP (f:=f) (fi:=r.2.2.1) (s:=s) hst.1 (i:=i) (by omega);have hn1:((i:Int)+1)=((i+1:Nat):Int):=rfl;unfold pcB;rw [Ri r hf hfi hst (by omega)];simp (disch:=omega) only [↓aF,aG,if_pos,aj,hn1]
  ·have hge:=aoQ (f:=f) (fi:=r.2.2.1) (s:=s) hst.1 (i:=n) (by omega);unfold pcB;rw [Ri r hf hfi hst (by omega)];simp (disch:=omega) only [↓aF,aG,if_neg]
 simp (disch:=omega) only [↓aF,aG,if_neg,e];rw [hn']
def csB (x:Ra) (a2 a4 n:Int):(Int×Int)->Option ((Int×Int) ⊕ (Int ⊕ (Int×Int))) :=
(fun (v15,v16) =>
 bif (decide (v15<n)) then
 ah (dW ((x.1,(x.2.1,(x.2.2.1,(x.2.2.2.1,x.2.2.2.2)))),(a2,v15))) fun x17 =>
 ah (fF ((x.1,(x.2.1,(x.2.2.1,(x.2.2.2.1,x.2.2.2.2)))),(IntKind.wrap .i64 (a4+(IntKind.wrap .i64 ((1000:Int)*x17)))))) fun (x21,x22) =>
 bif (decide (v15=0)) then
 bif (decide ((0<=x21)/\(x21<(x.2.2.2.2.length:Int)))) then
 ah x.2.2.2.2[x21.toNat]? fun x23 =>
 some (Sum.inl ((IntKind.wrap .i64 (v15+(1:Int))),(IntKind.wrap .i64 (v16+x23.2.1))))
 else none
 else
 bif (decide ((0<=x21)/\(x21<(x.2.2.2.2.length:Int)))) then
 ah x.2.2.2.2[x21.toNat]? fun x26 =>
 some (Sum.inl ((IntKind.wrap .i64 (v15+(1:Int))),(IntKind.wrap .i64 (v16+x26.2.2))))
 else none
 else
 au (some (Sum.inl v16)))
theorem Ap (a1:List Ra) (a2:Int) (a3:List UInt8) (a4 a5:Int):gK ((a1,a2),(a3,(a4,a5))) =
 ah (dG (a1,a2)) fun x6 =>
 bif (!x6) then
  some ((0:Int),(2:Int))
 else
  ah (fQ (a4,a5)) fun x7 =>
  bif (!x7) then
   some ((0:Int),(3:Int))
  else
   ah (bK (a4,a5)) fun x8 =>
   bif (decide (x8 > 1000000)) then
    some ((0:Int),(4:Int))
   else
    ah (eU ((a1,a2),a3)) fun (x10,x11) =>
    bif (!x11) then
     some ((0:Int),(8:Int))
    else
     bif (decide ((0<=x10)/\(x10<(a1.length:Int)))) then
      ah a1[x10.toNat]? fun x12 =>
      ah (bK (a4,a5)) fun x13 =>
      ah (gW ((x12.1,(x12.2.1,(x12.2.2.1,(x12.2.2.2.1,x12.2.2.2.2)))),(a2,x13))) fun x14 =>
      bif (decide (x14=0)) then
       some ((0:Int),(0:Int))
      else
       aA (ay (csB x12 a2 a4 x14) ((0:Int),x12.2.1)) fun v29 =>
       some (v29,(0:Int))
     else none:=rfl
def px (l:List uf) (a:Int):Int:=(fU (l,a)).getD 0
theorem abN {l:List uf} {a:Int} (h:RVl l) (ha:0<=a/\a<=4000000000000000000):fU (l,a)=some (px l a)/\PX l a (px l a):=by
 obtain ⟨x,e,hx⟩:=abK (l:=l) (a:=a) (by have:=h.1;omega) h.2.1 ha;have:px l a=x:=by unfold px;rw [e];rfl
 rw [this];exact ⟨e,hx⟩
def prc (l:List uf) (a:Int) (k:Nat):Int:=if k=0 then (l.getD (px l a).toNat p0).2.1 else (l.getD (px l a).toNat p0).2.2
theorem Xq {l:List uf} {a:Int} (h:RVl l) (ha:0<=a/\a<=4000000000000000000) (k:Nat):0<=prc l a k/\prc l a k<=1000000000:=by
 obtain ⟨i,hi,e⟩:=(abN h ha).2.pos h;have hp:=h.2.1 i hi;unfold prc;rw [e,Int.toNat_natCast];split
 ·exact hp.2.1
 ·exact hp.2.2
def CU (l:List uf) (rc:Int) (mo:Nat->Int):Nat->Int
 | 0=>rc
 | k+1=>CU l rc mo k+prc l (mo k) k
theorem Zv {l:List uf} {rc:Int} {mo:Nat->Int} (h:RVl l) (hr:Q8 rc):∀ {n:Nat},(∀k,k<n->0<=mo k/\mo k<=4000000000000000000)->0<=CU l rc mo n/\CU l rc mo n<=1000000000*((n:Int)+1)
 | 0,_=>by unfold CU;omega
 | n+1,hm=>by
   have h1:=Zv h hr (n:=n) (fun k hk=>hm k (by omega));have h2:=Xq h (hm n (by omega)) n;unfold CU;omega
theorem ajI {l:List uf} {rc:Int} {mo:Nat->Int} (h:RVl l) (hr:Q8 rc):∀ {n:Nat},n<=1000000->(∀k,k<n->0<=mo k/\mo k<=4000000000000000000)->EP l rc mo n=some (CU l rc mo n)
 | 0,_,_=>rfl
 | n+1,hn,hm=>by
   have h0:=Zv h hr (n:=n) (mo:=mo) (fun k hk=>hm k (by omega));have h2:=Xq h (hm n (by omega)) n;obtain ⟨e,hx⟩:=abN h (hm n (by omega));obtain ⟨i,hi,ei⟩:=hx.pos h;unfold EP CU;rw [ajI h hr (by omega) (fun k hk=>hm k (by omega))];simp only [↓aF,aG,e];have hp:(if (n:Int)=0 then (l.getD (px l (mo n)).toNat ((0,(0,0)),(0,0))).2.1 else (l.getD (px l (mo n)).toNat ((0,(0,0)),(0,0))).2.2)=prc l (mo n) n:=by
    unfold prc;by_cases k:n=0
    ·rw [if_pos k,if_pos (by omega)]
    ·rw [if_neg k,if_neg (by omega)]
   rw [hp,if_pos (show 0<=px l (mo n)/\px l (mo n)<(l.length:Int) by omega),aj (by omega)]
def MO (a f fi st:Int) (k:Nat):Int:=a+1000*BG f fi st k
theorem aia (f fi st:Int) (k:Nat):BG f fi st (k+1)=BG f fi st k+if k=0 then fi else st:=by
 unfold BG;rw [if_neg (by omega)];by_cases h:k=0
 ·subst h;rw [if_pos rfl,if_pos rfl,show (((0+1:Nat):Int)-1)=0 from rfl,Int.zero_mul];omega
 ·rw [if_neg h,if_neg h,show (((k+1:Nat):Int)-1)=((k:Int)-1)+1 from by omega,Int.add_mul,Int.one_mul];omega
theorem ae4 {a f fi st:Int} (ha:0<=a/\a<=281474976710656) (hf:0<=f/\f<=3600) (hfi:1<=fi/\fi<=3600) (hst:1<=st/\st<=3600):∀ {k:Nat},k<=1000001->sZ (IntKind.wrap .i64 (a+IntKind.wrap .i64 (1000*f))) fi st k=MO a f fi st k
 | 0,_=>by
   unfold sZ MO BG;rw [if_pos rfl,aj (n:=1000*f) (by omega),aj (by omega)]
 | k+1,hk=>by
   have h0:=Zu (i:=k) hf hfi hst (by omega);have h1:=Zu (i:=k+1) hf hfi hst hk;have hs:=aia f fi st k;unfold sZ;rw [ae4 ha hf hfi hst (by omega)];have hw:∀n:Int,-9223372036854775808<=n/\n<9223372036854775808->wrap64 n=n:=fun n h=>by unfold wrap64;omega
   show wrap64 (MO a f fi st k+wrap64 (1000*(if k=0 then fi else st)))=_;unfold MO;rw [hs] at h1 ⊢;rw [hw (1000*(if k=0 then fi else st)) (by omega),hw _ (by omega)];omega
def CV (r:Ra) (f a s:Int):Int:=if PN f r.2.2.1 r.2.2.2.1 s=0 then 0 else CU r.2.2.2.2 r.2.1 (MO a f r.2.2.1 r.2.2.2.1) (PN f r.2.2.1 r.2.2.2.1 s).toNat
theorem U3 {l:List uf} {rc:Int} {mo mo':Nat->Int}:∀ {n:Nat},(∀k,k<n->mo k=mo' k)->CU l rc mo n=CU l rc mo' n
 | 0,_=>rfl
 | n+1,h=>by unfold CU;rw [U3 (fun k hk=>h k (by omega)),h n (by omega)]
theorem jB {l:List Ra} {f:Int} (hv:TV l f):aW (l,f)=some true:=by
 rcases Am l f with ⟨_,e⟩ | ⟨k,_⟩
 ·exact e
 ·exact (k hv).elim
theorem Aq {l:List Ra} {f:Int} (hv:¬TV l f):aW (l,f)=some false:=by
 rcases Am l f with ⟨k,_⟩ | ⟨_,e⟩
 ·exact (hv k).elim
 ·exact e
theorem Zw {a f fi st:Int} (ha:0<=a/\a<=281474976710656) (hf:0<=f/\f<=3600) (hfi:1<=fi/\fi<=3600) (hst:1<=st/\st<=3600) {k:Nat} (hk:k<=1000001):0<=MO a f fi st k/\MO a f fi st k<=300000000000000:=by
 have:=Zu (i:=k) hf hfi hst hk;unfold MO;omega
theorem Rj {l:List Ra} {f a b:Int} {num:List UInt8} (hv:TV l f) (hs:Spn a b) (h1:SE a b<=1000000) {i:Nat} (hi:i<l.length) (hF:gX ((l,f),num)=some ((i:Int),true)):bT ((l,f),(num,(a,b)))=some (CV (l.getD i r0) f a (SE a b),0):=by
 have hse:=MB a b;have hrv:=(hv.2 i hi).1;have hf:=hv.1.2;have hfi:=hrv.1.2.2.1;have hst:=hrv.1.2.2.2;have hp:=abL hrv hf ⟨hse.1,h1⟩;have hn:=Zr (f:=f) (fi:=(l.getD i r0).2.2.1) (s:=SE a b) hst.1;have hle:=Zt (st:=(l.getD i r0).2.2.2.1) hst.1 hf.1 hfi.1 hse.1;have w1:0<=a/\a<=281474976710656:=⟨hs.1,Int.le_trans hs.2.1 hs.2.2⟩
 have w2:a<=b/\b<=281474976710656:=hs.2;unfold bT CV;simp (disch:=omega) only [↓aF,aG,jB hv,iC,w1,w2,and_self,decide_true,qW,if_neg,hF,Int.toNat_natCast];have hp':jL (l.getD i ([],(0,(0,(0,[])))),(f,SE a b))=some (PN f (l.getD i r0).2.2.1 (l.getD i r0).2.2.2.1 (SE a b)):=hp;rw [hp'];simp only [aB];by_cases h0:PN f (l.getD i r0).2.2.1 (l.getD i r0).2.2.2.1 (SE a b)=0
 ·simp only [if_pos h0]
 ·simp only [if_neg h0];rw [if_pos (show (0:Int)<=PN f (l.getD i r0).2.2.1 (l.getD i r0).2.2.2.1 (SE a b)/\PN f (l.getD i r0).2.2.1 (l.getD i r0).2.2.2.1 (SE a b)<=4000000000000000000 by omega)];have hS:EP (l.getD i r0).2.2.2.2 (l.getD i r0).2.1 (sZ (IntKind.wrap .i64 (a+IntKind.wrap .i64 (1000*f))) (l.getD i r0).2.2.1 (l.getD i r0).2.2.2.1) (PN f (l.getD i r0).2.2.1 (l.getD i r0).2.2.2.1 (SE a b)).toNat=some (CU (l.getD i r0).2.2.2.2 (l.getD i r0).2.1 (MO a f (l.getD i r0).2.2.1 (l.getD i r0).2.2.2.1) (PN f (l.getD i r0).2.2.1 (l.getD i r0).2.2.2.1 (SE a b)).toNat):=by
   rw [ajI hrv.2.2 hrv.1.2.1 (by omega) (fun k hk => ?_),U3 (fun k hk=>ae4 w1 hf hfi hst (by omega))];rw [ae4 w1 hf hfi hst (by omega)];have:=Zw w1 hf hfi hst (k:=k) (by omega);omega
  rw [hS];rfl
theorem ae5 {β:Type} {r:Ra} {a:Int} (h:RV r) (ha:0<=a/\a<=562949953421312) (k:(Int×Bool)->Option β):ah (fF ((r.1,(r.2.1,(r.2.2.1,(r.2.2.2.1,r.2.2.2.2)))),a)) k=k (px r.2.2.2.2 a,true):=by
 obtain ⟨i,hi,hx,e⟩:=ae3 h ha;rw [e,(abN h.2.2 (by omega)).2.uniq hx];rfl
theorem aib {l:List Ra} {f a b:Int} {num:List UInt8} (hv:TV l f) (hs:Spn a b) (h1:SE a b<=1000000) {i:Nat} (hi:i<l.length) (hF:eU ((l,f),num)=some ((i:Int),true)):gK ((l,f),(num,(a,b)))=some (CV (l.getD i r0) f a (SE a b),0):=by
 have hse:=MB a b;have hrv:=(hv.2 i hi).1;obtain ⟨x,hx,hxb⟩:=get_at r0 hi;rw [hx] at hrv ⊢;have hf:=hv.1.2;have hfi:=hrv.1.2.2.1;have hst:=hrv.1.2.2.2;have hp:=abM hrv hf ⟨hse.1,h1⟩;have hn:=Zr (f:=f) (fi:=x.2.2.1) (s:=SE a b) hst.1;have hle:=Zt (st:=x.2.2.2.1) hst.1 hf.1 hfi.1 hse.1;have w1:0<=a/\a<=281474976710656:=⟨hs.1,Int.le_trans hs.2.1 hs.2.2⟩
 rw [Ap,qV,jB hv];unfold CV;simp (disch:=omega) only [↓aF,aG,GK,hs,decide_true,yO,if_neg,hF];simp only [↓hxb,hp,aB];by_cases h0:PN f x.2.2.1 x.2.2.2.1 (SE a b)=0
 ·simp only [if_pos h0]
 ·simp only [if_neg h0];obtain ⟨n,hn'⟩:∃n:Nat,PN f x.2.2.1 x.2.2.2.1 (SE a b)=(n:Int):=⟨(PN f x.2.2.1 x.2.2.2.1 (SE a b)).toNat,by omega⟩
  rw [hn',Int.toNat_natCast];have e:ay (csB x f a (n:Int)) ((0:Int),x.2.1)=some (.inl (CU x.2.2.2.2 x.2.1 (MO a f x.2.2.1 x.2.2.2.1) n)):=by
   refine bG (fun k=>((k:Int),CU x.2.2.2.2 x.2.1 (MO a f x.2.2.1 x.2.2.2.1) k)) n rfl (fun k hk => ?_) ?_
   ·have hm:∀j,j<=k->0<=MO a f x.2.2.1 x.2.2.2.1 j/\MO a f x.2.2.1 x.2.2.2.1 j<=300000000000000:=fun j hj=>Zw w1 hf hfi hst (by omega);have hb:=Zu (i:=k) hf hfi hst (by omega);have hmk:=hm k (Nat.le_refl _);have hcs:=Zv hrv.2.2 hrv.1.2.1 (n:=k) (mo:=MO a f x.2.2.1 x.2.2.2.1) (fun j hj=>by have:=hm j (by omega);omega);have hpr:=Xq hrv.2.2 (a:=MO a f x.2.2.1 x.2.2.2.1 k) (by omega) k;obtain ⟨j,hj,ej⟩:=(abN hrv.2.2 (a:=MO a f x.2.2.1 x.2.2.2.1 k) (by omega)).2.pos hrv.2.2;have hn1:((k:Int)+1)=((k+1:Nat):Int):=rfl;have hMO:a+1000*BG f x.2.2.1 x.2.2.2.1 k=MO a f x.2.2.1 x.2.2.2.1 k:=rfl;obtain ⟨y,hy,hyb⟩:=get_at p0 hj;have hprc:prc x.2.2.2.2 (MO a f x.2.2.1 x.2.2.2.1 k) k=if k=0 then y.2.1 else y.2.2:=by unfold prc;rw [ej,Int.toNat_natCast,hy]
    unfold csB;simp (disch:=omega) only [↓aF,aG,if_pos,Ri x hf hfi hst,aj,hMO,ae5 hrv,ej];by_cases k0:k=0
    ·rw [if_pos k0] at hprc;simp (disch:=omega) only [↓aF,aG,if_pos,↓hyb,aj,hn1];rw [CU,hprc]
    ·rw [if_neg k0] at hprc;simp (disch:=omega) only [↓aF,aG,if_pos,if_neg,↓hyb,aj,hn1];rw [CU,hprc]
   ·unfold csB;simp (disch:=omega) only [↓aF,aG,if_neg]
  rw [e];rfl
theorem abP (l:List Ra) (f:Int) (num:List UInt8) (a b:Int):∃r,bT ((l,f),(num,(a,b)))=some r/\gK ((l,f),(num,(a,b)))=some r:=by
 by_cases hv:TV l f
 ·by_cases hs:Spn a b
  ·by_cases h1:SE a b<=1000000
   ·obtain ⟨r,e1,e2,k1,_⟩:=GI l f num;rcases k1 hv with ⟨rfl,_⟩ | ⟨i,hi,rfl,_⟩
    ·have w1:0<=a/\a<=281474976710656:=⟨hs.1,Int.le_trans hs.2.1 hs.2.2⟩
     have w2:a<=b/\b<=281474976710656:=hs.2;refine ⟨(0,8),?_,?_⟩
     ·unfold bT;simp (disch:=omega) only [↓aF,aG,jB hv,iC,w1,w2,and_self,decide_true,qW,if_neg,e1]
     ·rw [Ap,qV,jB hv];simp (disch:=omega) only [↓aF,aG,GK,hs,decide_true,yO,if_neg,e2]
    ·exact ⟨_,Rj hv hs h1 hi e1,aib hv hs h1 hi e2⟩
   ·have w1:0<=a/\a<=281474976710656:=⟨hs.1,Int.le_trans hs.2.1 hs.2.2⟩
    have w2:a<=b/\b<=281474976710656:=hs.2;refine ⟨(0,4),?_,?_⟩
    ·unfold bT;simp (disch:=omega) only [↓aF,aG,jB hv,iC,w1,w2,and_self,decide_true,qW,if_pos]
    ·rw [Ap,qV,jB hv];simp (disch:=omega) only [↓aF,aG,GK,hs,decide_true,yO,if_pos]
  ·refine ⟨(0,3),?_,?_⟩
   ·unfold bT;by_cases w1:0<=a/\a<=281474976710656
    ·have w2:¬(a<=b/\b<=281474976710656):=fun k=>hs ⟨w1.1,k⟩;simp (disch:=omega) only [↓aF,aG,jB hv,iC,w1,w2,and_self,decide_true,decide_false]
    ·simp (disch:=omega) only [↓aF,aG,jB hv,iC,w1,decide_false]
   ·rw [Ap,qV,jB hv];simp (disch:=omega) only [↓aF,aG,GK,hs,decide_false]
 ·refine ⟨(0,2),?_,?_⟩
  ·unfold bT;simp only [↓aF,aG,Aq hv]
  ·rw [Ap,qV,Aq hv];rfl
end Go.Proofs.Ytkpijdndakljjaa.Rt

namespace Go.Proofs.Ytkpijdndakljjaa.Jn
open Go.RowKit
def MC (v:BitVec 32):BitVec 32:=if v.toNat % 2=1 then (v >>> 1) ^^^ 3988292384#32 else v >>> 1
def itB:Nat->BitVec 32->BitVec 32
 | 0,v=>v
 | n+1,v=>MC (itB n v)
def Rk (c:BitVec 32) (x:Int):BitVec 32:=itB 8 (c ^^^ BitVec.ofInt 32 x)
def aic (l:List Int):BitVec 32:=l.foldl Rk 4294967295#32
def crc (l:List Int):Int:=(((aic l ^^^ 4294967295#32).toNat:Nat):Int)
theorem bvI (v:BitVec 32):BitVec.ofInt 32 ((v.toNat:Nat):Int)=v:=by
 rw [BitVec.ofInt_natCast,BitVec.ofNat_toNat,BitVec.setWidth_eq]
theorem abQ (v:BitVec 32):IntKind.wrap .u32 ((v.toNat:Nat):Int)=((v.toNat:Nat):Int):=by
 rw [Gz];have:=v.isLt;omega
theorem ae6 (v:BitVec 32):IntKind.wrap .u32 (Int.tdiv ((v.toNat:Nat):Int) 2)=(((v >>> 1).toNat:Nat):Int):=by
 rw [Gz,BitVec.toNat_ushiftRight,Nat.shiftRight_eq_div_pow,Int.tdiv_eq_ediv_of_nonneg (by omega)];have:=v.isLt;omega
theorem and1 (v:BitVec 32):(v &&& 1#32).toNat=v.toNat % 2:=by
 rw [BitVec.toNat_and];show v.toNat &&& 1=_;rw [Nat.and_one_is_mod]
theorem MF {α β:Type} (f:β->α->β) (b:β) (l:List α) {i:Nat} (h:i<l.length):(l.take (i+1)).foldl f b=f ((l.take i).foldl f b) l[i]:=by
 rw [List.take_add_one,List.getElem?_eq_getElem h,List.foldl_append];rfl
theorem Zx (l:List Int) (h:Bytes l) (hl:l.length<=9223372036854775806):mF l=some (crc l):=by
 unfold mF;refine kG (a:=(((aic l).toNat:Nat):Int)) (bG (fun i=>((i:Int),((((l.take i).foldl Rk 4294967295#32).toNat:Nat):Int))) l.length rfl ?_ ?_) ?_
 ·intro i hi;simp only [aB,aK,aX,bC,aN,bD,bF,aO,List.take_length,Nat.le_refl,if_true,Nat.mul_one,Int.mul_one,cond_true,cond_false];rw [if_pos (by omega)];refine kG (a:=((((l.take (i+1)).foldl Rk 4294967295#32).toNat:Nat):Int)) ?_ ?_
  ·rw [if_pos (by omega),EJ hi];generalize hc:(l.take i).foldl Rk 4294967295#32=c;have hx:=h.get hi;have e0:BitVec.ofInt 32 (IntKind.wrap .u32 l[i])=BitVec.ofInt 32 l[i]:=by
    rw [Gz];congr 1;omega
   refine bG (fun j=>((j:Int),(((itB j (c ^^^ BitVec.ofInt 32 l[i])).toNat:Nat):Int))) 8 ?_ ?_ ?_
   ·show ((0:Int),(((c ^^^ BitVec.ofInt 32 l[i]).toNat:Nat):Int))=_;rw [e0,bvI,abQ]
   ·intro j hj;show _=some (Sum.inl (((j+1:Nat):Int),(((MC (itB j (c ^^^ BitVec.ofInt 32 l[i]))).toNat:Nat):Int)));generalize itB j (c ^^^ BitVec.ofInt 32 l[i])=v at *
    simp only [aB,aK,aX,bC,aN,bD,bF,aO,List.take_length,Nat.le_refl,if_true,Nat.mul_one,Int.mul_one,cond_true,cond_false];rw [if_pos (by omega),aj (by omega)];simp only [ae6,bvI,abQ];rw [show BitVec.ofInt 32 1=1#32 from rfl,and1];unfold MC;by_cases hb:v.toNat % 2=1
    ·rw [if_pos (by omega),if_pos hb];rfl
    ·rw [if_neg (by omega),if_neg hb];rfl
   ·simp only [aB,aK,aX,bC,aN,bD,bF,aO,List.take_length,Nat.le_refl,if_true,Nat.mul_one,Int.mul_one,cond_true,cond_false];rw [if_neg (by omega),MF Rk _ l hi,hc];rfl
  ·rw [aj (by omega)];rfl
 ·simp only [aB,aK,aX,bC,aN,bD,bF,aO,List.take_length,Nat.le_refl,if_true,Nat.mul_one,Int.mul_one,cond_true,cond_false];rw [if_neg (by omega)];rfl
 ·simp only [bvI];rw [show BitVec.ofInt 32 4294967295=4294967295#32 from rfl,abQ,BitVec.xor_comm];rfl
theorem aie (l:List Int) (h:Bytes l) (hl:l.length<=9223372036854775806):jA l=some (crc l):=by
 unfold jA;refine kG (a:=(((aic l).toNat:Nat):Int)) (bG (fun i=>((i:Int),((((l.take i).foldl Rk 4294967295#32).toNat:Nat):Int))) l.length rfl ?_ ?_) ?_
 ·intro i hi;simp only [aB,aK,aX,bC,aN,bD,bF,aO,List.take_length,Nat.le_refl,if_true,Nat.mul_one,Int.mul_one,cond_true,cond_false];rw [if_pos (by omega)];refine kG (a:=((((l.take (i+1)).foldl Rk 4294967295#32).toNat:Nat):Int)) ?_ ?_
  ·rw [if_pos (by omega),EJ hi];generalize hc:(l.take i).foldl Rk 4294967295#32=c;have hx:=h.get hi;have e0:BitVec.ofInt 32 (IntKind.wrap .u32 l[i])=BitVec.ofInt 32 l[i]:=by
    rw [Gz];congr 1;omega
   refine bG (fun j=>((j:Int),(((itB j (c ^^^ BitVec.ofInt 32 l[i])).toNat:Nat):Int))) 8 ?_ ?_ ?_
   ·show ((0:Int),(((c ^^^ BitVec.ofInt 32 l[i]).toNat:Nat):Int))=_;rw [e0,bvI,abQ]
   ·intro j hj;show _=some (Sum.inl (((j+1:Nat):Int),(((MC (itB j (c ^^^ BitVec.ofInt 32 l[i]))).toNat:Nat):Int)));generalize itB j (c ^^^ BitVec.ofInt 32 l[i])=v at *
    simp only [aB,aK,aX,bC,aN,bD,bF,aO,List.take_length,Nat.le_refl,if_true,Nat.mul_one,Int.mul_one,cond_true,cond_false];rw [if_pos (by omega),aj (by omega)];simp only [ae6,bvI,abQ];rw [Int.tmod_eq_emod_of_nonneg (by omega)];unfold MC;by_cases hb:v.toNat % 2=1
    ·rw [if_pos (by omega),if_pos hb];rfl
    ·rw [if_neg (by omega),if_neg hb];rfl
   ·simp only [aB,aK,aX,bC,aN,bD,bF,aO,List.take_length,Nat.le_refl,if_true,Nat.mul_one,Int.mul_one,cond_true,cond_false];rw [if_neg (by omega),MF Rk _ l hi,hc];rfl
  ·rw [aj (by omega)];rfl
 ·simp only [aB,aK,aX,bC,aN,bD,bF,aO,List.take_length,Nat.le_refl,if_true,Nat.mul_one,Int.mul_one,cond_true,cond_false];rw [if_neg (by omega)];rfl
 ·simp only [bvI];rw [show BitVec.ofInt 32 4294967295=4294967295#32 from rfl,abQ];rfl
theorem Rl (l:List Int):0<=crc l/\crc l<4294967296:=by
 unfold crc;have:=(aic l ^^^ 4294967295#32).isLt;omega
def be:Nat->Int->List Int
 | 0,_=>[]
 | k+1,n=>be k (n / 256)++[n % 256]
theorem bP:∀(k:Nat) (n:Int),(be k n).length=k
 | 0,_=>rfl
 | k+1,n=>by rw [be,List.length_append,bP k];rfl
theorem oO:∀(k:Nat) (n:Int),be (k+1) n=(n / 256 ^ k % 256)::be k n
 | 0,n=>by simp [be]
 | k+1,n=>by
   rw [be,oO k,be,List.cons_append];congr 2;rw [Int.pow_succ,Int.mul_comm,<-Int.ediv_ediv_of_nonneg (by omega)]
theorem nR:∀(k:Nat) (n:Int),Bytes (be k n)
 | 0,_=>fun x hx=>by cases hx
 | k+1,n=>by
   rw [be];refine (nR k _).app fun x hx => ?_;rw [List.mem_singleton] at hx;omega
theorem ES (n:Int) (k:Nat) (h0:0<=n) (hn:n<=9223372036854775807) (hk:k<=1000):eH (n,(k:Int))=some (be k n):=by
 unfold eH;refine kG (a:=be k n) (bG (fun i=>((i:Int),(n / 256 ^ i,be i n))) k (by simp [be]) ?_ ?_) rfl
 ·intro i hi;have hp:0<(256:Int) ^ i:=Int.pow_pos (by omega);have hd0:0<=n / 256 ^ i:=Int.ediv_nonneg h0 (by omega);have hd1:n / 256 ^ i<=n:=Int.ediv_le_self _ h0;have hnext:IntKind.wrap .i64 (Int.tdiv (n / 256 ^ i) 256)=n / 256 ^ (i+1):=by
   rw [Int.tdiv_eq_ediv_of_nonneg hd0,Int.pow_succ,<-Int.ediv_ediv_of_nonneg (by omega),aj (by omega)]
  simp only [aB,aK,aX,bC,aN,bD,bF,aO,List.take_length,Nat.le_refl,if_true,Nat.mul_one,Int.mul_one,cond_true,cond_false,oO i n];rw [if_pos (by omega),Int.tmod_eq_emod_of_nonneg hd0,zh,Int.emod_emod_of_dvd _ (by omega),hnext,aj (by omega),bP];by_cases hi0:i=0
  ·subst hi0;rw [if_neg (by omega)];rfl
  ·rw [if_pos (by omega),if_pos (by rw [List.length_append,bP];simp;omega)];rfl
 ·simp only [aB,aK,aX,bC,aN,bD,bF,aO,List.take_length,Nat.le_refl,if_true,Nat.mul_one,Int.mul_one,cond_true,cond_false];rw [if_neg (by omega)]
theorem ae7 {β:Type} {body:Int×List Int->Option ((Int×List Int) ⊕ β)} (v:Int) (size:Nat) (b:List Int) (fin:List Int->β) {x:Int×List Int} (hx:x=((size:Int)-1,b))
 (h1:∀(i:Nat) (c:List Int),i<size->c.length<=b.length+size->body ((i:Int),c)=some (.inl ((i:Int)-1,c++[v / 256 ^ i % 256]))) (h2:∀c,body (-1,c)=some (.inr (fin c))):ay body x=some (fin (b++be size v)):=by
 have key:∀(n:Nat) (c:List Int),n<=size->c.length+n=b.length+size->ay body ((n:Int)-1,c)=some (fin (c++be n v)):=by
  intro n
  induction n with
  | zero=>intro c _ _;rw [dR,show (((0:Nat):Int)-1) = -1 from rfl,h2];simp [be]
  | succ n ih =>
    intro c hn hc;rw [dR,show (((n+1:Nat):Int)-1)=((n:Nat):Int) from by omega,h1 n c (by omega) (by omega)];simp only;rw [ih _ (by omega) (by rw [List.length_append];simp;omega),oO,List.append_assoc];rfl
 rw [hx];exact key size b (Nat.le_refl _) rfl
theorem Rn (v:Int) (i:Nat) (hi:i<4):Int.fdiv v ((2:Int) ^ (Min.min (Int.toNat (8*(i:Int))) 32))=v / 256 ^ i:=by
 rw [Int.fdiv_eq_ediv_of_nonneg _ (Int.pow_nonneg (by omega))];rcases (by omega:i=0\/i=1\/i=2\/i=3) with rfl | rfl | rfl | rfl<;>rfl
def xQ (fs:List (Int×Int)):List Int:=fs.flatMap fun f=>be f.2.toNat f.1
def headB (n k s:Int):List Int:=[167,k]++(be 4 n++(be 2 s++be 2 (65535-s)))
def preB (n k:Int) (d:List Int):List Int:=headB n k d.length++d
def jU (n k:Int) (d:List Int):List Int:=preB n k d++be 4 (crc (preB n k d))
def encS (n k:Int) (d:List Int):List Int×Int:=if n<0 then ([],3) else if n > 1048575 then ([],3) else if (d.length:Int) > 4096 then ([],4) else (jU n k d,0)
theorem lN (n k s:Int):(headB n k s).length=10:=by simp [headB,bP]
theorem IK {n k s:Int} (hk:0<=k/\k<=255):Bytes (headB n k s):=by
 refine Bytes.app (fun x hx => ?_) ((nR _ _).app ((nR _ _).app (nR _ _)));simp only [List.mem_cons,List.not_mem_nil,or_false] at hx;omega
theorem Dt {n k:Int} {d:List Int} (hk:0<=k/\k<=255) (hd:Bytes d):Bytes (preB n k d):=(IK hk).app hd
theorem jm (n k:Int) (d:List Int):(preB n k d).length=10+d.length:=by rw [preB,List.length_append,lN]
theorem ae8 (n k s:Int) (hk:0<=k/\k<=255):xQ [(167,1),(k,1),(n,4),(s,2),(65535-s,2)]=headB n k s:=by
 have h1:be 1 167=[167]:=rfl;have h2:be 1 k=[k]:=by simp [be];omega
 simp only [xQ,List.flatMap_cons,List.flatMap_nil,List.append_nil];show be 1 167++(be 1 k++(be 4 n++(be 2 s++be 2 (65535-s))))=_;rw [h1,h2];rfl
theorem ae9 {β:Type} {body:Int×List Int->Option ((Int×List Int) ⊕ β)} (fs:List (Int×Int)) (b:List Int) (fin:List Int->β) {x:Int×List Int} (hx:x=(0,b))
 (h1:∀(i:Nat) (c:List Int) (hi:i<fs.length),c.length<=b.length+40->body ((i:Int),c)=some (.inl ((i:Int)+1,c++be fs[i].2.toNat fs[i].1))) (h2:∀c,body ((fs.length:Int),c)=some (.inr (fin c))) (h3:(xQ fs).length<=40):ay body x=some (fin (b++xQ fs)):=by
 have hle:∀i,(xQ (fs.take i)).length<=(xQ fs).length:=fun i=>by
  conv=>rhs;rw [<-List.take_append_drop i fs]
  unfold xQ;rw [List.flatMap_append,List.length_append];omega
 refine bG (fun i=>((i:Int),b++xQ (fs.take i))) fs.length ?_ ?_ ?_
 ·rw [hx];simp [xQ]
 ·intro i hi;rw [h1 i _ hi (by rw [List.length_append];have:=hle i;omega),List.take_add_one,List.getElem?_eq_getElem hi];unfold xQ;rw [List.flatMap_append,<-List.append_assoc];simp
 ·simp only [List.take_length];exact h2 _
theorem afa (n k:Int) (d:List Int) (hn:n<=9223372036854775807) (hk:0<=k/\k<=255) (hd:Bytes d):jg (n,(k,d))=some (encS n k d):=by
 unfold jg encS;simp only [aB,aK,aX,bC,aN,bD,bF,aO,List.take_length,Nat.le_refl,if_true,Nat.mul_one,Int.mul_one,cond_true,cond_false];by_cases h1:n<0
 ·rw [if_pos h1,if_pos h1]
 by_cases h2:n > 1048575
 ·rw [if_neg h1,if_pos (by omega),if_neg h1,if_pos h2]
 by_cases h3:(d.length:Int) > 4096
 ·rw [if_neg h1,if_neg (by omega),if_pos h3,if_neg h1,if_neg h2,if_pos h3]
 rw [if_neg h1,if_neg (by omega),if_neg h3,if_neg h1,if_neg h2,if_neg h3];refine iU (ES n 4 (by omega) (by omega) (by omega)) ?_;rw [if_pos (by rw [bP];omega),if_pos (by simp [bP])];refine iU (ES _ 2 (by omega) (by omega) (by omega)) ?_;rw [if_pos (by simp [bP])];rw [aj (by omega)];refine iU (ES _ 2 (by omega) (by omega) (by omega)) ?_;rw [if_pos (by simp [bP]),if_pos (by simp [bP];omega)];have e:[167,k]++be 4 n++be 2 (d.length:Int)++be 2 (65535-(d.length:Int))++d=preB n k d:=by
  simp [preB,headB]
 rw [e];refine iU (aie _ (Dt hk hd) (by rw [jm];omega)) ?_;have:=Rl (preB n k d);rw [aj (by omega)];refine iU (ES _ 4 (by omega) (by omega) (by omega)) ?_;rw [if_pos (by rw [List.length_append,jm,bP];omega)];rfl
theorem afb (n k:Int) (d:List Int) (hn:n<=9223372036854775807) (hk:0<=k/\k<=255) (hd:Bytes d):nJ (n,(k,d))=some (encS n k d):=by
 unfold nJ encS;simp only [aB,aK,aX,bC,aN,bD,bF,aO,List.take_length,Nat.le_refl,if_true,Nat.mul_one,Int.mul_one,cond_true,cond_false];by_cases h1:n<0
 ·rw [if_pos h1,if_pos h1]
 by_cases h2:n > 1048575
 ·rw [if_neg h1,if_pos (by omega),if_neg h1,if_pos h2]
 by_cases h3:(d.length:Int) > 4096
 ·rw [if_neg h1,if_neg (by omega),if_pos h3,if_neg h1,if_neg h2,if_pos h3]
 rw [if_neg h1,if_neg (by omega),if_neg h3,if_neg h1,if_neg h2,if_neg h3];have ws:∀z:Int,0<=z->z<=4294967295->IntKind.wrap .u32 z=z:=fun z a b=>by rw [Gz];omega
 rw [ws k (by omega) (by omega),ws n (by omega) (by omega),ws (d.length:Int) (by omega) (by omega),aj (n:=65535-(d.length:Int)) (by omega),ws (65535-(d.length:Int)) (by omega) (by omega)];refine kG (a:=headB n k d.length) ?_ ?_
 ·refine kG (a:=headB n k d.length) ?_ rfl;rw [<-ae8 n k d.length hk];obtain ⟨L,hL⟩:∃L:List (Int×Int),L=[(167,1),(k,1),(n,4),((d.length:Int),2),(65535-(d.length:Int),2)]:=⟨_,rfl⟩
  have hlen:L.length=5:=by rw [hL];rfl
  have hsz:∀(i:Nat) (hi:i<L.length),1<=L[i].2/\L[i].2<=4:=fun i hi=>by
   subst hL;rcases (by omega:i=0\/i=1\/i=2\/i=3\/i=4) with rfl | rfl | rfl | rfl | rfl<;>exact ⟨by simp,by simp⟩
  have hfl:(xQ L).length<=40:=by rw [hL,ae8 n k d.length hk,lN];omega
  rw [<-hL];refine ae9 L [] Sum.inl rfl ?_ ?_ hfl
  ·intro i c hi hc;have hz:=hsz i hi;have hc40:c.length<=40:=hc;simp only [aB,aK,aX,bC,aN,bD,bF,aO,List.take_length,Nat.le_refl,if_true,Nat.mul_one,Int.mul_one,cond_true,cond_false];rw [if_pos (by omega)];refine kG (a:=c++be L[i].2.toNat L[i].1) ?_ ?_
   ·rw [if_pos (by omega),EJ hi];refine ae7 L[i].1 L[i].2.toNat c Sum.inl ?_ ?_ ?_
    ·rw [aj (by omega)];congr 1;omega
    ·intro j b hj hb;simp only [aB,aK,aX,bC,aN,bD,bF,aO,List.take_length,Nat.le_refl,if_true,Nat.mul_one,Int.mul_one,cond_true,cond_false];rw [if_pos (by omega),aj (n:=8*(j:Int)) (by omega),if_pos (by omega),Rn _ j (by omega),zh,if_pos (by rw [List.length_append];simp;omega),aj (by omega)]
    ·intro b;simp only [aB,aK,aX,bC,aN,bD,bF,aO,List.take_length,Nat.le_refl,if_true,Nat.mul_one,Int.mul_one,cond_true,cond_false];rw [if_neg (by omega)]
   ·rw [aj (by omega)]
  ·intro c;simp only [aB,aK,aX,bC,aN,bD,bF,aO,List.take_length,Nat.le_refl,if_true,Nat.mul_one,Int.mul_one,cond_true,cond_false];rw [if_neg (by omega)]
 ·rw [show headB n k (d.length:Int)++d=preB n k d from rfl,if_pos (by rw [jm];omega)];refine iU (Zx _ (Dt hk hd) (by rw [jm];omega)) ?_;have hcb:=Rl (preB n k d);generalize hP:preB n k d=B at *
  have hB:B.length<=5000:=by rw [<-hP,jm];omega
  refine kG (a:=B++be 4 (crc B)) ?_ ?_
  ·refine kG (a:=B++be 4 (crc B)) ?_ rfl;have e1:xQ [(crc B,4)]=be 4 (crc B):=by simp only [xQ,List.flatMap_cons,List.flatMap_nil,List.append_nil];rfl
   rw [<-e1];refine ae9 [(crc B,4)] B Sum.inl rfl ?_ ?_ ?_
   ·intro i c hi hc;have hi1:i<1:=hi;have hi0:i=0:=by omega
    subst hi0;simp only [aB,aK,aX,bC,aN,bD,bF,aO,List.take_length,Nat.le_refl,if_true,Nat.mul_one,Int.mul_one,cond_true,cond_false];rw [if_pos (by omega)];refine kG (a:=c++be 4 (crc B)) ?_ ?_
    ·rw [if_pos (by omega)];refine iU rfl ?_;refine ae7 (crc B) 4 c Sum.inl rfl ?_ ?_
     ·intro j b hj hb;have hj4:j<4:=hj;simp only [aB,aK,aX,bC,aN,bD,bF,aO,List.take_length,Nat.le_refl,if_true,Nat.mul_one,Int.mul_one,cond_true,cond_false];rw [if_pos (by omega),aj (n:=8*(j:Int)) (by omega),if_pos (by omega),Rn _ j (by omega),zh,if_pos (by rw [List.length_append];simp;omega),aj (by omega)]
     ·intro b;simp only [aB,aK,aX,bC,aN,bD,bF,aO,List.take_length,Nat.le_refl,if_true,Nat.mul_one,Int.mul_one,cond_true,cond_false];rw [if_neg (by omega)]
    ·rw [aj (by omega)];rfl
   ·intro c;simp only [aB,aK,aX,bC,aN,bD,bF,aO,List.take_length,Nat.le_refl,if_true,Nat.mul_one,Int.mul_one,cond_true,cond_false];rw [if_neg (by simp)]
   ·rw [e1,bP];omega
  ·rw [jU,hP]
def BZ (n:Int):List Int:=[167,0]++be 4 n
theorem Ro (n:Int):(BZ n).length=6:=by simp [BZ,bP]
def ajK (b:List Int) (n:Int) (i:Nat):Prop :=
 i<b.length/\((i<6/\i≠1/\b.getD i 0≠(BZ n).getD i 0)\/(i=8/\b.getD 8 0≠255-b.getD 6 0)\/(i=9/\b.getD 9 0≠255-b.getD 7 0))
def Wrong (b:List Int) (n:Int):Prop:=(8<=b.length/\256*b.getD 6 0+b.getD 7 0 > 4096)\/∃i,i<10/\ajK b n i
theorem Xr (n s:Int):headB n 0 s=BZ n++(be 2 s++be 2 (65535-s)):=by simp [headB,BZ]
theorem MG (n s:Int) {i:Nat} (hi:i<6):(headB n 0 s).getD i 0=(BZ n).getD i 0:=by
 rw [Xr,List.getD_eq_getElem?_getD,List.getElem?_append_left (by rw [Ro];exact hi),<-List.getD_eq_getElem?_getD]
theorem IL {β:Type} {body:Int×List Int->Option ((Int×List Int) ⊕ (List Int ⊕ β))} (L:List (Int×Int)) (m:Int) (hm:m=(L.length:Int)) (hsz:∀(i:Nat) (hi:i<L.length),1<=L[i].2/\L[i].2<=4) (hfl:(xQ L).length<=40) (hL:L.length<=40) (B:List Int) (hB:B.length<=1000000)
 (hbody:∀x,body x=(if x.1<m then aA (if 0<=x.1/\x.1<m then ah L[x.1.toNat]? fun f=>ay (fun y=>if y.1>=0 then if 0<=IntKind.wrap .i64 (8*y.1) then if (y.2++[IntKind.wrap .u8 (Int.fdiv f.1 (2 ^ Min.min (Int.toNat (IntKind.wrap .i64 (8*y.1))) 32))]).length<=140737488355328 then some (Sum.inl (IntKind.wrap .i64 (y.1-1),y.2++[IntKind.wrap .u8 (Int.fdiv f.1 (2 ^ Min.min (Int.toNat (IntKind.wrap .i64 (8*y.1))) 32))])) else none else none else some (Sum.inr (Sum.inl y.2))) (IntKind.wrap .i64 (f.2-1),x.2) else none) (fun v=>some (Sum.inl (IntKind.wrap .i64 (x.1+1),v))) else some (Sum.inr (Sum.inl x.2)))):ay body (0,B)=some (Sum.inl (B++xQ L)):=by
 refine ae9 L B Sum.inl rfl ?_ ?_ hfl
 ·intro i c hi hc;have hz:=hsz i hi;rw [hbody];simp only [aB,aK,aX,bC,aN,bD,bF,aO,List.take_length,Nat.le_refl,if_true,Nat.mul_one,Int.mul_one,cond_true,cond_false];rw [if_pos (by omega)];refine kG (a:=c++be L[i].2.toNat L[i].1) ?_ ?_
  ·rw [if_pos (by omega),EJ hi];refine ae7 L[i].1 L[i].2.toNat c Sum.inl ?_ ?_ ?_
   ·rw [aj (by omega)];congr 1;omega
   ·intro j b hj hb;simp only [aB,aK,aX,bC,aN,bD,bF,aO,List.take_length,Nat.le_refl,if_true,Nat.mul_one,Int.mul_one,cond_true,cond_false];rw [if_pos (by omega),aj (n:=8*(j:Int)) (by omega),if_pos (by omega),Rn _ j (by omega),zh,if_pos (by rw [List.length_append];simp;omega),aj (by omega)]
   ·intro b;simp only [aB,aK,aX,bC,aN,bD,bF,aO,List.take_length,Nat.le_refl,if_true,Nat.mul_one,Int.mul_one,cond_true,cond_false];rw [if_neg (by omega)]
  ·rw [aj (by omega)]
 ·intro c;rw [hbody];simp only [aB,aK,aX,bC,aN,bD,bF,aO,List.take_length,Nat.le_refl,if_true,Nat.mul_one,Int.mul_one,cond_true,cond_false];rw [if_neg (by omega)]
theorem aif (n k s:Int) (i:Nat) (hi:i<[((167:Int),(1:Int)),(k,1),(n,4),(s,2),(65535-s,2)].length):1<=[((167:Int),(1:Int)),(k,1),(n,4),(s,2),(65535-s,2)][i].2/\[((167:Int),(1:Int)),(k,1),(n,4),(s,2),(65535-s,2)][i].2<=4:=by
 have hi5:i<5:=hi;rcases (by omega:i=0\/i=1\/i=2\/i=3\/i=4) with rfl | rfl | rfl | rfl | rfl<;>exact ⟨by simp,by simp⟩
set_option maxHeartbeats 4000000 in
theorem afc (b:List Int) (n:Int) (hb:Bytes b) (hl:b.length<=9223372036854775806) (hn:0<=n/\n<1048576):∃r,nK (b,n)=some r/\(r=false↔Wrong b n):=by
 unfold nK;have hx:∀i,0<=b.getD i 0/\b.getD i 0<=255:=fun i=>hb.getD i;have x6:=hx 6;have x7:=hx 7;have g:∀i,i<b.length->b[i]? = some (b.getD i 0):=fun i hi=>Gy 0 hi;by_cases hbig:8<=b.length/\256*b.getD 6 0+b.getD 7 0 > 4096
 ·refine ⟨false,aa8 ?_,iff_of_true rfl (.inl hbig)⟩;obtain ⟨h8,h9⟩:=hbig;simp (disch:=omega) only [aB,aK,aX,bC,aN,bD,bF,aO,List.take_length,Nat.le_refl,if_true,Nat.mul_one,Int.mul_one,cond_true,cond_false,if_pos,if_neg,g,KU]
 ·obtain ⟨s,hs,h1⟩:∃s:Int,(0<=s/\s<=4096)/\(bif (decide ((b.length:Int)>=8)) then
 bif (decide (((0:Int)<=6)/\(6<(b.length:Int)))) then
 ah b[6]? fun x3 =>
 bif (decide (((0:Int)<=7)/\(7<(b.length:Int)))) then
 ah b[7]? fun x6 =>
 ah (some (IntKind.wrap .i64 (((BitVec.toNat ((BitVec.ofInt 64 (IntKind.wrap .i64 ((IntKind.wrap .i64 x3)*(256:Int)))) ||| (BitVec.ofInt 64 (IntKind.wrap .i64 x6)))):Nat):Int))) fun x8 =>
 bif (decide (x8 > 4096)) then
 au (some false)
 else
 some (Sum.inl x8)
 else none
 else none
 else
 some (Sum.inl (0:Int)))=some (Sum.inl s):=by
   by_cases h8:8<=b.length
   ·refine ⟨256*b.getD 6 0+b.getD 7 0,by omega,?_⟩;simp (disch:=omega) only [aB,aK,aX,bC,aN,bD,bF,aO,List.take_length,Nat.le_refl,if_true,Nat.mul_one,Int.mul_one,cond_true,cond_false,if_pos,if_neg,g,KU]
   ·refine ⟨0,by omega,?_⟩;simp (disch:=omega) only [aB,aK,aX,bC,aN,bD,bF,aO,List.take_length,Nat.le_refl,if_true,Nat.mul_one,Int.mul_one,cond_true,cond_false,if_pos,if_neg]
  suffices hg:∃r,(aA (some (Sum.inl s)) _:Option Bool)=some r/\(r=false↔Wrong b n) by
   obtain ⟨r,hr,h2⟩:=hg;exact ⟨r,by rw [<-h1] at hr;exact hr,h2⟩
  rw [aX];have ws:∀z:Int,0<=z->z<=4294967295->IntKind.wrap .u32 z=z:=fun z a b=>by rw [Gz];omega
  rw [ws n (by omega) (by omega),ws s (by omega) (by omega),aj (n:=65535-s) (by omega),ws (65535-s) (by omega) (by omega)];have hF:(xQ [(167,1),(0,1),(n,4),(s,2),(65535-s,2)])=headB n 0 s:=ae8 n 0 s (by omega);simp only [aB,aK,aX,bC,aN,bD,bF,aO,List.take_length,Nat.le_refl,if_true,Nat.mul_one,Int.mul_one,cond_true,cond_false];have hloop:=IL (β:=List Int ⊕ Bool) [(167,1),(0,1),(n,4),(s,2),(65535-s,2)] 5 rfl (aif n 0 s) (by rw [hF,lN];omega) (by simp) [] (by simp) (fun _=>rfl);rw [hloop];simp only [aB,aK,aX,bC,aN,bD,bF,aO,List.take_length,Nat.le_refl,if_true,Nat.mul_one,Int.mul_one,cond_true,cond_false];rw [hF];simp only [List.nil_append];have hbytes:=IK (n:=n) (k:=0) (s:=s) (by omega);have hHl:=lN n 0 s;have hminA:∀z:Int,xX z 10=if 10<z then 10 else z:=fun z=>rfl;refine NZ (fun o:Option Bool=>∃r,o=some r/\(r=false↔Wrong b n)) (fun i=>(i:Int)) (min b.length 10) (ajK b n) (.inl ()) (.inr false) rfl ?_ ?_ ?_ ?_ ?_
  ·intro i hi hbad;have hlt:(i:Int)<xX (b.length:Int) 10:=by rw [hminA];split<;>omega
   have hnext:IntKind.wrap .i64 ((i:Int)+1)=((i+1:Nat):Int):=by rw [aj (by omega)];omega
   rw [if_pos hlt,hnext];by_cases i1:i=1\/i=6\/i=7
   ·rcases i1 with rfl | rfl | rfl<;>rfl
   have e1:(if (i:Int)=1 then (some (Sum.inl true):Option (Bool ⊕ (Int ⊕ (Unit ⊕ Bool)))) else if (i:Int)=6 then some (Sum.inl true) else some (Sum.inl (decide ((i:Int)=7))))=some (Sum.inl false):=by
    rw [if_neg (by omega),if_neg (by omega),decide_eq_false (by omega)]
   have hd:=hx i;by_cases i8:i=8\/i=9
   ·have hd2:=hx (i-2);have hbad':¬(b.getD i 0≠255-b.getD (i-2) 0):=fun h=>hbad ⟨by omega,by rcases i8 with rfl | rfl;exact .inr (.inl ⟨rfl,h⟩);exact .inr (.inr ⟨rfl,h⟩)⟩;have e2:IntKind.wrap .i64 ((i:Int)-2)=((i-2:Nat):Int):=by rw [aj (by omega)];omega
    have e3:(if (i:Int)=8 then (some (Sum.inl true):Option (Bool ⊕ (Int ⊕ (Unit ⊕ Bool)))) else some (Sum.inl (decide ((i:Int)=9))))=some (Sum.inl true):=by rcases i8 with rfl | rfl<;>rfl
    simp (disch:=omega) only [aB,aK,aX,bC,aN,bD,bF,aO,List.take_length,Nat.le_refl,if_true,Nat.mul_one,Int.mul_one,cond_true,cond_false,e1,e2,e3,YK (0:Int),zh,if_pos];rw [if_neg (by omega)]
   ·have e3:(if (i:Int)=8 then (some (Sum.inl true):Option (Bool ⊕ (Int ⊕ (Unit ⊕ Bool)))) else some (Sum.inl (decide ((i:Int)=9))))=some (Sum.inl false):=by
     rw [if_neg (by omega),decide_eq_false (by omega)]
    have hbad':b.getD i 0=(BZ n).getD i 0:=Decidable.not_not.1 fun h=>hbad ⟨by omega,.inl ⟨by omega,by omega,h⟩⟩;simp (disch:=omega) only [aB,aK,aX,bC,aN,bD,bF,aO,List.take_length,Nat.le_refl,if_true,Nat.mul_one,Int.mul_one,cond_true,cond_false,e1,e3,YK (0:Int),if_pos,MG n s (show i<6 by omega)];rw [if_neg (fun h=>h hbad')]
  ·intro i hi hbad;have hlt:(i:Int)<xX (b.length:Int) 10:=by rw [hminA];split<;>omega
   have hnext:IntKind.wrap .i64 ((i:Int)+1)=((i+1:Nat):Int):=by rw [aj (by omega)];omega
   rw [if_pos hlt,hnext];by_cases i1:i=1\/i=6\/i=7
   ·obtain ⟨_,hbd⟩:=hbad;rcases hbd with ⟨_,_,_⟩ | ⟨_,_⟩ | ⟨_,_⟩<;>omega
   have e1:(if (i:Int)=1 then (some (Sum.inl true):Option (Bool ⊕ (Int ⊕ (Unit ⊕ Bool)))) else if (i:Int)=6 then some (Sum.inl true) else some (Sum.inl (decide ((i:Int)=7))))=some (Sum.inl false):=by
    rw [if_neg (by omega),if_neg (by omega),decide_eq_false (by omega)]
   have hd:=hx i;obtain ⟨hlb,hbd⟩:=hbad;by_cases i8:i=8\/i=9
   ·have hd2:=hx (i-2);have hbad':b.getD i 0≠255-b.getD (i-2) 0:=by
     rcases hbd with ⟨_,_,_⟩ | ⟨h,h'⟩ | ⟨h,h'⟩
     ·omega
     ·subst h;exact h'
     ·subst h;exact h'
    have e2:IntKind.wrap .i64 ((i:Int)-2)=((i-2:Nat):Int):=by rw [aj (by omega)];omega
    have e3:(if (i:Int)=8 then (some (Sum.inl true):Option (Bool ⊕ (Int ⊕ (Unit ⊕ Bool)))) else some (Sum.inl (decide ((i:Int)=9))))=some (Sum.inl true):=by rcases i8 with rfl | rfl<;>rfl
    simp (disch:=omega) only [aB,aK,aX,bC,aN,bD,bF,aO,List.take_length,Nat.le_refl,if_true,Nat.mul_one,Int.mul_one,cond_true,cond_false,e1,e2,e3,YK (0:Int),zh,if_pos]
   ·have e3:(if (i:Int)=8 then (some (Sum.inl true):Option (Bool ⊕ (Int ⊕ (Unit ⊕ Bool)))) else some (Sum.inl (decide ((i:Int)=9))))=some (Sum.inl false):=by
     rw [if_neg (by omega),decide_eq_false (by omega)]
    have hbad':b.getD i 0≠(BZ n).getD i 0:=by
     rcases hbd with ⟨_,_,h⟩ | ⟨_,_⟩ | ⟨_,_⟩
     ·exact h
     ·omega
     ·omega
    simp (disch:=omega) only [aB,aK,aX,bC,aN,bD,bF,aO,List.take_length,Nat.le_refl,if_true,Nat.mul_one,Int.mul_one,cond_true,cond_false,e1,e3,YK (0:Int),if_pos,MG n s (show i<6 by omega)]
  ·rw [if_neg (by rw [hminA];split<;>omega)]
  ·rintro ⟨i,h1,h2⟩;exact ⟨false,rfl,iff_of_true rfl (.inr ⟨i,by omega,h2⟩)⟩
  ·intro hno;refine ⟨true,rfl,iff_of_false (by simp) ?_⟩;rintro (h | ⟨i,h1,h2⟩)
   ·exact hbig h
   ·exact hno ⟨i,by have:=h2.1;omega,h2⟩
def szB (b:List Int):Nat:=(256*b.getD 6 0+b.getD 7 0).toNat
open Classical in
def oV (b:List Int) (n:Nat):(Int×List Int)×(Int×Int) :=
 if n>=1048576\/Wrong b n then ((0,[]),(0,5)) else
 if b.length<14 then ((0,[]),(0,6)) else
 if b.length<14+szB b then ((0,[]),(0,6)) else
 if be 4 (crc (b.take (10+szB b)))=(b.drop (10+szB b)).take 4 then ((b.getD 1 0,(b.drop 10).take (szB b)),(((14+szB b:Nat):Int),0)) else ((0,[]),(0,11))
theorem afd {b:List Int} (hb:Bytes b):((szB b:Nat):Int)=256*b.getD 6 0+b.getD 7 0:=by
 have:=hb.getD 6;have:=hb.getD 7;unfold szB;omega
theorem aoR {b:List Int} {n:Int} (hb:Bytes b) (h:¬Wrong b n) (hl:8<=b.length):szB b<=4096:=by
 have:=afd hb;by_cases hh:256*b.getD 6 0+b.getD 7 0 > 4096
 ·exact (h (.inl ⟨hl,hh⟩)).elim
 ·omega
theorem getD_take {l:List Int} {i n:Nat} (h:i<n):(l.take n).getD i 0=l.getD i 0:=by
 rw [List.getD_eq_getElem?_getD,List.getElem?_take_of_lt h,List.getD_eq_getElem?_getD]
section
variable {b:List Int} {n:Nat}
theorem MH (h:n>=1048576\/Wrong b n):oV b n=((0,[]),(0,5)):=by unfold oV;rw [if_pos h]
theorem yP (h:¬(n>=1048576\/Wrong b n)) (k:b.length<14+szB b):oV b n=((0,[]),(0,6)):=by
 unfold oV;rw [if_neg h];by_cases h14:b.length<14
 ·rw [if_pos h14]
 ·rw [if_neg h14,if_pos k]
theorem MI (h:¬(n>=1048576\/Wrong b n)) (k:¬b.length<14+szB b) (c:¬be 4 (crc (b.take (10+szB b)))=(b.drop (10+szB b)).take 4):oV b n=((0,[]),(0,11)):=by
 unfold oV;rw [if_neg h,if_neg (by omega),if_neg k,if_neg c]
theorem Rq (h:¬(n>=1048576\/Wrong b n)) (k:¬b.length<14+szB b) (c:be 4 (crc (b.take (10+szB b)))=(b.drop (10+szB b)).take 4):oV b n=((b.getD 1 0,(b.drop 10).take (szB b)),(((14+szB b:Nat):Int),0)):=by
 unfold oV;rw [if_neg h,if_neg (by omega),if_neg k,if_pos c]
end
abbrev fV:=List (Int×List Int)
def pR (b:List Int) (x:fV×Int):Option ((fV×Int) ⊕ (fV×(Int×Int))) :=
 if x.2<(b.length:Int) then
 if (oV (b.drop x.2.toNat) x.1.length).2.2≠0 then some (.inr (x.1,(x.2,(oV (b.drop x.2.toNat) x.1.length).2.2)))
 else some (.inl (x.1++[(oV (b.drop x.2.toNat) x.1.length).1],x.2+(oV (b.drop x.2.toNat) x.1.length).2.1))
 else some (.inr (x.1,(x.2,0)))
def Zy (b:List Int) (x:fV×Int):Prop:=0<=x.2/\x.2<=(b.length:Int)/\14*(x.1.length:Int)<=x.2
theorem MJ (b:List Int) (n:Nat):(oV b n).2.2≠0/\(oV b n).2.1=0\/((oV b n).2.2=0/\(oV b n).2.1=((14+szB b:Nat):Int)/\14+szB b<=b.length/\¬(n>=1048576\/Wrong b n)):=by
 by_cases h:n>=1048576\/Wrong b n
 ·rw [MH h];exact .inl ⟨by decide,rfl⟩
 by_cases k:b.length<14+szB b
 ·rw [yP h k];exact .inl ⟨by decide,rfl⟩
 by_cases c:be 4 (crc (b.take (10+szB b)))=(b.drop (10+szB b)).take 4
 ·rw [Rq h k c];exact .inr ⟨rfl,rfl,by omega,h⟩
 ·rw [MI h k c];exact .inl ⟨by decide,rfl⟩
theorem MK {b:List Int} {x:fV×Int} (h:Zy b x) (hlt:x.2<(b.length:Int)) (he:(oV (b.drop x.2.toNat) x.1.length).2.2=0):Zy b (x.1++[(oV (b.drop x.2.toNat) x.1.length).1],x.2+(oV (b.drop x.2.toNat) x.1.length).2.1)/\x.2+14<=x.2+(oV (b.drop x.2.toNat) x.1.length).2.1:=by
 obtain ⟨h1,h2,h3⟩:=h;rcases MJ (b.drop x.2.toNat) x.1.length with ⟨q,_⟩ | ⟨_,q2,q3,_⟩
 ·exact (q he).elim
 ·rw [List.length_drop] at q3;refine ⟨⟨?_,?_,?_⟩,?_⟩
  ·show 0<=x.2+_;omega
  ·show x.2+_<=_;omega
  ·show 14*((x.1++[_]).length:Int)<=x.2+_;rw [List.length_append,List.length_singleton];omega
  ·omega
theorem U4 {b:List Int} {r:fV×(Int×Int)} (hr:ay (pR b) ([],0)=some r):0<=r.2.1/\r.2.1<=(b.length:Int)/\14*(r.1.length:Int)<=r.2.1:=by
 have key:∀x r,yZ (pR b) x r->Zy b x->0<=r.2.1/\r.2.1<=(b.length:Int)/\14*(r.1.length:Int)<=r.2.1:=by
  intro x r h
  induction h with
  | done hd =>
    intro hI;unfold pR at hd;split at hd
    ·split at hd
     ·cases hd;exact hI
     ·cases hd
    ·cases hd;exact hI
  | step hd _ ih =>
    intro hI;refine ih ?_;unfold pR at hd;split at hd
    ·rename_i hlt;split at hd
     ·cases hd
     ·rename_i he;cases hd;exact (MK hI hlt (Decidable.not_not.1 he)).1
    ·cases hd
 exact key _ _ (pI.1 hr) ⟨by show (0:Int)<=0;omega,by show (0:Int)<=_;omega,by show (14*((0:Nat):Int))<=0;omega⟩
theorem aii (C:Int) (i:Nat) (hi:i<[(C,(4:Int))].length):1<=[(C,(4:Int))][i].2/\[(C,(4:Int))][i].2<=4:=by
 have h1:i<1:=hi;have h0:i=0:=by omega
 subst h0;exact ⟨by simp,by simp⟩
set_option maxHeartbeats 4000000 in
theorem amB (b:List Int) (hb:Bytes b) (hl:b.length<=1000000) {r:fV×(Int×Int)} (hr:ay (pR b) ([],0)=some r):qw b=some r:=by
 unfold qw;simp only [aB,aK,aX,bC,aN,bD,bF,aO,List.take_length,Nat.le_refl,if_true,Nat.mul_one,Int.mul_one,cond_true,cond_false,Jl];refine Xa (fun x y=>x=(y.1,(b,y.2))/\Zy b y) ?_ (x:=([],(b,0))) ⟨rfl,by show (0:Int)<=0;omega,by show (0:Int)<=_;omega,by show (14*((0:Nat):Int))<=0;omega⟩ hr;rintro x y ⟨rfl,hI⟩;obtain ⟨i1,i2,i3⟩:=hI;unfold pR;by_cases hlt:y.2<(b.length:Int)
 ·have hrest:List.take ((b.length:Int).toNat-y.2.toNat) (b.drop y.2.toNat)=b.drop y.2.toNat:=by
   rw [List.take_of_length_le];rw [List.length_drop];omega
  simp only;rw [if_pos hlt,if_pos hlt,if_neg (by omega)];rw [hrest];have hnext:=MK ⟨i1,i2,i3⟩ hlt;generalize hB:b.drop y.2.toNat=B at *
  have hBb:Bytes B:=by rw [<-hB];exact hb.drop _
  have hBl:(B.length:Int)=(b.length:Int)-y.2:=by rw [<-hB,List.length_drop];omega
  refine Dn.join ((oV B y.1.length).1,((oV B y.1.length).2.2,(b,y.2+(oV B y.1.length).2.1))) ?_ ?_
  ·rw [if_pos (by omega)];have hn:y.1.length<1048576:=by omega
   generalize hN:y.1.length=n at *
   obtain ⟨r,hr',hrw⟩:=afc B n hBb (by omega) (by omega);refine iU hr' ?_;by_cases hw:Wrong B n
   ·rw [hrw.2 hw,MH (.inr hw),Int.add_zero];rfl
   have hrt:r=true:=by cases r with | true=>rfl | false=>exact (hw (hrw.1 rfl)).elim
   have hnw:¬(n>=1048576\/Wrong B n):=by rintro (h | h);omega;exact hw h
   rw [hrt];simp only [Bool.not_true,cond_false];by_cases h10:B.length<10
   ·rw [if_pos (by omega),yP hnw (by omega),Int.add_zero]
   rw [if_neg (by omega)];have hsz:=aoR hBb hw (by omega);have hs:=afd hBb;have x6:=hBb.getD 6;have x7:=hBb.getD 7;have g6:B[6]? = some (B.getD 6 0):=Gy 0 (by omega);have g7:B[7]? = some (B.getD 7 0):=Gy 0 (by omega);have g1:B[1]? = some (B.getD 1 0):=Gy 0 (by omega);rw [if_pos (by omega),g6,aB,if_pos (by omega),g7,aB,KU x6 x7,<-hs,aj (n:=10+((szB B:Nat):Int)) (by omega),aj (n:=10+((szB B:Nat):Int)+4) (by omega)];by_cases hlen:B.length<14+szB B
   ·rw [if_pos (by omega),yP hnw hlen,Int.add_zero]
   rw [if_neg (by omega),if_pos (by omega),show (10+((szB B:Nat):Int)).toNat=10+szB B from by omega];refine iU (Zx _ (hBb.take _) (by rw [List.length_take];omega)) ?_;have hcb:=Rl (B.take (10+szB B));generalize hC:crc (B.take (10+szB B))=C at *
   have hf:xQ [(C,4)]=be 4 C:=by simp only [xQ,List.flatMap_cons,List.flatMap_nil,List.append_nil];rfl
   refine kG (a:=be 4 C) (kG (a:=be 4 C) ?_ rfl) ?_
   ·have hloop:=fun β body h=>IL (β:=β) (body:=body) [(C,4)] 1 rfl (aii C) (by rw [hf,bP];omega) (by simp) [] (by simp) h;rw [hf,List.nil_append] at hloop;exact hloop _ _ (fun _=>rfl)
   have hbl:(ni (be 4 C)).length=4:=by rw [wO,bP]
   have e1:(10+((szB B:Nat):Int)+4).toNat-(10+szB B)=4:=by omega
   rw [if_pos (by omega),e1];by_cases hc:be 4 C=(B.drop (10+szB B)).take 4
   ·rw [Rq hnw hlen (by rw [hC];exact hc)];rw [if_neg (fun h=>h (by rw [hc]))];rw [if_pos (by omega)];have e2:10+szB B-10=szB B:=by omega
    have hdl:((B.drop 10).take (szB B)).length=szB B:=by rw [List.length_take,List.length_drop];omega
    have htt:List.take (szB B) (List.take (szB B) (B.drop 10))=List.take (szB B) (B.drop 10):=List.take_of_length_le (by omega);have hlay:zW (List.replicate (szB B) (0:Int)) 0 (List.take (szB B) (B.drop 10))=List.take (szB B) (B.drop 10):=ael (by rw [hdl,List.length_replicate]);rw [if_pos (by omega),Int.toNat_natCast,e2,List.length_replicate,if_pos (Nat.le_refl _),if_pos (by omega),g1,aB,htt,hlay,if_pos (by omega),htt,aj (by omega)];rw [show y.2+(10+((szB B:Nat):Int)+4)=y.2+((14+szB B:Nat):Int) from by omega]
   ·rw [MI hnw hlen (by rw [hC];exact hc),if_pos (fun h=>hc ((Xb (nR _ _) ((hBb.drop _).take _)).1 h)),Int.add_zero]
  ·obtain ⟨⟨⟨kd,d⟩,⟨sz,e⟩⟩,hO⟩:∃o,o=oV B y.1.length:=⟨_,rfl⟩
   rw [<-hO] at hnext ⊢;simp only at hnext ⊢;by_cases he:e≠0
   ·rw [if_pos he,if_pos he];have hz:sz=0:=by
     rcases MJ B y.1.length with ⟨_,q⟩ | ⟨q,_⟩
     ·rw [<-hO] at q;exact q
     ·rw [<-hO] at q;exact (he q).elim
    refine Dn.stop ?_;rw [hz,Int.add_zero];rfl
   ·rw [if_neg he,if_neg he];obtain ⟨k1,k2⟩:=hnext (Decidable.not_not.1 he);have k3:=k1.2.1;have k4:=k1.2.2;simp only at k3 k4;rw [if_pos (by omega)];exact Dn.next ⟨rfl,k1⟩
 ·simp only;rw [if_neg hlt,if_neg hlt];exact Dn.stop rfl
theorem ET (a b:List Int) (ha:a.length<=1000000) (hb:b.length<=1000000):jh (a,b)=some (a++b):=by
 unfold jh;simp only [aB,aK,aX,bC,aN,bD,bF,aO,List.take_length,Nat.le_refl,if_true,Nat.mul_one,Int.mul_one,cond_true,cond_false];rw [aj (by omega),if_pos (by omega)];have e:((a.length:Int)+(b.length:Int)).toNat=a.length+b.length:=by omega
 have h1:(List.take (a.length+b.length) a)=a:=List.take_of_length_le (by omega);have h2:(List.take (a.length+b.length-a.length) b)=b:=List.take_of_length_le (by omega);have h3:zW (List.replicate (a.length+b.length) (0:Int)) 0 a=a++List.replicate b.length 0:=by
  unfold zW;rw [List.take_zero,List.nil_append,Nat.zero_add,List.drop_replicate,show a.length+b.length-a.length=b.length from by omega]
 have h4:zW (a++List.replicate b.length (0:Int)) a.length b=a++b:=by
  unfold zW;rw [List.take_left,List.drop_of_length_le (by rw [List.length_append,List.length_replicate];omega),List.append_nil]
 rw [e,Int.toNat_natCast,h1,h2,h3,h4];rw [if_pos (by rw [List.length_replicate];omega),if_pos (by omega),if_pos (by rw [List.length_append,List.length_replicate];omega),if_pos (by rw [List.length_append];omega),List.take_of_length_le (by rw [List.length_append];omega)]
theorem abR (b:List Int) (hb:Bytes b) (hl:b.length<=1000000) {l:fV} {n e:Int} (hr:ay (pR b) ([],0)=some (l,(n,e))):kD b=some ((b.take n.toNat,(n,(l.length:Int))),l):=by
 unfold kD;obtain ⟨h1,h2,h3⟩:=U4 hr;simp only at h1 h2 h3;refine iU (amB b hb hl hr) ?_;simp only [aB,aK,aX,bC,aN,bD,bF,aO,List.take_length,Nat.le_refl,if_true,Nat.mul_one,Int.mul_one,cond_true,cond_false,Jl];rw [if_pos (by omega)];refine iU (ET _ _ (by rw [List.length_take];omega) (by simp)) ?_;rw [List.append_nil]
def iO:Nat->fV->List Int
 | _,[]=>[]
 | i,r::l=>jU i r.1 r.2++iO (i+1) l
def EU (r:Int×List Int):Prop:=(0<=r.1/\r.1<=255)/\Bytes r.2/\r.2.length<=4096
theorem fE (n k:Int) (d:List Int):(jU n k d).length=14+d.length:=by
 rw [jU,List.length_append,bP,jm];omega
theorem Xt {n k:Int} {d:List Int} (h:EU (k,d)):Bytes (jU n k d):=(Dt h.1 h.2.1).app (nR _ _)
theorem EW:∀(l:fV) (i:Nat),(∀r∈l,EU r)->Bytes (iO i l)
 | [],i,_=>fun x hx=>by cases hx
 | r::l,i,h=>(Xt (h r List.mem_cons_self)).app (EW l (i+1) fun r' h'=>h r' (List.mem_cons_of_mem _ h'))
theorem Ar {a b:List Int} {i:Nat} (h:i<a.length):(a++b).getD i 0=a.getD i 0:=by
 rw [List.getD_eq_getElem?_getD,List.getElem?_append_left h,<-List.getD_eq_getElem?_getD]
theorem abS {n k:Int} {d:List Int} {i:Nat} (hi:i<10):(preB n k d).getD i 0=(headB n k d.length).getD i 0:=Ar (by rw [lN];exact hi)
theorem PS {n k:Int} {d:List Int} {i:Nat} (hi:i<10):(jU n k d).getD i 0=(headB n k d.length).getD i 0:=by
 rw [jU,Ar (by rw [jm];omega),abS hi]
theorem aij (n k s:Int):(headB n k s).getD 1 0=k:=rfl
theorem aik (n k s:Int) {i:Nat} (h:i<6) (h1:i≠1):(headB n k s).getD i 0=(BZ n).getD i 0:=by
 unfold headB BZ
 match i,h,h1 with
 | 0,_,_=>rfl
 | 2,_,_=>rfl
 | 3,_,_=>rfl
 | 4,_,_=>rfl
 | 5,_,_=>rfl
theorem Ru (n k s:Int):(headB n k s).getD 6 0=s / 256 % 256:=rfl
theorem Rw (n k s:Int):(headB n k s).getD 7 0=s % 256:=rfl
theorem ail (n k s:Int):(headB n k s).getD 8 0=(65535-s) / 256 % 256:=rfl
theorem ain (n k s:Int):(headB n k s).getD 9 0=(65535-s) % 256:=rfl
theorem PU {b:List Int} {n k:Int} {s:Nat} (hs:s<=4096) (h:∀i,i<10->i<b.length->b.getD i 0=(headB n k s).getD i 0):¬Wrong b n:=by
 rintro (⟨h8,h1⟩ | ⟨i,hi,hb⟩)
 ·rw [h 6 (by omega) (by omega),h 7 (by omega) (by omega),Ru,Rw] at h1;omega
 ·obtain ⟨hl,hb⟩:=hb;rcases hb with ⟨h6,h1,hne⟩ | ⟨rfl,hne⟩ | ⟨rfl,hne⟩
  ·exact hne (by rw [h i hi hl,aik n k s h6 h1])
  ·rw [h 8 (by omega) hl,h 6 (by omega) (by omega),ail,Ru] at hne;omega
  ·rw [h 9 (by omega) hl,h 7 (by omega) (by omega),ain,Rw] at hne;omega
theorem Zz {b:List Int} {n k:Int} {s:Nat} (hs:s<=4096) (hl:10<=b.length) (h:∀i,i<10->i<b.length->b.getD i 0=(headB n k s).getD i 0):szB b=s:=by
 unfold szB;rw [h 6 (by omega) (by omega),h 7 (by omega) (by omega),Ru,Rw];omega
theorem afe {n:Nat} {k:Int} {d rest:List Int} (hn:n<1048576) (h:EU (k,d)):oV (jU n k d++rest) n=((k,d),(((14+d.length:Nat):Int),0)):=by
 obtain ⟨hk,hd,hl⟩:=h;have hg:∀i,i<10->i<(jU n k d++rest).length->(jU n k d++rest).getD i 0=(headB n k d.length).getD i 0:=fun i hi _=>by rw [Ar (by rw [fE];omega),PS hi]
 have hl':d.length<=4096:=hl;have hlen:(jU n k d++rest).length=14+d.length+rest.length:=by rw [List.length_append,fE]
 have hw:=PU hl' hg;have hs:=Zz hl' (by omega) hg;have hnw:¬(n>=1048576\/Wrong (jU n k d++rest) n):=by rintro (h | h);omega;exact hw h
 have e1:(jU n k d++rest).take (10+d.length)=preB n k d:=by
  rw [jU,List.append_assoc,List.take_append_of_le_length (by rw [jm];omega),List.take_of_length_le (by rw [jm];omega)]
 have e2:((jU n k d++rest).drop (10+d.length)).take 4=be 4 (crc (preB n k d)):=by
  rw [jU,List.append_assoc,List.drop_append_of_le_length (by rw [jm];omega),List.drop_of_length_le (by rw [jm];omega),List.nil_append,List.take_append_of_le_length (by rw [bP];omega),List.take_of_length_le (by rw [bP];omega)]
 have e3:((jU n k d++rest).drop 10).take d.length=d:=by
  rw [jU,preB,List.append_assoc,List.append_assoc,List.drop_append_of_le_length (by rw [lN];omega),List.drop_of_length_le (by rw [lN];omega),List.nil_append,List.take_append_of_le_length (by omega),List.take_length]
 rw [Rq hnw (by rw [hs];omega) (by rw [hs,e1,e2]),hs,e3,hg 1 (by omega) (by omega),aij]
theorem abT {n:Nat} {k:Int} {d:List Int} (hn:n<1048576) (h:EU (k,d)) {c:Nat} (hc:c<14+d.length):oV ((jU n k d).take c) n=((0,[]),(0,6)):=by
 obtain ⟨hk,hd,hl⟩:=h;have hl':d.length<=4096:=hl;have hlen:((jU n k d).take c).length=c:=by rw [List.length_take,fE];omega
 have hg:∀i,i<10->i<((jU n k d).take c).length->((jU n k d).take c).getD i 0=(headB n k d.length).getD i 0:=fun i hi h=>by rw [getD_take (by omega),PS hi]
 have hw:=PU hl' hg;have hnw:¬(n>=1048576\/Wrong ((jU n k d).take c) n):=by rintro (h | h);omega;exact hw h
 refine yP hnw ?_;by_cases h10:10<=c
 ·rw [Zz hl' (by omega) hg];omega
 ·omega
def cnt:fV->Nat->Nat
 | [],_=>0
 | r::l,c=>if 14+r.2.length<=c then 1+cnt l (c-(14+r.2.length)) else 0
def xR:fV->Nat->Nat
 | [],_=>0
 | r::l,c=>if 14+r.2.length<=c then 14+r.2.length+xR l (c-(14+r.2.length)) else 0
theorem cnt_le:∀(l:fV) (c:Nat),cnt l c<=l.length
 | [],c=>Nat.le_refl 0
 | r::l,c=>by
   rw [cnt];split
   ·have:=cnt_le l (c-(14+r.2.length));rw [List.length_cons];omega
   ·omega
theorem ZA:∀(l:fV) (c:Nat),xR l c<=c
 | [],c=>Nat.zero_le c
 | r::l,c=>by
   rw [xR];split
   ·have:=ZA l (c-(14+r.2.length));omega
   ·omega
theorem PV {b:List Int} {recs:fV} {a:Nat} (h:b.length<=a):pR b (recs,(a:Int))=some (.inr (recs,((a:Int),0))):=by
 unfold pR;simp only;rw [if_neg (by omega)]
theorem Xu {b:List Int} {recs:fV} {a:Nat} {r:Int×List Int} {sz:Int} (h:a<b.length) (ho:oV (b.drop a) recs.length=(r,(sz,0))):pR b (recs,(a:Int))=some (.inl (recs++[r],(a:Int)+sz)):=by
 unfold pR;simp only [Int.toNat_natCast];rw [if_pos (by omega),ho,if_neg (by simp)]
theorem abU {b:List Int} {recs:fV} {a:Nat} {r:Int×List Int} {sz e:Int} (h:a<b.length) (ho:oV (b.drop a) recs.length=(r,(sz,e))) (he:e≠0):pR b (recs,(a:Int))=some (.inr (recs,((a:Int),e))):=by
 unfold pR;simp only [Int.toNat_natCast];rw [if_pos (by omega),ho,if_pos he]
theorem U5:∀(l:fV) (b:List Int) (recs:fV) (at_ c:Nat),(∀r∈l,EU r)->b.drop at_=(iO recs.length l).take c->at_<=b.length->c<=(iO recs.length l).length->recs.length+l.length<=1048576 ->
 ay (pR b) (recs,(at_:Int))=some (recs++l.take (cnt l c),(((at_+xR l c:Nat):Int),if xR l c=c then 0 else 6))
 | [],b,recs,at_,c,_,hb,ha,hc,_=>by
   rw [dR];have h0:b.length-at_=0:=by
    have:=congrArg List.length hb;rw [List.length_drop] at this;rw [this];simp [iO]
   have hc0:c=0:=by simpa [iO] using hc
   subst hc0;rw [PV (by omega)];simp [cnt,xR]
 | r::l,b,recs,at_,c,hok,hb,ha,hc,hn=>by
   obtain ⟨k,d⟩:=r;have hr:=hok (k,d) List.mem_cons_self;rw [List.length_cons] at hn;have hE:iO recs.length ((k,d)::l)=jU recs.length k d++iO (recs.length+1) l:=rfl;have hEl:(iO recs.length ((k,d)::l)).length=14+d.length+(iO (recs.length+1) l).length:=by rw [hE,List.length_append,fE]
   have hbl:b.length=at_+c:=by
    have:=congrArg List.length hb;rw [List.length_drop,List.length_take] at this;omega
   rw [dR];by_cases hc0:c=0
   ·subst hc0;rw [PV (by omega)];rw [cnt,xR,if_neg (by simp only;omega),if_neg (by simp only;omega)];simp
   by_cases hfull:14+d.length<=c
   ·have hsplit:(iO recs.length ((k,d)::l)).take c=jU recs.length k d++(iO (recs.length+1) l).take (c-(14+d.length)):=by
     rw [hE,List.take_append,fE,List.take_of_length_le (by rw [fE];omega)]
    rw [Xu (by omega) (by rw [hb,hsplit];exact afe (by omega) hr)];simp only;have ih:=U5 l b (recs++[(k,d)]) (at_+(14+d.length)) (c-(14+d.length)) (fun r h=>hok r (List.mem_cons_of_mem _ h)) (by
     rw [<-List.drop_drop,hb,hsplit,List.drop_append_of_le_length (by rw [fE];omega),List.drop_of_length_le (by rw [fE];omega),List.nil_append,List.length_append];rfl) (by omega) (by rw [List.length_append];show _<=(iO (recs.length+1) l).length;omega) (by rw [List.length_append];show recs.length+1+l.length<=_;omega)
    rw [show ((at_:Int)+((14+d.length:Nat):Int))=((at_+(14+d.length):Nat):Int) from by omega,ih,cnt,xR,if_pos hfull,if_pos hfull];rw [Nat.add_comm 1,List.take_succ_cons,List.append_assoc];congr 2;have:(xR l (c-(14+d.length))=c-(14+d.length))↔(14+d.length+xR l (c-(14+d.length))=c):=by omega
    simp only [this];rw [show at_+(14+d.length)+xR l (c-(14+d.length))=at_+(14+d.length+xR l (c-(14+d.length))) from by omega]
   ·have hsplit:(iO recs.length ((k,d)::l)).take c=(jU recs.length k d).take c:=by
     rw [hE,List.take_append_of_le_length (by rw [fE];omega)]
    rw [abU (e:=6) (by omega) ((congrArg (fun z=>oV z recs.length) (hb.trans hsplit)).trans (abT (by omega) hr (by omega))) (by decide)];rw [cnt,xR,if_neg hfull,if_neg hfull,if_neg (by omega)];simp
def aoS (r:Int×List Int):Prop:=(0<=r.1/\r.1<=255)/\Bytes r.2/\r.2.length<=200
theorem aoS.ok {r:Int×List Int} (h:aoS r):EU r:=⟨h.1,h.2.1,by have:=h.2.2;omega⟩
theorem Jp (b:List Int) (s c:Int):gB (b,(s,c))=some (decide (0<=s/\s<=(b.length:Int)/\0<=c/\c<=1048576)):=by
 unfold gB;simp only [aB,aK,aX,bC,aN,bD,bF,aO,List.take_length,Nat.le_refl,if_true,Nat.mul_one,Int.mul_one,cond_true,cond_false];by_cases h1:s>=0
 ·by_cases h2:s<=(b.length:Int)
  ·by_cases h3:c>=0
   ·rw [if_pos h1,if_pos h2,if_pos h3];congr 1;rw [decide_eq_decide];omega
   ·rw [if_pos h1,if_pos h2,if_neg h3,decide_eq_false (by omega)]
  ·rw [if_pos h1,if_neg h2,decide_eq_false (by omega)]
 ·rw [if_neg h1,decide_eq_false (by omega)]
theorem aff (b:List Int) (s c k:Int) (d:List Int) (hb:b.length<=900000) (hs:0<=s/\s<=(b.length:Int)) (hc:0<=c/\c<1048576) (hr:EU (k,d)):kX ((b,(s,c)),(k,d))=some ((b++jU c k d,(s,c+1)),0):=by
 unfold kX;refine iU (Jp b s c) ?_;rw [decide_eq_true (by omega)];simp only [aB,aK,aX,bC,aN,bD,bF,aO,List.take_length,Nat.le_refl,if_true,Nat.mul_one,Int.mul_one,cond_true,cond_false,Bool.not_true];rw [if_neg (by omega)];have he:encS c k d=(jU c k d,0):=by
  have:=hr.2.2;simp only at this;unfold encS;rw [if_neg (by omega),if_neg (by omega),if_neg (by omega)]
 refine iU ((afb c k d (by omega) hr.1 hr.2.1).trans (congrArg some he)) ?_;simp only [ne_eq,not_true_eq_false,if_false];have:=hr.2.2;simp only at this;refine iU (ET _ _ (by omega) (by rw [fE];omega)) ?_;rw [aj (by omega)]
def sO:fV->Nat
 | []=>0
 | r::l=>14+r.2.length+sO l
theorem rM:∀(l:fV) (i:Nat),(iO i l).length=sO l
 | [],i=>rfl
 | r::l,i=>by rw [iO,List.length_append,fE,rM l,sO]
theorem wP:∀(a b:fV) (i:Nat),iO i (a++b)=iO i a++iO (i+a.length) b
 | [],b,i=>rfl
 | r::a,b,i=>by
   show jU i r.1 r.2++iO (i+1) (a++b)=jU i r.1 r.2++iO (i+1) a++iO (i+(a.length+1)) b;rw [wP a b (i+1),List.append_assoc,show i+1+a.length=i+(a.length+1) from by omega]
theorem Au:∀(a b:fV),sO (a++b)=sO a+sO b
 | [],b=>by simp [sO]
 | r::a,b=>by rw [List.cons_append,sO,sO,Au a b];omega
theorem PY (l:fV) {i j:Nat} (h:i<=j):sO (l.take i)<=sO (l.take j):=by
 have:l.take j=l.take i++(l.drop i).take (j-i):=by rw [<-List.take_add];congr 1;omega
 rw [this,Au];omega
theorem ML:∀(l:fV) (c:Nat),sO (l.take (cnt l c))=xR l c/\(cnt l c<l.length->c<sO (l.take (cnt l c+1)))
 | [],c=>⟨rfl,fun h=>by cases h⟩
 | r::l,c=>by
   obtain ⟨h1,h2⟩:=ML l (c-(14+r.2.length));rw [cnt,xR];split
   ·rename_i h;rw [Nat.add_comm 1,List.take_succ_cons,sO,h1];refine ⟨rfl,fun h3 => ?_⟩;rw [List.take_succ_cons,sO];have:=h2 (by rw [List.length_cons] at h3;omega);omega
   ·rename_i h;refine ⟨rfl,fun _ => ?_⟩;rw [List.take_succ_cons,List.take_zero,sO,sO];omega
end Go.Proofs.Ytkpijdndakljjaa.Jn
end
