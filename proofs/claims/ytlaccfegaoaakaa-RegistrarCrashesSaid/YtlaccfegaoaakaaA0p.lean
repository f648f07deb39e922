import Derived.Test.YtlaccfegaoaakaaB5p
import Derived.Test.YtlaccfegaoaakaaB4p
import Derived.Test.YtlaccfegaoaakaaXBp
set_option linter.unusedSectionVars false
set_option linter.unusedSimpArgs false
set_option linter.unusedVariables false
set_option maxRecDepth 100000
set_option maxHeartbeats 4000000
namespace Go.Proofs.Ytlaccfegaoaakaa
open Go.RowKit
section
variable {V:Bnd→Prop} {c:Bnd→Bnd→Int} (hc:∀x y,V x→V y→registrar_Lookup_1 (x,y)=some (c x y)) (W:Weak V (fun x y=>c x y<0))
include hc W
theorem st_first {δ:Type} (L0:List Bnd) (hL:L0.length≤200) (hV:∀y∈L0,V y):∀(k:Nat) (Ls:List (List Bnd)) (T:List Bnd),T.length≤k→Full (fun x y=>c x y<0) 20 Ls→(Ls.flatten++T).Perm L0 →
 ∃Ls' T' b',loopO (stA (δ:=δ) L0 (L0.length:Int)) ((Ls.flatten.length:Int)+20,((Ls.flatten.length:Int),Ls.flatten++T))=some (.inl (b',((Ls'.flatten.length:Int),Ls'.flatten++T')))∧Full (fun x y=>c x y<0) 20 Ls'∧(Ls'.flatten++T').Perm L0∧T'.length<20
 | k,Ls,T,hk,hF,hp=>by
   have hl:=hp.length_eq
   have hlen:=hl
   rw [List.length_append] at hlen
   have hmem:∀y∈Ls.flatten++T,V y:=fun y hy=>hV y (hp.mem_iff.1 hy)
   by_cases h20:20≤T.length
   ·cases k with
    | zero=>omega
    | succ k =>
      obtain ⟨X,B,hT,lX⟩:=split_at T (k:=20) h20
      have lT:T.length=20+B.length:=by rw [hT,List.length_append,lX]
      have hd:Ls.flatten++T=Ls.flatten++X++B:=by rw [hT];simp
      obtain ⟨Z,q1,q2,q3⟩:=ins_spec hc W Ls.flatten X B (by rintro rfl;simp at lX) (by rw [←hd,hl];omega) (by rw [←hd];exact hmem) (a:=(Ls.flatten.length:Int)) (b:=(Ls.flatten.length:Int)+20) rfl (by omega)
      have lZ:Z.length=20:=by rw [q2.length_eq,lX]
      have hfl:(Ls++[Z]).flatten=Ls.flatten++Z:=by simp
      have hstep:stA (δ:=δ) L0 (L0.length:Int) ((Ls.flatten.length:Int)+20,((Ls.flatten.length:Int),Ls.flatten++T))=some (.inl (((Ls++[Z]).flatten.length:Int)+20,(((Ls++[Z]).flatten.length:Int),(Ls++[Z]).flatten++B))):=by
       have e1:((Ls++[Z]).flatten.length:Int)=(Ls.flatten.length:Int)+20:=by rw [hfl,List.length_append];omega
       have hll:(Ls.flatten++X++B).length=L0.length:=by rw [←hd];exact hl
       rw [e1,hfl,hd]
       unfold stA
       simp (disch:=(first | omega | (simp only [LNl];omega))) only [↓SDl,SDr,if_pos,if_neg,wrap_i64',q1,hll]
      obtain ⟨Ls',T',b',r1,r2,r3,r4⟩:=st_first L0 hL hV k (Ls++[Z]) B (by omega) (fun x hx=>by
       rcases List.mem_append.1 hx with g | g
       ·exact hF x g
       ·rw [List.mem_singleton.1 g];exact ⟨lZ,q3⟩) (by
       rw [hfl]
       refine List.Perm.trans ?_ hp
       rw [hd]
       exact List.Perm.append_right B (List.Perm.append_left _ q2))
      exact ⟨Ls',T',b',by rw [loopO_eq,hstep];exact r1,r2,r3,r4⟩
   ·refine ⟨Ls,T,(Ls.flatten.length:Int)+20,?_,hF,hp,by omega⟩
    rw [loopO_eq]
    have hstep:stA (δ:=δ) L0 (L0.length:Int) ((Ls.flatten.length:Int)+20,((Ls.flatten.length:Int),Ls.flatten++T))=some (.inr (.inl ((Ls.flatten.length:Int)+20,((Ls.flatten.length:Int),Ls.flatten++T)))):=by
     unfold stA
     simp (disch:=(first | omega | (simp only [LNl];omega))) only [↓SDl,SDr,if_pos,if_neg]
    rw [hstep]
theorem ins_any (A X:List Bnd) (hl:(A++X).length≤1000000) (hV:∀y∈A++X,V y):∃Z,slices_insertionSortCmpFunc_api_Binding (A++X,((A.length:Int),((A++X).length:Int)))=some (A++Z)∧Z.Perm X∧Srt (fun x y=>c x y<0) Z:=by
 cases X with
 | nil =>
   refine ⟨[],?_,List.Perm.refl _,List.Pairwise.nil⟩
   rw [List.append_nil] at hl ⊢
   rw [is_eq,loopO_eq]
   have e1:IntKind.wrap .i64 ((A.length:Int)+1)=(A.length:Int)+1:=wrap_i64' (by omega)
   have hstep:isO A (A.length:Int) (A.length:Int) ((A.length:Int)+1,A)=some (.inr A):=by
    unfold isO
    simp (disch:=(first | omega | (simp only [LNl];omega))) only [↓SDl,SDr,if_neg]
   rw [e1,hstep]
 | cons x T =>
   obtain ⟨Z,q1,q2,q3⟩:=ins_spec hc W A (x::T) [] (by simp) (by rw [List.append_nil];exact hl) (by rw [List.append_nil];exact hV) (a:=(A.length:Int)) (b:=((A++(x::T)).length:Int)) rfl (by rw [List.length_append])
   rw [List.append_nil,List.append_nil] at q1
   exact ⟨Z,q1,q2,q3⟩
theorem st_pass {δ:Type} (L0:List Bnd) (hL:L0.length≤200) (hV:∀y∈L0,V y) (s:Nat) (hs:0<s) (hs2:s≤400):∀(k:Nat) (Zs Ts:List (List Bnd)),Ts.length≤k→Full (fun x y=>c x y<0) (2*s) Zs→Ch (fun x y=>c x y<0) s Ts→(Zs.flatten++Ts.flatten).Perm L0 →
 ∃Zs' R b',loopO (stB (δ:=δ) L0 (L0.length:Int) (s:Int)) ((Zs.flatten.length:Int)+2*(s:Int),((Zs.flatten.length:Int),Zs.flatten++Ts.flatten))=some (.inl (b',((Zs'.flatten.length:Int),Zs'.flatten++R.flatten)))∧Full (fun x y=>c x y<0) (2*s) Zs'∧Ch (fun x y=>c x y<0) s R∧(Zs'.flatten++R.flatten).Perm L0∧R.flatten.length<2*s
 | k,Zs,Ts,hk,hF,hT,hp=>by
   have hl:=hp.length_eq
   have hlen:=hl
   rw [List.length_append] at hlen
   have hmem:∀y∈Zs.flatten++Ts.flatten,V y:=fun y hy=>hV y (hp.mem_iff.1 hy)
   by_cases h2:2*s≤Ts.flatten.length
   · -- two blocks
     match Ts,hT,k with
     | [],_,_=>simp at h2;omega
     | [x],hT,_=>have:=hT.2.1;simp at h2;omega
     | x::y::r,hT,0=>simp at hk
     | x::y::r,hT,k+1 =>
       have lx:=hT.1
       have hy:y.length=s∧Srt (fun x y=>c x y<0) y∧Ch (fun x y=>c x y<0) s r:=by
        cases r with
        | nil =>
          have h1:=hT.2.2
          refine ⟨?_,h1.2.2,trivial⟩
          have:=h1.2.1
          simp at h2
          omega
        | cons z r=>exact hT.2.2
       have lfl:(x::y::r).flatten.length=x.length+(y.length+r.flatten.length):=by rw [List.flatten_cons,List.flatten_cons,List.length_append,List.length_append]
       have hd:Zs.flatten++(x::y::r).flatten=Zs.flatten++x++y++r.flatten:=by simp
       obtain ⟨Z,q1,q2,q3⟩:=sm_spec hc W 200 Zs.flatten x y r.flatten (by omega) (by rintro rfl;simp at lx;omega) (by rintro rfl;have:=hy.1;simp at this;omega) (by rw [←hd,hl];omega) (by rw [←hd];exact hmem) hT.2.1 hy.2.1 (a:=(Zs.flatten.length:Int)) (m:=(Zs.flatten.length:Int)+(s:Int)) (b:=(Zs.flatten.length:Int)+2*(s:Int)) rfl (by omega) (by omega)
       have q1':slices_symMergeCmpFunc_api_Binding (Zs.flatten++x++y++r.flatten,((Zs.flatten.length:Int),((Zs.flatten.length:Int)+(s:Int),((Zs.flatten.length:Int)+2*(s:Int)))))=some (Zs.flatten++Z++r.flatten):=q1
       have lZ:Z.length=2*s:=by rw [q2.length_eq,List.length_append];omega
       have hfl:(Zs++[Z]).flatten=Zs.flatten++Z:=by simp
       have hstep:stB (δ:=δ) L0 (L0.length:Int) (s:Int) ((Zs.flatten.length:Int)+2*(s:Int),((Zs.flatten.length:Int),Zs.flatten++(x::y::r).flatten))=some (.inl (((Zs++[Z]).flatten.length:Int)+2*(s:Int),(((Zs++[Z]).flatten.length:Int),(Zs++[Z]).flatten++r.flatten))):=by
        have e1:((Zs++[Z]).flatten.length:Int)=(Zs.flatten.length:Int)+2*(s:Int):=by rw [hfl,List.length_append];omega
        have hll:(Zs.flatten++x++y++r.flatten).length=L0.length:=by rw [←hd];exact hl
        have e2:IntKind.wrap .i64 (2*(s:Int))=2*(s:Int):=wrap_i64' (by omega)
        rw [e1,hfl,hd]
        unfold stB
        simp (disch:=(first | omega | (simp only [LNl];omega))) only [↓SDl,SDr,if_pos,if_neg,wrap_i64',e2,q1',hll]
       obtain ⟨Zs',R,b',r1,r2,r3,r4,r5⟩:=st_pass L0 hL hV s hs hs2 k (Zs++[Z]) r (by simp at hk;omega) (fun w hw=>by
        rcases List.mem_append.1 hw with g | g
        ·exact hF w g
        ·rw [List.mem_singleton.1 g];exact ⟨lZ,q3⟩) hy.2.2 (by
        rw [hfl]
        refine List.Perm.trans ?_ hp
        rw [hd,List.append_assoc Zs.flatten x y]
        exact List.Perm.append_right _ (List.Perm.append_left _ q2))
       exact ⟨Zs',R,b',by rw [loopO_eq,hstep];exact r1,r2,r3,r4,r5⟩
   ·refine ⟨Zs,Ts,(Zs.flatten.length:Int)+2*(s:Int),?_,hF,hT,hp,by omega⟩
    rw [loopO_eq]
    have hstep:stB (δ:=δ) L0 (L0.length:Int) (s:Int) ((Zs.flatten.length:Int)+2*(s:Int),((Zs.flatten.length:Int),Zs.flatten++Ts.flatten))=some (.inr (.inl ((Zs.flatten.length:Int)+2*(s:Int),((Zs.flatten.length:Int),Zs.flatten++Ts.flatten)))):=by
     unfold stB
     simp (disch:=(first | omega | (simp only [LNl];omega))) only [↓SDl,SDr,if_pos,if_neg]
    rw [hstep]
theorem st_outer (L0:List Bnd) (hL:L0.length≤200) (hV:∀y∈L0,V y):∀(k s:Nat) (Ls:List (List Bnd)) (v14 v15:Int),L0.length-s≤k→0<s→s≤400→Ch (fun x y=>c x y<0) s Ls→Ls.flatten.Perm L0 →
 ∃Z,loopO (stC L0 (L0.length:Int)) ((s:Int),(v14,(v15,Ls.flatten)))=some Z∧Z.Perm L0∧Srt (fun x y=>c x y<0) Z
 | k,s,Ls,v14,v15,hk,hs,hs2,hC,hp=>by
   by_cases hlt:s<L0.length
   ·cases k with
    | zero=>omega
    | succ k =>
      obtain ⟨Zs',R,b',q1,q2,q3,q4,q5⟩:=st_pass hc W (δ:=(Int×(Int×(Int×List Bnd))) ⊕ List Bnd) L0 hL hV s hs hs2 Ls.length [] Ls (Nat.le_refl _) (fun x hx=>by cases hx) hC (by simpa using hp)
      have hl:=q4.length_eq
      have hlen:=hl
      rw [List.length_append] at hlen
      have e0:IntKind.wrap .i64 (2*(s:Int))=2*(s:Int):=wrap_i64' (by omega)
      have e1:IntKind.wrap .i64 ((s:Int)*2)=((2*s:Nat):Int):=by rw [wrap_i64' (by omega)];omega
      have q1':loopO (stB (δ:=(Int×(Int×(Int×List Bnd))) ⊕ List Bnd) L0 (L0.length:Int) (s:Int)) (2*(s:Int),((0:Int),Ls.flatten))=some (.inl (b',((Zs'.flatten.length:Int),Zs'.flatten++R.flatten))):=by
       have:=q1
       simp only [List.flatten_nil,List.length_nil,List.nil_append] at this
       rw [show ((0:Nat):Int)+2*(s:Int)=2*(s:Int) by omega] at this
       exact this
      have hmem:∀y∈Zs'.flatten++R.flatten,V y:=fun y hy=>hV y (q4.mem_iff.1 hy)
      -- what is left
      have rest:∃Ls',Ch (fun x y=>c x y<0) (2*s) Ls'∧Ls'.flatten.Perm L0∧stC L0 (L0.length:Int) ((s:Int),(v14,(v15,Ls.flatten)))=some (.inl (((2*s:Nat):Int),(b',((Zs'.flatten.length:Int),Ls'.flatten)))):=by
       by_cases hm:s<R.flatten.length
       ·match R,q3,q5,hm with
        | [],_,_,hm=>simp at hm
        | [x],q3,_,hm=>have:=q3.2.1;simp at hm;omega
        | x::y::z::r,q3,q5,hm =>
          have:=q3.1
          have:=q3.2.2.1
          rw [List.flatten_cons,List.flatten_cons,List.length_append,List.length_append] at q5
          omega
        | [x,y],q3,q5,hm =>
          have lx:=q3.1
          have hy:=q3.2.2
          have lfl:[x,y].flatten.length=x.length+y.length:=by simp
          have hd:Zs'.flatten++[x,y].flatten=Zs'.flatten++x++y++[]:=by simp
          obtain ⟨Z,p1,p2,p3⟩:=sm_spec hc W 200 Zs'.flatten x y [] (by omega) (by rintro rfl;simp at lx;omega) (by rintro rfl;have:=hy.1;simp at this) (by rw [←hd,hl];omega) (by rw [←hd];exact hmem) q3.2.1 hy.2.2 (a:=(Zs'.flatten.length:Int)) (m:=(Zs'.flatten.length:Int)+(s:Int)) (b:=(L0.length:Int)) rfl (by omega) (by omega)
          have p1':slices_symMergeCmpFunc_api_Binding (Zs'.flatten++[x,y].flatten,((Zs'.flatten.length:Int),((Zs'.flatten.length:Int)+(s:Int),((L0.length:Int)))))=some (Zs'.flatten++Z):=by
           rw [hd,←List.append_nil (Zs'.flatten++Z)];exact p1
          have lZ:Z.length=x.length+y.length:=by rw [p2.length_eq,List.length_append]
          have hy0:=hy.1
          have hfl:(Zs'++[Z]).flatten=Zs'.flatten++Z:=by simp
          refine ⟨Zs'++[Z],full_ch (by omega) q2 (by omega) (by omega) p3,?_,?_⟩
          ·rw [hfl]
           refine List.Perm.trans ?_ q4
           rw [show [x,y].flatten=x++y by simp]
           exact List.Perm.append_left _ p2
          ·unfold stC
           simp (disch:=(first | omega | (simp only [LNl];omega))) only [↓SDl,SDr,if_pos]
           rw [e0]
           refine joinO_eq q1' ?_
           simp (disch:=(first | omega | (simp only [LNl];omega))) only [↓SDl,SDr,if_pos,wrap_i64',e1,p1',hl,hfl]
       ·have hR:Srt (fun x y=>c x y<0) R.flatten:=ch_one hs q3 (by omega)
        by_cases h0:R.flatten=[]
        ·refine ⟨Zs',full_ch0 (by omega) q2,by rw [h0,List.append_nil] at q4;exact q4,?_⟩
         have l0:R.flatten.length=0:=by rw [h0];rfl
         unfold stC
         simp (disch:=(first | omega | (simp only [LNl];omega))) only [↓SDl,SDr,if_pos]
         rw [e0]
         refine joinO_eq q1' ?_
         simp (disch:=(first | omega | (simp only [LNl];omega))) only [↓SDl,SDr,if_neg,wrap_i64',e1,h0,List.append_nil]
        ·have lR:0<R.flatten.length:=List.length_pos_iff.2 h0
         refine ⟨Zs'++[R.flatten],full_ch (by omega) q2 lR (by omega) hR,by simpa using q4,?_⟩
         unfold stC
         simp (disch:=(first | omega | (simp only [LNl];omega))) only [↓SDl,SDr,if_pos]
         rw [e0]
         refine joinO_eq q1' ?_
         have hfl:(Zs'++[R.flatten]).flatten=Zs'.flatten++R.flatten:=by simp
         simp (disch:=(first | omega | (simp only [LNl];omega))) only [↓SDl,SDr,if_neg,wrap_i64',e1,hfl]
      obtain ⟨Ls',p1,p2,p3⟩:=rest
      obtain ⟨Z,r1,r2,r3⟩:=st_outer L0 hL hV k (2*s) Ls' b' (Zs'.flatten.length:Int) (by omega) (by omega) (by omega) p1 p2
      exact ⟨Z,by rw [loopO_eq,p3];exact r1,r2,r3⟩
   ·refine ⟨Ls.flatten,?_,hp,ch_one hs hC (by have:=hp.length_eq;omega)⟩
    rw [loopO_eq]
    have hstep:stC L0 (L0.length:Int) ((s:Int),(v14,(v15,Ls.flatten)))=some (.inr Ls.flatten):=by
     unfold stC
     simp (disch:=(first | omega | (simp only [LNl];omega))) only [↓SDl,SDr,if_neg]
    rw [hstep]
theorem sort_spec (L:List Bnd) (hL:L.length≤200) (hV:∀y∈L,V y):∃Z,slices_SortStableFunc___api_Binding_api_Binding L=some Z∧Z.Perm L∧Srt (fun x y=>c x y<0) Z:=by
 unfold slices_SortStableFunc___api_Binding_api_Binding
 simp (disch:=(first | omega | (simp only [LNl];omega))) only [↓SDl,SDr,if_pos]
 rw [st_eq]
 obtain ⟨Ls,T,b',q1,q2,q3,q4⟩:=st_first hc W (δ:=List Bnd) L hL hV L.length [] L (Nat.le_refl _) (fun x hx=>by cases hx) (by simp)
 have q1':loopO (stA (δ:=List Bnd) L (L.length:Int)) ((20:Int),((0:Int),L))=some (.inl (b',((Ls.flatten.length:Int),Ls.flatten++T))):=q1
 have hl:=q3.length_eq
 obtain ⟨Z,r1,r2,r3⟩:=ins_any hc W Ls.flatten T (by rw [hl];omega) (fun y hy=>hV y (q3.mem_iff.1 hy))
 rw [hl] at r1
 have lZ:=r2.length_eq
 have hch:∃Ls2,Ch (fun x y=>c x y<0) 20 Ls2∧Ls2.flatten=Ls.flatten++Z:=by
  by_cases h0:Z=[]
  ·exact ⟨Ls,full_ch0 (by omega) q2,by rw [h0,List.append_nil]⟩
  ·exact ⟨Ls++[Z],full_ch (by omega) q2 (List.length_pos_iff.2 h0) (by omega) r3,by simp⟩
 obtain ⟨Ls2,h1,h2⟩:=hch
 have hp2:Ls2.flatten.Perm L:=by rw [h2];exact (List.Perm.append_left _ r2).trans q3
 obtain ⟨Z2,s1,s2,s3⟩:=st_outer hc W L hL hV L.length 20 Ls2 b' (Ls.flatten.length:Int) (by omega) (by omega) (by omega) h1 hp2
 refine ⟨Z2,?_,s2,s3⟩
 have key:(joinO (loopO (stA (δ:=List Bnd) L (L.length:Int)) ((20:Int),((0:Int),L))) fun x =>
 bindO (slices_insertionSortCmpFunc_api_Binding (x.2.2,(x.2.1,((L.length:Int))))) fun x12=>loopO (stC L (L.length:Int)) ((20:Int),(x.1,(x.2.1,x12))))=some Z2:=by
  rw [q1',joinO_inl]
  simp only
  rw [r1,bindO_some,←h2]
  exact s1
 rw [q1'] at key ⊢
 rw [joinO_inl] at key ⊢
 simp (disch:=(first | omega | (simp only [LNl];omega))) only [↓SDl,SDr,if_pos,hl]
 rw [show ∀o:Option (List Bnd),(bindO o fun x3=>some x3)=o from fun o=>by cases o<;>rfl]
 exact key
end
end Go.Proofs.Ytlaccfegaoaakaa

namespace Go.Proofs.Ytlaccfegaoaakaa
open Go.RowKit
set_option maxHeartbeats 4000000
set_option maxRecDepth 10000
theorem clone0_66:DoesO Try.prog (fun _=>none) 66 [.d (.dl [] 0 none)] [] (.sl 1 0 0 none) [(1,.data 5 1 [] true)]:=by
 refine does_p KK (fn:=Try.f66) Try.func66 rfl (by show 1≤_;decide) ?_
 intro C F p hC hF hp
 have e1:p.emp []=true:=by rw [hp];rfl
 conv=>cbv
 simp only [e1]
 conv=>cbv
 refine ⟨back_nilrow,?_⟩
 conv=>cbv
 have ez1:(p.len [])=0:=by rw [hp];rfl
 simp only [ez1];clear ez1
 conv=>cbv
 have ez2:(p.nm 0 1)=0:=by rw [hp];rfl
 simp only [ez2];clear ez2
 conv=>cbv
 have e3:(p.neq 0 0)=true:=p_neq hp (by omega)
 simp only [e3];clear e3
 conv=>cbv
 have e4:(p.neq 0 0)=true:=p_neq hp (by omega)
 simp only [e4];clear e4
 conv=>cbv
 have e5:(p.fit 0 0 1)=true:=p_fit hp (by omega) (by show _≤9223372036854775807;omega)
 simp only [e5];clear e5
 conv=>cbv
 have ez6:(p.na 0 0)=0:=by rw [hp];rfl
 simp only [ez6];clear ez6
 conv=>cbv
 have ez7:(p.app [] [])=[]:=by rw [p_app hp];rfl
 simp only [ez7];clear ez7
 conv=>cbv
 exact back_obj [(1,1302)] rfl rfl ⟨⟨rfl,rfl,rfl⟩,trivial⟩ rfl rfl
def cloneC66:ConK:=fun f args rd=>bif f==66 then (fun k=>match rd k with
 | some _=>none
 | none=>match args with
   | [.d (.dl [] 0 none)]=>some (.sl k 0 0 none,[(k,.data 5 1 [] true)],[k])
   | [.sl r off 0 c]=>match rd r with
     | some (.data e s cs wr)=>bif r==k then none else some (.sl k 0 0 none,[(k,.data 5 1 [] true)]++[(r,.data e s cs false)],[k,r])
     | _=>none
   | _=>none) (freshN rd 100 5000000) else none
theorem cloneC66_ok:∀f args rd v us rds,cloneC66 f args rd=some (v,us,rds)→fnOk Try.prog f=true∧Does Try.prog (fun _=>none) f args rds v us rd:=fun f args rd v us rds h=>by
 unfold cloneC66 at h
 cases hf:f==66 with
 | false=>rw [hf] at h;cases h
 | true =>
   have:=eq_of_beq hf
   subst this
   rw [hf,cond_true] at h
   refine ⟨by kernel_rfl,?_⟩
   generalize freshN rd 100 5000000=k at h
   simp only at h
   split at h
   ·cases h
   ·rename_i hk
    split at h
    ·cases h;exact does_own1 clone0_66 rfl hk
    ·rename_i r off c
     split at h
     ·rename_i e s cs wr hr
      cases hrk:r==k with
      | true=>rw [hrk] at h;cases h
      | false =>
        rw [hrk,cond_false] at h
        cases h
        have hne:r≠k:=by intro e;subst e;simp at hrk
        refine does_freeze (F:=[(r,.data e s cs false)]) (args':=[.d (.dl [] 0 none)]) ?_ ⟨by simp,⟨_,_,_,_,hr,rfl⟩,trivial⟩ ?_
        ·have W:=does_own1 (rd:=updF rd [(r,.data e s cs false)]) (r:=k) clone0_66 rfl (by simp [updF,look,hne,hk])
         exact does_rds W (by simp)
        ·rw [TdL]
         refine ⟨_,_,rfl,?_,by rw [TdL]⟩
         rw [TdV]
         unfold TdD lookF look
         simp
     ·cases h
    ·cases h
theorem clone0_86:DoesO Try.prog (fun _=>none) 86 [.d (.dl [] 0 none)] [] (.sl 1 0 0 none) [(1,.data 76 10 [] true)]:=by
 refine does_p KK (fn:=Try.f86) Try.func86 rfl (by show 1≤_;decide) ?_
 intro C F p hC hF hp
 have e1:p.emp []=true:=by rw [hp];rfl
 conv=>cbv
 simp only [e1]
 conv=>cbv
 refine ⟨back_nilrow,?_⟩
 conv=>cbv
 have ez8:(p.len [])=0:=by rw [hp];rfl
 simp only [ez8];clear ez8
 conv=>cbv
 have ez9:(p.nm 0 10)=0:=by rw [hp];rfl
 simp only [ez9];clear ez9
 conv=>cbv
 have e10:(p.neq 0 0)=true:=p_neq hp (by omega)
 simp only [e10];clear e10
 conv=>cbv
 have e11:(p.neq 0 0)=true:=p_neq hp (by omega)
 simp only [e11];clear e11
 conv=>cbv
 have e12:(p.fit 0 0 128)=true:=p_fit hp (by omega) (by show _≤9223372036854775807;omega)
 simp only [e12];clear e12
 conv=>cbv
 have ez13:(p.na 0 0)=0:=by rw [hp];rfl
 simp only [ez13];clear ez13
 conv=>cbv
 have ez14:(p.app [] [])=[]:=by rw [p_app hp];rfl
 simp only [ez14];clear ez14
 conv=>cbv
 exact back_obj [(1,1302)] rfl rfl ⟨⟨rfl,rfl,rfl⟩,trivial⟩ rfl rfl
def cloneC86:ConK:=fun f args rd=>bif f==86 then (fun k=>match rd k with
 | some _=>none
 | none=>match args with
   | [.d (.dl [] 0 none)]=>some (.sl k 0 0 none,[(k,.data 76 10 [] true)],[k])
   | [.sl r off 0 c]=>match rd r with
     | some (.data e s cs wr)=>bif r==k then none else some (.sl k 0 0 none,[(k,.data 76 10 [] true)]++[(r,.data e s cs false)],[k,r])
     | _=>none
   | _=>none) (freshN rd 100 5000000) else none
theorem cloneC86_ok:∀f args rd v us rds,cloneC86 f args rd=some (v,us,rds)→fnOk Try.prog f=true∧Does Try.prog (fun _=>none) f args rds v us rd:=fun f args rd v us rds h=>by
 unfold cloneC86 at h
 cases hf:f==86 with
 | false=>rw [hf] at h;cases h
 | true =>
   have:=eq_of_beq hf
   subst this
   rw [hf,cond_true] at h
   refine ⟨by kernel_rfl,?_⟩
   generalize freshN rd 100 5000000=k at h
   simp only at h
   split at h
   ·cases h
   ·rename_i hk
    split at h
    ·cases h;exact does_own1 clone0_86 rfl hk
    ·rename_i r off c
     split at h
     ·rename_i e s cs wr hr
      cases hrk:r==k with
      | true=>rw [hrk] at h;cases h
      | false =>
        rw [hrk,cond_false] at h
        cases h
        have hne:r≠k:=by intro e;subst e;simp at hrk
        refine does_freeze (F:=[(r,.data e s cs false)]) (args':=[.d (.dl [] 0 none)]) ?_ ⟨by simp,⟨_,_,_,_,hr,rfl⟩,trivial⟩ ?_
        ·have W:=does_own1 (rd:=updF rd [(r,.data e s cs false)]) (r:=k) clone0_86 rfl (by simp [updF,look,hne,hk])
         exact does_rds W (by simp)
        ·rw [TdL]
         refine ⟨_,_,rfl,?_,by rw [TdL]⟩
         rw [TdV]
         unfold TdD lookF look
         simp
     ·cases h
    ·cases h
theorem clone0_87:DoesO Try.prog (fun _=>none) 87 [.d (.dl [] 0 none)] [] (.sl 1 0 0 none) [(1,.data 9 1 [] true)]:=by
 refine does_p KK (fn:=Try.f87) Try.func87 rfl (by show 1≤_;decide) ?_
 intro C F p hC hF hp
 have e1:p.emp []=true:=by rw [hp];rfl
 conv=>cbv
 simp only [e1]
 conv=>cbv
 refine ⟨back_nilrow,?_⟩
 conv=>cbv
 have ez15:(p.len [])=0:=by rw [hp];rfl
 simp only [ez15];clear ez15
 conv=>cbv
 have ez16:(p.nm 0 1)=0:=by rw [hp];rfl
 simp only [ez16];clear ez16
 conv=>cbv
 have e17:(p.neq 0 0)=true:=p_neq hp (by omega)
 simp only [e17];clear e17
 conv=>cbv
 have e18:(p.neq 0 0)=true:=p_neq hp (by omega)
 simp only [e18];clear e18
 conv=>cbv
 have e19:(p.fit 0 0 16)=true:=p_fit hp (by omega) (by show _≤9223372036854775807;omega)
 simp only [e19];clear e19
 conv=>cbv
 have ez20:(p.na 0 0)=0:=by rw [hp];rfl
 simp only [ez20];clear ez20
 conv=>cbv
 have ez21:(p.app [] [])=[]:=by rw [p_app hp];rfl
 simp only [ez21];clear ez21
 conv=>cbv
 exact back_obj [(1,1302)] rfl rfl ⟨⟨rfl,rfl,rfl⟩,trivial⟩ rfl rfl
def cloneC87:ConK:=fun f args rd=>bif f==87 then (fun k=>match rd k with
 | some _=>none
 | none=>match args with
   | [.d (.dl [] 0 none)]=>some (.sl k 0 0 none,[(k,.data 9 1 [] true)],[k])
   | [.sl r off 0 c]=>match rd r with
     | some (.data e s cs wr)=>bif r==k then none else some (.sl k 0 0 none,[(k,.data 9 1 [] true)]++[(r,.data e s cs false)],[k,r])
     | _=>none
   | _=>none) (freshN rd 100 5000000) else none
theorem cloneC87_ok:∀f args rd v us rds,cloneC87 f args rd=some (v,us,rds)→fnOk Try.prog f=true∧Does Try.prog (fun _=>none) f args rds v us rd:=fun f args rd v us rds h=>by
 unfold cloneC87 at h
 cases hf:f==87 with
 | false=>rw [hf] at h;cases h
 | true =>
   have:=eq_of_beq hf
   subst this
   rw [hf,cond_true] at h
   refine ⟨by kernel_rfl,?_⟩
   generalize freshN rd 100 5000000=k at h
   simp only at h
   split at h
   ·cases h
   ·rename_i hk
    split at h
    ·cases h;exact does_own1 clone0_87 rfl hk
    ·rename_i r off c
     split at h
     ·rename_i e s cs wr hr
      cases hrk:r==k with
      | true=>rw [hrk] at h;cases h
      | false =>
        rw [hrk,cond_false] at h
        cases h
        have hne:r≠k:=by intro e;subst e;simp at hrk
        refine does_freeze (F:=[(r,.data e s cs false)]) (args':=[.d (.dl [] 0 none)]) ?_ ⟨by simp,⟨_,_,_,_,hr,rfl⟩,trivial⟩ ?_
        ·have W:=does_own1 (rd:=updF rd [(r,.data e s cs false)]) (r:=k) clone0_87 rfl (by simp [updF,look,hne,hk])
         exact does_rds W (by simp)
        ·rw [TdL]
         refine ⟨_,_,rfl,?_,by rw [TdL]⟩
         rw [TdV]
         unfold TdD lookF look
         simp
     ·cases h
    ·cases h
def cloneC:ConK:=orC cloneC66 (orC cloneC86 (cloneC87))
theorem cloneC_ok:∀f args rd v us rds,cloneC f args rd=some (v,us,rds)→fnOk Try.prog f=true∧Does Try.prog (fun _=>none) f args rds v us rd:=orC_ok cloneC66_ok (orC_ok cloneC86_ok (cloneC87_ok))
end Go.Proofs.Ytlaccfegaoaakaa
