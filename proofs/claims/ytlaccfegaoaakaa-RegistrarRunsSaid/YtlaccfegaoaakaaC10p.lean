import Derived.Test.YtlaccfegaoaakaaC7p
set_option linter.unusedSimpArgs false
set_option linter.unusedVariables false
set_option maxRecDepth 100000
set_option maxHeartbeats 2000000
namespace Go.Proofs.Ytlaccfegaoaakaa
open Go.RowKit
theorem sameB_j (l:List Bnd) (hl:l.length≤1000000) (hp:∀b∈l,b.2.2.2.2.2.2.2.2.2.length≤10):dialtoneref22_Same (l,l)=some true:=by
 rw [sa_eq]
 simp only [ne_eq,not_true_eq_false,decide_false,cond_false]
 refine joinO_eq (a:=()) ?_ rfl
 refine loopO_from (fun i=>((i:Int))) l.length rfl (fun i hi => ?_) ?_
 ·obtain ⟨f,hf,hfb⟩:=get_at dB hi
  have hs:=strings_refl f.2.2.2.2.2.2.2.2.2 (by have:=hp f (by rw [←hf,getD_get _ hi];exact List.getElem_mem _);omega)
  have hn:((i:Int)+1)=((i+1:Nat):Int):=rfl
  unfold smS
  simp (disch:=(first | omega | (simp only [LNl];omega))) only [↓SDl,SDr,if_pos,if_neg,↓hfb,hs,wrap_i64',hn,ne_eq,not_true_eq_false,decide_false]
 ·unfold smS
  simp (disch:=(first | omega | (simp only [LNl];omega))) only [↓SDl,SDr,if_neg]
section
variable {c:Cf} {L:List Bnd} {B:List Int} {s n last:Int} {k:Nat} (hk:k≤100) (hv:VC c) (hL:LI L n) (hl:L.length≤20*k)
include hk hv hL hl
theorem all_j:registrar_Registrar_All (mkS c L B s n last)=some L:=by
 have hvj:=vc_j c
 rw [tf_t hv] at hvj
 have hco:=co_j L (by omega) (fun b hb=>by have:=hL.pth b hb;omega)
 unfold mkS
 rw [al_eq]
 simp (disch:=(first | omega | (simp only [LNl];omega))) only [↓SDl,SDr,hvj,hco,if_pos,if_neg]
end
section
variable {c:Cf} {L:List Bnd} {B:List Int} {s n last:Int} {k:Nat} (hk:k≤100) (hv:VC c) (hB:BI B s n k)
include hk hv hB
theorem log_j:registrar_Registrar_Log (mkS c L B s n last)=some (B,(s,n)):=by
 have hvj:=vc_j c
 rw [tf_t hv] at hvj
 have hb:=hB.bl
 have hcl:cloneB B=some B:=by unfold cloneB;rw [decide_eq_true (by omega)];rfl
 unfold mkS
 rw [lg_eq]
 simp (disch:=(first | omega | (simp only [LNl];omega))) only [↓SDl,SDr,hvj,hcl,if_pos,if_neg]
theorem sync_j:syncM (mkS c L B s n last)=some (0,mkS c L B (B.length:Int) n last):=by
 have hvj:=vc_j c
 rw [tf_t hv] at hvj
 have hb:=hB.bl
 have hn:=hB.nn
 have hs:=syncP_j (B:=B) (s:=s) (n:=n) (by omega) hB.sy (by omega)
 unfold mkS
 rw [sy_eq]
 simp (disch:=(first | omega | (simp only [LNl];omega))) only [↓SDl,SDr,hvj,hs,if_pos,if_neg]
end
section
variable {c:Cf} {L:List Bnd} {B:List Int} {s n last:Int} {k:Nat} (hk:k≤100) (hv:VC c) (hL:LI L n) (hl:L.length≤20*k) (hB:BI B s n k)
include hk hv hL hl hB
theorem copy_j:copyM (mkS c L B s n last)=some (mkS c L B s n last):=by
 have hvj:=vc_j c
 rw [tf_t hv] at hvj
 have h1:=all_j (B:=B) (s:=s) (last:=last) hk hv hL hl
 have h2:=log_j (L:=L) (last:=last) hk hv hB
 unfold mkS at h1 h2 ⊢
 rw [cp_eq]
 simp (disch:=(first | omega | (simp only [LNl];omega))) only [↓SDl,SDr,hvj,h1,h2,if_pos,if_neg]
theorem same_j (now:Int) (aor:Tx):sameM (mkS c L B s n last,(now,(aor,mkS c L B s n last)))=some true:=by
 have hvj:=vc_j c
 rw [tf_t hv] at hvj
 have h1:=all_j (B:=B) (s:=s) (last:=last) hk hv hL hl
 have h2:=log_j (L:=L) (last:=last) hk hv hB
 obtain ⟨Z,z1,z2,z3,z4⟩:=look_both L now aor (by omega) (by have:=hL.cnt aor;omega) (fun b hb=>by have:=hL.pth b hb;omega) hL.key
 have hS1:=sameB_j L (by omega) hL.pth
 have hS2:=sameB_j Z (by omega) (fun b hb=>hL.pth b (z4 b hb))
 have hS3:=Jn.samelog_refl (B,(s,n))
 have hlm:lookupM (now,(aor,mkS c L B s n last))=some Z:=by
  unfold mkS
  rw [lm_eq]
  simp (disch:=(first | omega | (simp only [LNl];omega))) only [↓SDl,SDr,hvj,z1,if_pos,if_neg]
 unfold mkS at h1 h2 hlm ⊢
 rw [sm_eq2]
 simp (disch:=(first | omega | (simp only [LNl];omega))) only [↓SDl,SDr,h1,h2,hlm,hS1,hS2,hS3,z2,if_pos,if_neg]
end
end Go.Proofs.Ytlaccfegaoaakaa

set_option maxRecDepth 100000
namespace Go.Proofs.Ytlaccfegaoaakaa
open Go.RowKit
abbrev StT:=Int×(Bool×Rg9)
abbrev RnT:=Int×(Int×(RgS×RgS))
noncomputable def rnS (a5:List StT) (v10 v11 v12 v13 v14 v15:Int) (v16:List Bnd) (v17:List Int) (v18 v19 v20:Int) (v21 v22 v23 v24:Int) (v25:List Bnd) (v26:List Int) (v27 v28 v29:Int):Option ((Int×(RgS×RgS)) ⊕ (RnT ⊕ ((RgS×RgS) ⊕ Bool))) :=
(bif (decide (((0:Int)≤v10)∧(v10<(((List.length a5):Nat):Int)))) then
 bindO a5[(Int.toNat v10)]? fun x43 =>
 bif x43.2.1 then
 bindO (syncM (v21,(v22,(v23,(v24,(v25,(v26,(v27,(v28,v29))))))))) fun (x45,(x46,(x47,(x48,(x49,(x50,(x51,(x52,(x53,x54))))))))) =>
 bif (decide (x45≠(0:Int))) then
 outO (outO (outO (some Bool.false)))
 else
 bindO (dialtoneref20_Sync (v17,(v18,v19))) fun (x56,(x57,x58)) =>
 some (Sum.inl (v11,((v12,(v13,(v14,(v15,(v16,(x56,(x57,(x58,v20)))))))),(x46,(x47,(x48,(x49,(x50,(x51,(x52,(x53,x54)))))))))))
 else
 bif (decide (((0:Int)≤v10)∧(v10<(((List.length a5):Nat):Int)))) then
 bindO a5[(Int.toNat v10)]? fun x59 =>
 bindO (some (Go.IntKind.wrap .i64 ((Go.IntKind.wrap .i64 (v11+(Go.IntKind.wrap .i64 x59.1)))-(300:Int)))) fun x62 =>
 bif (decide (((0:Int)≤v10)∧(v10<(((List.length a5):Nat):Int)))) then
 bindO a5[(Int.toNat v10)]? fun x63 =>
 bindO (registrar_Registrar_Register (x62,(x63.2.2,(v21,(v22,(v23,(v24,(v25,(v26,(v27,(v28,v29))))))))))) fun (x65,(x66,(x67,(x68,(x69,(x70,(x71,(x72,(x73,(x74,x75)))))))))) =>
 bif (decide (((0:Int)≤v10)∧(v10<(((List.length a5):Nat):Int)))) then
 bindO a5[(Int.toNat v10)]? fun x76 =>
 bindO (dialtoneref22_Register ((v12,(v13,(v14,(v15,(v16,(v17,(v18,(v19,v20)))))))),(x62,x76.2.2))) fun ((x78,(x79,(x80,(x81,(x82,(x83,(x84,(x85,x86)))))))),(x87,x88)) =>
 bif (decide (x66≠x88)) then
 outO (outO (outO (some Bool.false)))
 else
 bindO (dialtoneref22_Same (x65,x87)) fun x89 =>
 bif (!x89) then
 outO (outO (outO (some Bool.false)))
 else
 some (Sum.inl (x62,((x78,(x79,(x80,(x81,(x82,(x83,(x84,(x85,x86)))))))),(x67,(x68,(x69,(x70,(x71,(x72,(x73,(x74,x75)))))))))))
 else none
 else none
 else none
 else none)
noncomputable def rnB (a5:List StT):RnT→Option (RnT ⊕ ((RgS×RgS) ⊕ Bool)) :=
(fun (v10,(v11,((v12,(v13,(v14,(v15,(v16,(v17,(v18,(v19,v20)))))))),(v21,(v22,(v23,(v24,(v25,(v26,(v27,(v28,v29))))))))))) =>
 bif (decide (v10<(((List.length a5):Nat):Int))) then
 bif (decide (v10<(30:Int))) then
 bif (decide (((0:Int)≤v10)∧(v10<(((List.length a5):Nat):Int)))) then
 bindO a5[(Int.toNat v10)]? fun x30 =>
 bindO (dialtonelaw22_few x30.2.2) fun x31 =>
 bif (!x31) then
 outO (outO (some Bool.true))
 else
 bindO (copyM (v21,(v22,(v23,(v24,(v25,(v26,(v27,(v28,v29))))))))) fun (x34,(x35,(x36,(x37,(x38,(x39,(x40,(x41,x42)))))))) =>
 joinO (rnS a5 v10 v11 v12 v13 v14 v15 v16 v17 v18 v19 v20 v21 v22 v23 v24 v25 v26 v27 v28 v29) fun (v90,((v91,(v92,(v93,(v94,(v95,(v96,(v97,(v98,v99)))))))),(v100,(v101,(v102,(v103,(v104,(v105,(v106,(v107,v108)))))))))) =>
 bif (decide (((0:Int)≤v10)∧(v10<(((List.length a5):Nat):Int)))) then
 bindO a5[(Int.toNat v10)]? fun x109 =>
 bindO (sameM ((v91,(v92,(v93,(v94,(v95,(v96,(v97,(v98,v99)))))))),(v90,(x109.2.2.1,(v100,(v101,(v102,(v103,(v104,(v105,(v106,(v107,v108)))))))))))) fun x110 =>
 bif (!x110) then
 outO (outO (some Bool.false))
 else
 bif (decide (((0:Int)≤v10)∧(v10<(((List.length a5):Nat):Int)))) then
 bindO a5[(Int.toNat v10)]? fun x111 =>
 bindO (sameM ((v12,(v13,(v14,(v15,(v16,(v17,(v18,(v19,v20)))))))),(v90,(x111.2.2.1,(x34,(x35,(x36,(x37,(x38,(x39,(x40,(x41,x42)))))))))))) fun x112 =>
 bif (!x112) then
 outO (outO (some Bool.false))
 else
 some (Sum.inl ((Go.IntKind.wrap .i64 (v10+(1:Int))),((maxA v90 (0:Int)),((v91,(v92,(v93,(v94,(v95,(v96,(v97,(v98,v99)))))))),(v100,(v101,(v102,(v103,(v104,(v105,(v106,(v107,v108))))))))))))
 else none
 else none
 else none
 else
 outO (some (Sum.inl ((v12,(v13,(v14,(v15,(v16,(v17,(v18,(v19,v20)))))))),(v21,(v22,(v23,(v24,(v25,(v26,(v27,(v28,v29)))))))))))
 else
 outO (some (Sum.inl ((v12,(v13,(v14,(v15,(v16,(v17,(v18,(v19,v20)))))))),(v21,(v22,(v23,(v24,(v25,(v26,(v27,(v28,v29))))))))))))
theorem rn_eq (a1 a2 a3 a4:Int) (a5:List StT):dialtonelaw22_RegistrarRuns ((a1,(a2,(a3,a4))),a5) =
 bindO (registrar_Valid (a1,(a2,(a3,a4)))) fun x6 =>
 bif (!x6) then
  bindO (dialtoneref22_Valid (a1,(a2,(a3,a4)))) fun x7 =>
  bif (!x7) then
   some Bool.true
  else
   some Bool.false
 else
  bindO (dialtoneref22_Valid (a1,(a2,(a3,a4)))) fun x9 =>
  bif (!x9) then
   some Bool.false
  else
   joinO (loopO (rnB a5) ((0:Int),((0:Int),((a1,(a2,(a3,(a4,(([]:List Bnd),(([]:List Int),((0:Int),((0:Int),(0:Int))))))))),(a1,(a2,(a3,(a4,(([]:List Bnd),(([]:List Int),((0:Int),((0:Int),(0:Int))))))))))))) fun ((v114,(v115,(v116,(v117,(v118,(v119,(v120,(v121,v122)))))))),(v123,(v124,(v125,(v126,(v127,(v128,(v129,(v130,v131))))))))) =>
   some Bool.true:=rfl
end Go.Proofs.Ytlaccfegaoaakaa

set_option maxRecDepth 100000
set_option maxHeartbeats 2000000
namespace Go.Proofs.Ytlaccfegaoaakaa
open Go.RowKit
theorem few_some (r:Rg9):∃f,dialtonelaw22_few r=some f:=(few_j r.1 r.2.1 r.2.2.1 r.2.2.2.1 r.2.2.2.2.1 r.2.2.2.2.2.1 r.2.2.2.2.2.2.1 r.2.2.2.2.2.2.2.1 r.2.2.2.2.2.2.2.2).some
theorem BI.more {B:List Int} {s n:Int} {k:Nat} (h:BI B s n k):BI B s n (k+1):=⟨by have:=h.bl;omega,h.sy,by have:=h.nn;omega⟩
theorem BI.sync {B:List Int} {s n:Int} {k:Nat} (h:BI B s n k):BI B (B.length:Int) n (k+1):=⟨by have:=h.bl;omega,by omega,by have:=h.nn;omega⟩
theorem BI.app {B E:List Int} {s n:Int} {k:Nat} (h:BI B s n k) (lE:E.length≤4096):BI (B++Jn.encB n 1 E) s (n+1) (k+1):=by
 have:=h.bl
 have:=h.sy
 have:=h.nn
 have:=Jn.encB_length n 1 E
 refine ⟨?_,?_,by omega⟩<;>rw [List.length_append]<;>omega
section
variable {c:Cf} (hv:VC c) (A:List StT)
include hv
theorem rnS_j (i:Nat) (hi:i<A.length) (h30:i<30) (now:Int) (L:List Bnd) (B:List Int) (s n last:Int) (hL:LI L n) (hl:L.length≤20*i) (hB:BI B s n i) :
 ∃now' L' B' s' n' last',LI L' n'∧L'.length≤20*(i+1)∧BI B' s' n' (i+1)∧rnS A (i:Int) now c.1 c.2.1 c.2.2.1 c.2.2.2 L B s n last c.1 c.2.1 c.2.2.1 c.2.2.2 L B s n last=some (.inl (now',(mkS c L' B' s' n' last',mkS c L' B' s' n' last'))):=by
 obtain ⟨x,hx,hxb⟩:=get_at ((0,(false,zR)):StT) hi
 have hb:=hB.bl
 have hn:=hB.nn
 cases hs:x.2.1 with
 | true =>
   have h1:=sync_j (L:=L) (last:=last) (k:=i) (by omega) hv hB
   have h2:=syncR_j (B:=B) (s:=s) (n:=n) (by omega) hB.sy (by omega)
   refine ⟨now,L,B,(B.length:Int),n,last,hL,by omega,hB.sync,?_⟩
   unfold mkS at h1
   unfold rnS mkS
   simp (disch:=(first | omega | (simp only [LNl];omega))) only [↓SDl,SDr,if_pos,if_neg,↓hxb,hs,h1,h2,ne_eq,not_true_eq_false,decide_false]
 | false =>
   obtain ⟨t,ht⟩:∃t,IntKind.wrap .i64 (IntKind.wrap .i64 (now+IntKind.wrap .i64 x.1)-300)=t:=⟨_,rfl⟩
   obtain ⟨res,e,r1,r2,r3⟩:=reg_both c L B s n last t x.2.2 i (by omega) hv hL hl hB
   have hS:=sameB_j res (by omega) r2
   rcases r3 with ⟨_,p,q⟩ | ⟨O,_,_,hE,lE,_,hU,p,q⟩
   ·refine ⟨t,L,B,s,n,last,hL,by omega,hB.more,?_⟩
    unfold mkS at p q
    unfold rnS mkS
    simp (disch:=(first | omega | (simp only [LNl];omega))) only [↓SDl,SDr,if_pos,if_neg,↓hxb,hs,ht,p,q,hS,ne_eq,not_true_eq_false,decide_false]
   ·obtain ⟨_,_,_,hO,lO⟩:=upd_li hL hU
    refine ⟨t,O,B++Jn.encB n 1 (encA t x.2.2),s,n+1,t,hO,by omega,hB.app lE,?_⟩
    generalize B++Jn.encB n 1 (encA t x.2.2)=B2 at p q ⊢
    unfold mkS at p q
    unfold rnS mkS
    simp (disch:=(first | omega | (simp only [LNl];omega))) only [↓SDl,SDr,if_pos,if_neg,↓hxb,hs,ht,p,q,hS,ne_eq,not_true_eq_false,decide_false]
theorem runs_j (P:Option Bool→Prop) (hP:P (some true)) {k:RgS×RgS→Option Bool} (hk:∀x,k x=some true) :
 P (joinO (loopO (rnB A) ((0:Int),((0:Int),(mkS c [] [] 0 0 0,mkS c [] [] 0 0 0)))) k):=by
 refine loopO_postG (P:=P)
  (fun x:RnT=>∃(i:Nat) (now:Int) (L:List Bnd) (B:List Int) (s n last:Int),x=((i:Int),(now,(mkS c L B s n last,mkS c L B s n last)))∧i≤A.length∧i≤30∧LI L n∧L.length≤20*i∧BI B s n i)
  (fun x=>A.length-x.1.toNat) (fun x hx => ?_) ⟨0,0,[],[],0,0,0,rfl,Nat.zero_le _,by omega,li0,by simp,⟨by simp,by simp,by simp⟩⟩
 obtain ⟨i,now,L,B,s,n,last,rfl,hi,h30,hL,hl,hB⟩:=hx
 have hn:((i:Int)+1)=((i+1:Nat):Int):=rfl
 by_cases h:i<A.length
 ·by_cases h3:i<30
  ·obtain ⟨x,hx,hxb⟩:=get_at ((0,(false,zR)):StT) h
   obtain ⟨f,hf⟩:=few_some x.2.2
   cases f with
   | false =>
     unfold rnB mkS
     simp (disch:=(first | omega | (simp only [LNl];omega))) only [↓SDl,SDr,if_pos,if_neg,↓hxb,hf]
     exact .stop hP
   | true =>
     have hc:=copy_j (last:=last) (by omega) hv hL hl hB
     obtain ⟨now',L',B',s',n',last',gL,gl,gB,eS⟩:=rnS_j hv A i h h3 now L B s n last hL hl hB
     have h1:=same_j (last:=last') (k:=i+1) (by omega) hv gL gl gB now' x.2.2.1
     have h2:=same_j (last:=last) (k:=i) (by omega) hv hL hl hB now' x.2.2.1
     unfold mkS at hc eS h1 h2
     unfold rnB mkS
     simp (disch:=(first | omega | (simp only [LNl];omega))) only [↓SDl,SDr,if_pos,if_neg,↓hxb,hf,hc,eS,h1,h2,wrap_i64',hn]
     exact .next ⟨i+1,maxA now' 0,L',B',s',n',last',rfl,by omega,by omega,gL,gl,gB⟩ (by simp;omega)
  ·unfold rnB mkS
   simp (disch:=(first | omega | (simp only [LNl];omega))) only [↓SDl,SDr,if_pos,if_neg]
   refine .stop ?_
   rw [joinO_inl,hk];exact hP
 ·unfold rnB mkS
  simp (disch:=(first | omega | (simp only [LNl];omega))) only [↓SDl,SDr,if_pos,if_neg]
  refine .stop ?_
  rw [joinO_inl,hk];exact hP
end
theorem runs_main (a:Cf×List StT) {q:Prop} (_:q):dialtonelaw22_RegistrarRuns a=some true:=by
 obtain ⟨c,A⟩:=a
 have h1:=vc_j c
 have h2:=vcR_j c
 show dialtonelaw22_RegistrarRuns ((c.1,(c.2.1,(c.2.2.1,c.2.2.2))),A)=_
 rw [rn_eq]
 have h1:registrar_Valid (c.1,(c.2.1,(c.2.2.1,c.2.2.2)))=some (tf (VC c)):=h1
 have h2:dialtoneref22_Valid (c.1,(c.2.1,(c.2.2.1,c.2.2.2)))=some (tf (VC c)):=h2
 rw [h1,bindO_some]
 by_cases hv:VC c
 ·rw [tf_t hv] at h2 ⊢
  rw [Bool.not_true,cond_false,h2,bindO_some,Bool.not_true,cond_false]
  exact runs_j hv A (fun o=>o=some true) rfl (fun _=>rfl)
 ·rw [tf_f hv] at h2 ⊢
  rw [Bool.not_false,cond_true,h2,bindO_some,Bool.not_false,cond_true]
end Go.Proofs.Ytlaccfegaoaakaa
