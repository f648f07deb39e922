import Derived.Test.YtlaccfegaoaakaaC7p
import Derived.Test.YtlaccfegaoaakaaB4p
import Derived.Test.YtlaccfegaoaakaaXBp
import Derived.Test.YtlaccfegaoaakaaC3p
import Derived.Test.YtlaccfegaoaakaaLp
set_option linter.unusedSectionVars false
set_option linter.unusedSimpArgs false
set_option linter.unusedVariables false
set_option maxRecDepth 100000
set_option maxHeartbeats 2000000
namespace Go.Proofs.Ytlaccfegaoaakaa
open Go.RowKit
theorem sameB_j (l:List Bnd) (hl:l.length≤1000000) (hp:∀b∈l,b.2.2.2.2.2.2.2.2.2.length≤10):dialtoneref22_Same (l,l)=some true:=by
 rw [sa_eq]
 simp only [ne_eq,not_true_eq_false,decide_false,cond_false]
 refine joinO_eq (a:=()) ?_ rfl
 refine loopO_from (fun i=>((i:Int))) l.length rfl (fun i hi => ?_) ?_
 ·obtain ⟨f,hf,hfb⟩:=get_at dB hi
  have hs:=strings_refl f.2.2.2.2.2.2.2.2.2 (by have:=hp f (by rw [←hf,getD_get _ hi];exact List.getElem_mem _);omega)
  have hn:((i:Int)+1)=((i+1:Nat):Int):=rfl
  unfold smS
  simp (disch:=(first | omega | (simp only [LNl];omega))) only [↓SDl,SDr,if_pos,if_neg,↓hfb,hs,wrap_i64',hn,ne_eq,not_true_eq_false,decide_false]
 ·unfold smS
  simp (disch:=(first | omega | (simp only [LNl];omega))) only [↓SDl,SDr,if_neg]
section
variable {c:Cf} {L:List Bnd} {B:List Int} {s n last:Int} {k:Nat} (hk:k≤100) (hv:VC c) (hL:LI L n) (hl:L.length≤20*k)
include hk hv hL hl
theorem all_j:registrar_Registrar_All (mkS c L B s n last)=some L:=by
 have hvj:=vc_j c
 rw [tf_t hv] at hvj
 have hco:=co_j L (by omega) (fun b hb=>by have:=hL.pth b hb;omega)
 unfold mkS
 rw [al_eq]
 simp (disch:=(first | omega | (simp only [LNl];omega))) only [↓SDl,SDr,hvj,hco,if_pos,if_neg]
end
section
variable {c:Cf} {L:List Bnd} {B:List Int} {s n last:Int} {k:Nat} (hk:k≤100) (hv:VC c) (hB:BI B s n k)
include hk hv hB
theorem log_j:registrar_Registrar_Log (mkS c L B s n last)=some (B,(s,n)):=by
 have hvj:=vc_j c
 rw [tf_t hv] at hvj
 have hb:=hB.bl
 have hcl:cloneB B=some B:=by unfold cloneB;rw [decide_eq_true (by omega)];rfl
 unfold mkS
 rw [lg_eq]
 simp (disch:=(first | omega | (simp only [LNl];omega))) only [↓SDl,SDr,hvj,hcl,if_pos,if_neg]
theorem sync_j:syncM (mkS c L B s n last)=some (0,mkS c L B (B.length:Int) n last):=by
 have hvj:=vc_j c
 rw [tf_t hv] at hvj
 have hb:=hB.bl
 have hn:=hB.nn
 have hs:=syncP_j (B:=B) (s:=s) (n:=n) (by omega) hB.sy (by omega)
 unfold mkS
 rw [sy_eq]
 simp (disch:=(first | omega | (simp only [LNl];omega))) only [↓SDl,SDr,hvj,hs,if_pos,if_neg]
end
section
variable {c:Cf} {L:List Bnd} {B:List Int} {s n last:Int} {k:Nat} (hk:k≤100) (hv:VC c) (hL:LI L n) (hl:L.length≤20*k) (hB:BI B s n k)
include hk hv hL hl hB
end
end Go.Proofs.Ytlaccfegaoaakaa

set_option maxRecDepth 100000
set_option maxHeartbeats 2000000
namespace Go.Proofs.Ytlaccfegaoaakaa
open Go.RowKit
theorem few_some' (r:Rg9):∃f,dialtonelaw22_few r=some f:=(few_j r.1 r.2.1 r.2.2.1 r.2.2.2.1 r.2.2.2.2.1 r.2.2.2.2.2.1 r.2.2.2.2.2.2.1 r.2.2.2.2.2.2.2.1 r.2.2.2.2.2.2.2.2).some
theorem reg_prog (c:Cf) (L:List Bnd) (B:List Int) (s n last now:Int) (r:Rg9) (k:Nat) (hk:k≤100) (hv:VC c) (hL:LI L n) (hl:L.length≤20*k) (hB:BI B s n k) :
 ∃res e,(¬(e=0∧Wr r)∧registrar_Registrar_Register (now,(r,mkS c L B s n last))=some (res,(e,mkS c L B s n last))) ∨
   (∃O,e=0∧Wr r∧EOKr now r∧(encA now r).length≤4096∧last≤now∧UPD c L now n r=(O,0)∧registrar_Registrar_Register (now,(r,mkS c L B s n last))=some (res,(e,mkS c O (B++Jn.encB n 1 (encA now r)) s (n+1) now))):=by
 have hb:=hB.bl
 have hs:=hB.sy
 have hn:=hB.nn
 have hp1000:∀ {M:List Bnd},(∀b∈M,b.2.2.2.2.2.2.2.2.2.length≤10)→∀b∈M,b.2.2.2.2.2.2.2.2.2.length≤1000:=fun h b hb=>by have:=h b hb;omega
 have hvj:=vc_j c
 rw [tf_t hv] at hvj
 obtain ⟨E,e,e1,e2,e3⟩:=enc_both now r
 unfold mkS
 rw [rg_eq]
 by_cases he:e=0
 ·obtain ⟨hE,rfl,lE⟩:=e3 he
  subst he
  by_cases ht:now<last
  ·refine ⟨[],9,.inl ⟨fun h=>absurd h.1 (by decide),?_⟩⟩
   simp (disch:=(first | omega | (simp only [LNl];omega))) only [↓SDl,SDr,hvj,e1,if_pos,if_neg,ne_eq,not_true_eq_false,decide_false]
  ·have hwr:(¬Wr r∧r.2.2.2.1=false∧(rCs r).length=0)∨(Wr r∧(r.2.2.2.1=true∨(r.2.2.2.1=false∧¬((rCs r).length:Int)=0))):=by
    unfold Wr
    cases r.2.2.2.1 with
    | true=>exact .inr ⟨.inl rfl,.inl rfl⟩
    | false =>
      by_cases h0:(rCs r).length=0
      ·exact .inl ⟨fun h=>h.elim (fun h=>by cases h) (fun h=>h h0),rfl,h0⟩
      ·exact .inr ⟨.inr h0,.inr ⟨rfl,by omega⟩⟩
   rcases hwr with ⟨hw,hst,h0⟩ | ⟨hw,hst⟩
   ·obtain ⟨Z,z1,_⟩:=lookP_j L now r.1 (by omega) (by have:=hL.cnt r.1;omega) (hp1000 hL.pth)
    refine ⟨Z,0,.inl ⟨fun h=>hw h.2,?_⟩⟩
    simp (disch:=(first | omega | (simp only [LNl];omega))) only [↓SDl,SDr,hvj,e1,hst,h0,z1,if_pos,if_neg,ne_eq,not_true_eq_false,decide_false]
   ·have u1:=updP_j c L now n r (by omega) (hp1000 hL.pth)
    obtain ⟨⟨O,f⟩,hU⟩:∃U,UPD c L now n r=U:=⟨_,rfl⟩
    rw [hU] at u1
    by_cases hf:f=0
    ·subst hf
     obtain ⟨_,_,_,hO,lO⟩:=upd_li hL hU
     have a1:=appP_j (s:=s) (n:=n) (show B.length≤900000 by omega) hs (by omega) (encA_by hE) lE
     obtain ⟨Z,z1,_⟩:=lookP_j O now r.1 (by omega) (by have:=hO.cnt r.1;omega) (hp1000 hO.pth)
     refine ⟨Z,0,.inr ⟨O,rfl,hw,hE,lE,by omega,hU,?_⟩⟩
     rcases hst with hst | ⟨hst,h0⟩
     ·simp (disch:=(first | omega | (simp only [LNl];omega))) only [↓SDl,SDr,hvj,e1,hst,u1,a1,z1,if_pos,if_neg,ne_eq,not_true_eq_false,decide_false]
     ·simp (disch:=(first | omega | (simp only [LNl];omega))) only [↓SDl,SDr,hvj,e1,hst,h0,u1,a1,z1,if_pos,if_neg,ne_eq,not_true_eq_false,decide_false]
    ·refine ⟨[],f,.inl ⟨fun h=>hf h.1,?_⟩⟩
     rcases hst with hst | ⟨hst,h0⟩
     ·simp (disch:=(first | omega | (simp only [LNl];omega))) only [↓SDl,SDr,hvj,e1,hst,u1,hf,if_pos,if_neg,ne_eq,not_true_eq_false,not_false_eq_true,decide_true,decide_false]
     ·simp (disch:=(first | omega | (simp only [LNl];omega))) only [↓SDl,SDr,hvj,e1,hst,h0,u1,hf,if_pos,if_neg,ne_eq,not_true_eq_false,not_false_eq_true,decide_true,decide_false]
 ·refine ⟨[],e,.inl ⟨fun h=>he h.1,?_⟩⟩
  simp (disch:=(first | omega | (simp only [LNl];omega))) only [↓SDl,SDr,hvj,e1,he,if_pos,if_neg,ne_eq,not_false_eq_true,decide_true]
end Go.Proofs.Ytlaccfegaoaakaa

set_option maxRecDepth 1000000
set_option maxHeartbeats 0
namespace Go.Proofs.Ytlaccfegaoaakaa
open Go.RowKit
def plan65_replayM:List (Nat×PL):=[]
noncomputable def replayM:(Int×((Int×LN)×(Int×(Int×(Int×(Int×((List (LU×(LU×(Int×(Int×(Int×(LU×(Int×(LU×(Int×(List LU)))))))))))×(LN×(Int×(Int×Int))))))))))→Option (Int×(Int×(Int×(Int×(Int×((List (LU×(LU×(Int×(Int×(Int×(LU×(Int×(LU×(Int×(List LU)))))))))))×(LN×(Int×(Int×Int))))))))):=fun (a1,((a2,a3),(a4,(a5,(a6,(a7,(a8,(a9,(a10,(a11,a12)))))))))) =>
 bif (decide (a2≠z1)) then
 some ((5:Int),(a4,(a5,(a6,(a7,(a8,(a9,(a10,(a11,a12)))))))))
 else
 bindO (registrar_DecodeAct a3) fun (x14,((x15,(x16,(x17,(x18,(x19,(x20,(x21,(x22,x23)))))))),x24)) =>
 bif (decide (x24≠z0)) then
 some ((5:Int),(a4,(a5,(a6,(a7,(a8,(a9,(a10,(a11,a12)))))))))
 else
 bif (decide (x14<a12)) then
 some ((5:Int),(a4,(a5,(a6,(a7,(a8,(a9,(a10,(a11,a12)))))))))
 else
 bindO (registrar_Update ((a4,(a5,(a6,a7))),(a8,(x14,(a1,(x15,(x16,(x17,(x18,(x19,(x20,(x21,(x22,x23))))))))))))) fun (x26,x27) =>
 bif (decide (x27≠z0)) then
 some ((5:Int),(a4,(a5,(a6,(a7,(a8,(a9,(a10,(a11,a12)))))))))
 else
 some (z0,(a4,(a5,(a6,(a7,(x26,(a9,(a10,(a11,x14)))))))))
noncomputable def cons65_replayM:List (Nat×CE):=[(45,ce45),(24,ce24)]
theorem cons65_replayM_ok:ConL Try.prog cons65_replayM:=⟨con45,con24,trivial⟩
noncomputable def ce65_replayM:CE:=⟨[.tmp 0 false [.pt 20000010 0],.tmp 1 false [.dat uI6],.tmp 2 true [.dat uI8,.dat (.list uI8)],.mix 20000010 [.dat uI6,.dat uI6,.dat uI6,.dat uI6,.dat (.list UBd),.dat (.list uI8),.dat uI6,.dat uI6,.dat uI6]],[.tmp 0 false [dE],.mix 20000010 [dI,dI,dI,dI,(.dat (.list UBd)),dY,dI,dI,dI]],replayM⟩
theorem con65_replayM:ConOk Try.prog 65 ce65_replayM :=
 conS_ok (tree_okS (plan:=planOf plan65_replayM) (eg:=egNo) KK tabL_ok (conOf_ok cons65_replayM_ok) Try.func65 (by kernel_rfl) (by kernel_rfl) 10000 (fun a r h=>Eq.trans (show _=replayM a from by kernel_rfl) h)) (by rfl)
def plan29_openM:List (Nat×PL):=[(134479889,.unroll),(9241421688590303745,(.carry [.mix 18 [dI,dI,dI,dI,(.dat (.list UBd)),dY,dI,dI,dI]])),(1240362622532514091349837830,(.carry [.tmp 35 false [dI],.mix 18 [dI,dI,dI,dI,(.dat (.list UBd)),dY,dI,dI,dI]]))]
noncomputable def openM:((Int×(Int×(Int×Int)))×LN)→Option (Int×(Int×(Int×(Int×(Int×((List (LU×(LU×(Int×(Int×(Int×(LU×(Int×(LU×(Int×(List LU)))))))))))×(LN×(Int×(Int×Int))))))))):=fun ((a1,(a2,(a3,a4))),a5) =>
 bindO (registrar_Valid (a1,(a2,(a3,a4)))) fun x6 =>
 bif (!x6) then
 none
 else
 bindO (journal_Recover a5) fun ((x8,(x9,x10)),x11) =>
 joinO (loopO (fun (v12,(v13,(v14,(v15,(v16,(v17,(v18,(v19,(v20,v21))))))))) =>
 bif (decide (v12<(lI x11))) then
 bif (iR v12 x11) then
 bindO x11[(Int.toNat v12)]? fun x22 =>
 bindO (replayM (v12,((x22.1,x22.2),(v13,(v14,(v15,(v16,(v17,(v18,(v19,(v20,v21))))))))))) fun (x24,(x25,(x26,(x27,(x28,(x29,(x30,(x31,(x32,x33))))))))) =>
 bif (decide (x24≠z0)) then
 outO (outO (none))
 else
 some (Sum.inl ((wI (v12+z1)),(x25,(x26,(x27,(x28,(x29,(x30,(x31,(x32,x33))))))))))
 else none
 else
 outO (some (Sum.inl (v13,(v14,(v15,(v16,(v17,(v18,(v19,(v20,v21))))))))))) (z0,(a1,(a2,(a3,(a4,(([]:List (LU×(LU×(Int×(Int×(Int×(LU×(Int×(LU×(Int×(List LU))))))))))),(x8,(x9,(x10,z0)))))))))) fun (v35,(v36,(v37,(v38,(v39,(v40,(v41,(v42,v43)))))))) =>
 some (z0,(v35,(v36,(v37,(v38,(v39,(v40,(v41,(v42,v43)))))))))
noncomputable def cons29_openM:List (Nat×CE):=[(65,ce65_replayM),(64,cej64),(10,ce10)]
theorem cons29_openM_ok:ConL Try.prog cons29_openM:=⟨con65_replayM,conj64,con10,trivial⟩
noncomputable def ce29_openM:CE:=⟨[.tmp 0 true [.dat uI6,.dat uI6,.dat uI6,.dat uI6],.tmp 1 false [.dat (.list uI8)]],[.tmp 0 false [.pt 20000020 0],.tmp 1 false [.dat uI8],.mix 20000020 [.dat uI6,.dat uI6,.dat uI6,.dat uI6,.dat (.list UBd),.dat (.list uI8),.dat uI6,.dat uI6,.dat uI6]],openM⟩
theorem con29_openM:ConOk Try.prog 29 ce29_openM :=
 conS_ok (tree_okS (plan:=planOf plan29_openM) (eg:=egNo) KK tabL_ok (conOf_ok cons29_openM_ok) Try.func29 (by kernel_rfl) (by kernel_rfl) 10000 (fun a r h=>Eq.trans (show _=openM a from by kernel_rfl) h)) (by rfl)
end Go.Proofs.Ytlaccfegaoaakaa

set_option maxRecDepth 1000000
set_option maxHeartbeats 0
namespace Go.Proofs.Ytlaccfegaoaakaa
open Go.RowKit
def plan7:List (Nat×PL):=[(134479889,.unroll),(9241421688590303745,(.carry [.drop 9,.drop 8,.drop 7,.drop 5,.dead 17,.dead 22])),(1240362622532514091349837830,(.carry [.tmp 10 false [dI],.tmp 9 false [dI],.tmp 8 false [dI],.tmp 7 false [(.own 41000001 37 (.list UBd))],.tmp 5 false [(.pt 30000002 0)],.mix 30000002 [dI,dI,dI,dI,(.dat (.list UBd)),dY,dI,dI,dI],.dead 17,.dead 22])),(206090590349426979817069428033190363033420173505946471043957249,(.carry [.tmp 16 false [dO]])),(105518382258906613666339547152993465873111128835044593174506111489,(.carry [.tmp 7 false [(.own 41000003 37 (.list UBd))],.dead 41000001]))]
noncomputable def dialtonelaw22_RegistrarCrashes:((Int×(Int×(Int×Int)))×(List (Int×(Int×(Int×(LU×(LU×(Int×(Bool×((List (LU×(Int×Int)))×(Int×(LU×(Int×(List LU))))))))))))))→Option Bool:=fun ((a1,(a2,(a3,a4))),a5) =>
 bindO (registrar_Valid (a1,(a2,(a3,a4)))) fun x6 =>
 bif (!x6) then
 bindO (dialtoneref22_Valid (a1,(a2,(a3,a4)))) fun x7 =>
 bif (!x7) then
 some Bool.true
 else
 some Bool.false
 else
 joinO (loopO (fun (v9,(v10,(v11,(v12,(v13,(v14,(v15,(v16,(v17,(v18,(v19,(v20,v21)))))))))))) =>
 bif (decide (v9<(lI a5))) then
 bif (decide (v9<(40:Int))) then
 bif (iR v9 a5) then
 bindO a5[(Int.toNat v9)]? fun x22 =>
 bindO (dialtonelaw22_few (x22.2.2.2.1,(x22.2.2.2.2.1,(x22.2.2.2.2.2.1,(x22.2.2.2.2.2.2.1,(x22.2.2.2.2.2.2.2.1,(x22.2.2.2.2.2.2.2.2.1,(x22.2.2.2.2.2.2.2.2.2.1,(x22.2.2.2.2.2.2.2.2.2.2.1,x22.2.2.2.2.2.2.2.2.2.2.2))))))))) fun x23 =>
 bif (!x23) then
 outO (outO (some Bool.true))
 else
 bif (iR v9 a5) then
 bindO a5[(Int.toNat v9)]? fun x25 =>
 bindO (some (Int.tmod x25.1 (5:Int))) fun x26 =>
 bif (decide (x26=z0)) then
 bindO (syncM (v13,(v14,(v15,(v16,(v17,(v18,(v19,(v20,v21))))))))) fun (x28,(x29,(x30,(x31,(x32,(x33,(x34,(x35,(x36,x37))))))))) =>
 bif (decide (x28≠z0)) then
 outO (outO (some Bool.false))
 else
 bif (lE v12) then
 some (Sum.inl ((wI (v9+z1)),(v10,((wI ((lI v12)-z1)),((tA v12),(x29,(x30,(x31,(x32,(x33,(x34,(x35,(x36,x37)))))))))))))
 else none
 else
 bif (decide (x26=z1)) then
 bindO (registrar_Registrar_Log (v13,(v14,(v15,(v16,(v17,(v18,(v19,(v20,v21))))))))) fun (x41,(x42,x43)) =>
 bif (iR v9 a5) then
 bindO a5[(Int.toNat v9)]? fun x44 =>
 bif (lE x41) then
 bindO (journal_Crash (((tA x41),(x42,x43)),(wI x44.2.2.1))) fun x46 =>
 bindO (openM ((a1,(a2,(a3,a4))),x46)) fun (x48,(x49,(x50,(x51,(x52,(x53,(x54,(x55,(x56,x57))))))))) =>
 bif (decide (x48≠z0)) then
 outO (outO (some Bool.false))
 else
 bindO (registrar_Registrar_Log (x49,(x50,(x51,(x52,(x53,(x54,(x55,(x56,x57))))))))) fun (x59,(x60,x61)) =>
 bif (decide (x61<v11)) then
 outO (outO (some Bool.false))
 else
 bif (decide (x61≥(lI v12))) then
 outO (outO (some Bool.false))
 else
 bindO (registrar_Registrar_All (x49,(x50,(x51,(x52,(x53,(x54,(x55,(x56,x57))))))))) fun x62 =>
 bif (iR x61 v12) then
 bindO v12[(Int.toNat x61)]? fun x63 =>
 bindO (dialtoneref22_Same (x62,x63)) fun x64 =>
 bif (!x64) then
 outO (outO (some Bool.false))
 else
 bindO (some (wI (x61+z1))) fun x65 =>
 bif (decide ((z0≤x65)∧(x65≤(lI v12)))) then
 bif (decide ((Int.toNat x65)≤(List.length v12))) then
 some (Sum.inl ((wI (v9+z1)),(v10,(x61,((List.take (Int.toNat x65) v12),(x49,(x50,(x51,(x52,(x53,(x54,(x55,(x56,x57)))))))))))))
 else none
 else none
 else none
 else none
 else none
 else
 bif (iR v9 a5) then
 bindO a5[(Int.toNat v9)]? fun x67 =>
 bindO (some (wI (v10+(wI x67.2.1)))) fun x69 =>
 bif (iR v9 a5) then
 bindO a5[(Int.toNat v9)]? fun x70 =>
 bindO (registrar_Registrar_Register (x69,((x70.2.2.2.1,(x70.2.2.2.2.1,(x70.2.2.2.2.2.1,(x70.2.2.2.2.2.2.1,(x70.2.2.2.2.2.2.2.1,(x70.2.2.2.2.2.2.2.2.1,(x70.2.2.2.2.2.2.2.2.2.1,(x70.2.2.2.2.2.2.2.2.2.2.1,x70.2.2.2.2.2.2.2.2.2.2.2)))))))),(v13,(v14,(v15,(v16,(v17,(v18,(v19,(v20,v21))))))))))) fun (x72,(x73,(x74,(x75,(x76,(x77,(x78,(x79,(x80,(x81,x82)))))))))) =>
 joinO (bif (decide (x73=z0)) then
 bif (iR v9 a5) then
 bindO a5[(Int.toNat v9)]? fun x83 =>
 bif x83.2.2.2.2.2.2.1 then
 some (Sum.inl Bool.true)
 else
 bif (iR v9 a5) then
 bindO a5[(Int.toNat v9)]? fun x84 =>
 some (Sum.inl (decide ((lI x84.2.2.2.2.2.2.2.1) > z0)))
 else none
 else none
 else
 some (Sum.inl Bool.false)) fun v85 =>
 joinO (bif v85 then
 bindO (registrar_Registrar_All (x74,(x75,(x76,(x77,(x78,(x79,(x80,(x81,x82))))))))) fun x86 =>
 bif (lE v12) then
 bif (rO ((tA v12)++(x86::([]:List (List (LU×(LU×(Int×(Int×(Int×(LU×(Int×(LU×(Int×(List LU)))))))))))))) 24) then
 bindO (some ((tA v12)++(x86::([]:List (List (LU×(LU×(Int×(Int×(Int×(LU×(Int×(LU×(Int×(List LU))))))))))))))) fun x87 =>
 bif (lE x87) then
 some (Sum.inl (tA x87))
 else none
 else none
 else none
 else
 bif (lE v12) then
 some (Sum.inl (tA v12))
 else none) fun v88 =>
 bindO (registrar_Registrar_Log (x74,(x75,(x76,(x77,(x78,(x79,(x80,(x81,x82))))))))) fun (x90,(x91,x92)) =>
 bif (decide (x92≠(wI ((lI v88)-z1)))) then
 outO (outO (some Bool.false))
 else
 bindO (registrar_Registrar_All (x74,(x75,(x76,(x77,(x78,(x79,(x80,(x81,x82))))))))) fun x94 =>
 bindO (some (wI ((lI v88)-z1))) fun x95 =>
 bif (iR x95 v88) then
 bindO v88[(Int.toNat x95)]? fun x96 =>
 bindO (dialtoneref22_Same (x94,x96)) fun x97 =>
 bif (!x97) then
 outO (outO (some Bool.false))
 else
 bif (lE v88) then
 some (Sum.inl ((wI (v9+z1)),(x69,(v11,((tA v88),(x74,(x75,(x76,(x77,(x78,(x79,(x80,(x81,x82)))))))))))))
 else none
 else none
 else none
 else none
 else none
 else none
 else
 outO (some (Sum.inl ()))
 else
 outO (some (Sum.inl ()))) (z0,(z0,(z0,((([]:List (LU×(LU×(Int×(Int×(Int×(LU×(Int×(LU×(Int×(List LU)))))))))))::([]:List (List (LU×(LU×(Int×(Int×(Int×(LU×(Int×(LU×(Int×(List LU))))))))))))),(a1,(a2,(a3,(a4,(([]:List (LU×(LU×(Int×(Int×(Int×(LU×(Int×(LU×(Int×(List LU))))))))))),(([]:List Int),(z0,(z0,z0))))))))))))) fun _ =>
 some Bool.true
noncomputable def cons7:List (Nat×CE):=[(9,⟨[],riB,(fun _=>some true)⟩),(29,ce29_openM),(9,⟨[],riB,(fun _=>some true)⟩),(16,ce16_syncM),(30,ce30),(31,ce31),(18,ce18),(9,⟨[],riB,(fun _=>some true)⟩),(20,ce20),(32,cej32),(8,ce8),(11,ce11),(10,ce10),(9,⟨[],riB,(fun _=>some true)⟩)]
theorem cons7_ok:ConL Try.prog cons7:=⟨con_true (by kernel_rfl) lives_o,con29_openM,con_true (by kernel_rfl) lives_o,con16_syncM,con30,con31,con18,con_true (by kernel_rfl) lives_o,con20,conj32,con8,con11,con10,con_true (by kernel_rfl) lives_o,trivial⟩
noncomputable def ce7:CE:=⟨[(.tmp 0 true [dI,dI,dI,dI]),(.tmp 1 false [(.dat (.list (.pair uI8 (.pair (.int .u16) (.pair (.int .u16) (.pair .str (.pair .str (.pair uI6 (.pair .bool (.pair (.list (.pair .str (.pair uI6 uI6))) (.pair uI6 (.pair .str (.pair uI6 (.list .str))))))))))))))])],[(.tmp 0 false [dO])],dialtonelaw22_RegistrarCrashes⟩
theorem con7:ConOk Try.prog 7 ce7 :=
 tree_ok (plan:=planOf plan7) (eg:=egNo) KK tabL_ok (conOf_ok cons7_ok) Try.func7 (by kernel_rfl) (by kernel_rfl) 10000 (fun a r h=>Eq.trans (show _=dialtonelaw22_RegistrarCrashes a from by kernel_rfl) h)
end Go.Proofs.Ytlaccfegaoaakaa

set_option maxRecDepth 100000
namespace Go.Proofs.Ytlaccfegaoaakaa
open Go.RowKit
theorem rp_eq (a1 a2:Int) (a3:List Int) (c:Cf) (a8:List Bnd) (a9:List Int) (a10 a11 a12:Int):replayM (a1,((a2,a3),(c.1,(c.2.1,(c.2.2.1,(c.2.2.2,(a8,(a9,(a10,(a11,a12)))))))))) =
 bif (decide (a2≠(1:Int))) then
  some ((5:Int),(c.1,(c.2.1,(c.2.2.1,(c.2.2.2,(a8,(a9,(a10,(a11,a12)))))))))
 else
  bindO (registrar_DecodeAct a3) fun (x14,(r,x24)) =>
  bif (decide (x24≠(0:Int))) then
   some ((5:Int),(c.1,(c.2.1,(c.2.2.1,(c.2.2.2,(a8,(a9,(a10,(a11,a12)))))))))
  else
   bif (decide (x14<a12)) then
    some ((5:Int),(c.1,(c.2.1,(c.2.2.1,(c.2.2.2,(a8,(a9,(a10,(a11,a12)))))))))
   else
    bindO (registrar_Update (c,(a8,(x14,(a1,r))))) fun (x26,x27) =>
    bif (decide (x27≠(0:Int))) then
     some ((5:Int),(c.1,(c.2.1,(c.2.2.1,(c.2.2.2,(a8,(a9,(a10,(a11,a12)))))))))
    else
     some ((0:Int),(c.1,(c.2.1,(c.2.2.1,(c.2.2.2,(x26,(a9,(a10,(a11,x14))))))))):=rfl
noncomputable def opB {δ:Type} (x11:Jn.Recs):(Int×RgS)→Option ((Int×RgS) ⊕ (RgS ⊕ δ)) :=
(fun (v12,g) =>
 bif (decide (v12<(((List.length x11):Nat):Int))) then
 bif (decide (((0:Int)≤v12)∧(v12<(((List.length x11):Nat):Int)))) then
 bindO x11[(Int.toNat v12)]? fun x22 =>
 bindO (replayM (v12,((x22.1,x22.2),g))) fun (x24,g2) =>
 bif (decide (x24≠(0:Int))) then
 outO (outO (none))
 else
 some (Sum.inl ((Go.IntKind.wrap .i64 (v12+(1:Int))),g2))
 else none
 else
 outO (some (Sum.inl g)))
theorem op_eq (c:Cf) (a5:List Int):openM ((c.1,(c.2.1,(c.2.2.1,c.2.2.2))),a5) =
 bindO (registrar_Valid c) fun x6 =>
 bif (!x6) then
  none
 else
  bindO (journal_Recover a5) fun ((x8,(x9,x10)),x11) =>
  joinO (loopO (opB x11) ((0:Int),(c.1,(c.2.1,(c.2.2.1,(c.2.2.2,(([]:List Bnd),(x8,(x9,(x10,(0:Int))))))))))) fun g3 =>
  some ((0:Int),g3):=rfl
abbrev MvT:=Int×(Int×(Int×Rg9))
abbrev CrT:=Int×(Int×(Int×(List (List Bnd)×RgS)))
noncomputable def crA (c:Cf) (a5:List MvT) (v9 v10 v11:Int) (v12:List (List Bnd)) (g:RgS):Option (CrT ⊕ (Unit ⊕ Bool)) :=
 bindO (syncM g) fun (x28,ga) =>
 bif (decide (x28≠(0:Int))) then
 outO (outO (some Bool.false))
 else
 bif (decide ((List.length v12)≤(List.length v12))) then
 some (Sum.inl ((Go.IntKind.wrap .i64 (v9+(1:Int))),(v10,((Go.IntKind.wrap .i64 ((((List.length v12):Nat):Int)-(1:Int))),((List.take (List.length v12) v12),ga)))))
 else none
noncomputable def crC (c:Cf) (a5:List MvT) (v9 v10 v11:Int) (v12:List (List Bnd)) (g:RgS):Option (CrT ⊕ (Unit ⊕ Bool)) :=
 bindO (registrar_Registrar_Log g) fun (x41,(x42,x43)) =>
 bif (decide (((0:Int)≤v9)∧(v9<(((List.length a5):Nat):Int)))) then
 bindO a5[(Int.toNat v9)]? fun x44 =>
 bif (decide ((List.length x41)≤(List.length x41))) then
 bindO (journal_Crash (((List.take (List.length x41) x41),(x42,x43)),(Go.IntKind.wrap .i64 x44.2.2.1))) fun x46 =>
 bindO (openM (c,x46)) fun (x48,gb) =>
 bif (decide (x48≠(0:Int))) then
 outO (outO (some Bool.false))
 else
 bindO (registrar_Registrar_Log gb) fun (x59,(x60,x61)) =>
 bif (decide (x61<v11)) then
 outO (outO (some Bool.false))
 else
 bif (decide (x61≥(((List.length v12):Nat):Int))) then
 outO (outO (some Bool.false))
 else
 bindO (registrar_Registrar_All gb) fun x62 =>
 bif (decide (((0:Int)≤x61)∧(x61<(((List.length v12):Nat):Int)))) then
 bindO v12[(Int.toNat x61)]? fun x63 =>
 bindO (dialtoneref22_Same (x62,x63)) fun x64 =>
 bif (!x64) then
 outO (outO (some Bool.false))
 else
 bindO (some (Go.IntKind.wrap .i64 (x61+(1:Int)))) fun x65 =>
 bif (decide (((0:Int)≤x65)∧(x65≤(((List.length v12):Nat):Int)))) then
 bif (decide ((Int.toNat x65)≤(List.length v12))) then
 some (Sum.inl ((Go.IntKind.wrap .i64 (v9+(1:Int))),(v10,(x61,((List.take (Int.toNat x65) v12),gb)))))
 else none
 else none
 else none
 else none
 else none
noncomputable def crR (c:Cf) (a5:List MvT) (v9 v10 v11:Int) (v12:List (List Bnd)) (g:RgS):Option (CrT ⊕ (Unit ⊕ Bool)) :=
 bif (decide (((0:Int)≤v9)∧(v9<(((List.length a5):Nat):Int)))) then
 bindO a5[(Int.toNat v9)]? fun x67 =>
 bindO (some (Go.IntKind.wrap .i64 (v10+(Go.IntKind.wrap .i64 x67.2.1)))) fun x69 =>
 bif (decide (((0:Int)≤v9)∧(v9<(((List.length a5):Nat):Int)))) then
 bindO a5[(Int.toNat v9)]? fun x70 =>
 bindO (registrar_Registrar_Register (x69,(x70.2.2.2,g))) fun (x72,(x73,gc)) =>
 joinO (bif (decide (x73=(0:Int))) then
 bif (decide (((0:Int)≤v9)∧(v9<(((List.length a5):Nat):Int)))) then
 bindO a5[(Int.toNat v9)]? fun x83 =>
 bif x83.2.2.2.2.2.2.1 then
 some (Sum.inl Bool.true)
 else
 bif (decide (((0:Int)≤v9)∧(v9<(((List.length a5):Nat):Int)))) then
 bindO a5[(Int.toNat v9)]? fun x84 =>
 some (Sum.inl (decide ((((List.length x84.2.2.2.2.2.2.2.1):Nat):Int) > (0:Int))))
 else none
 else none
 else
 some (Sum.inl Bool.false)) fun v85 =>
 joinO (bif v85 then
 bindO (registrar_Registrar_All gc) fun x86 =>
 bif (decide ((List.length v12)≤(List.length v12))) then
 bif (decide (((List.length ((List.take (List.length v12) v12)++(x86::([]:List (List Bnd)))))*24)≤140737488355328)) then
 bindO (some ((List.take (List.length v12) v12)++(x86::([]:List (List Bnd))))) fun x87 =>
 bif (decide ((List.length x87)≤(List.length x87))) then
 some (Sum.inl (List.take (List.length x87) x87))
 else none
 else none
 else none
 else
 bif (decide ((List.length v12)≤(List.length v12))) then
 some (Sum.inl (List.take (List.length v12) v12))
 else none) fun v88 =>
 bindO (registrar_Registrar_Log gc) fun (x90,(x91,x92)) =>
 bif (decide (x92≠(Go.IntKind.wrap .i64 ((((List.length v88):Nat):Int)-(1:Int))))) then
 outO (outO (some Bool.false))
 else
 bindO (registrar_Registrar_All gc) fun x94 =>
 bindO (some (Go.IntKind.wrap .i64 ((((List.length v88):Nat):Int)-(1:Int)))) fun x95 =>
 bif (decide (((0:Int)≤x95)∧(x95<(((List.length v88):Nat):Int)))) then
 bindO v88[(Int.toNat x95)]? fun x96 =>
 bindO (dialtoneref22_Same (x94,x96)) fun x97 =>
 bif (!x97) then
 outO (outO (some Bool.false))
 else
 bif (decide ((List.length v88)≤(List.length v88))) then
 some (Sum.inl ((Go.IntKind.wrap .i64 (v9+(1:Int))),(x69,(v11,((List.take (List.length v88) v88),gc)))))
 else none
 else none
 else none
 else none
noncomputable def crB (c:Cf) (a5:List MvT):CrT→Option (CrT ⊕ (Unit ⊕ Bool)) :=
(fun (v9,(v10,(v11,(v12,g)))) =>
 bif (decide (v9<(((List.length a5):Nat):Int))) then
 bif (decide (v9<(40:Int))) then
 bif (decide (((0:Int)≤v9)∧(v9<(((List.length a5):Nat):Int)))) then
 bindO a5[(Int.toNat v9)]? fun x22 =>
 bindO (dialtonelaw22_few x22.2.2.2) fun x23 =>
 bif (!x23) then
 outO (outO (some Bool.true))
 else
 bif (decide (((0:Int)≤v9)∧(v9<(((List.length a5):Nat):Int)))) then
 bindO a5[(Int.toNat v9)]? fun x25 =>
 bindO (some (Int.tmod x25.1 (5:Int))) fun x26 =>
 bif (decide (x26=(0:Int))) then
 (crA c a5 v9 v10 v11 v12 g)
 else
 bif (decide (x26=(1:Int))) then
 (crC c a5 v9 v10 v11 v12 g)
 else
 (crR c a5 v9 v10 v11 v12 g)
 else none
 else none
 else
 outO (some (Sum.inl ()))
 else
 outO (some (Sum.inl ())))
theorem cr_eq (c:Cf) (a5:List MvT):dialtonelaw22_RegistrarCrashes ((c.1,(c.2.1,(c.2.2.1,c.2.2.2))),a5) =
 bindO (registrar_Valid c) fun x6 =>
 bif (!x6) then
  bindO (dialtoneref22_Valid c) fun x7 =>
  bif (!x7) then
   some Bool.true
  else
   some Bool.false
 else
  joinO (loopO (crB c a5) ((0:Int),((0:Int),((0:Int),((([]:List Bnd)::([]:List (List Bnd))),(c.1,(c.2.1,(c.2.2.1,(c.2.2.2,(([]:List Bnd),(([]:List Int),((0:Int),((0:Int),(0:Int)))))))))))))) fun _ =>
  some Bool.true:=rfl
end Go.Proofs.Ytlaccfegaoaakaa

set_option maxRecDepth 100000
namespace Go.Proofs.Ytlaccfegaoaakaa
open Go.RowKit
abbrev Act:=Int×Rg9
def dA:Act:=(0,zR)
def tmA (A:List Act):Nat→Int
 | 0=>0
 | k+1=>(A.getD k dA).1
def rcA (A:List Act):Jn.Recs:=A.map fun a=>(1,encA a.1 a.2)
structure StepOk (c:Cf) (A:List Act) (S:List (List Bnd)) (k:Nat):Prop where
 ok:EOKr (A.getD k dA).1 (A.getD k dA).2
 len:(encA (A.getD k dA).1 (A.getD k dA).2).length≤4096
 tm:tmA A k≤(A.getD k dA).1
 upd:UPD c (S.getD k []) (A.getD k dA).1 (k:Int) (A.getD k dA).2=(S.getD (k+1) [],0)
structure CH (c:Cf) (A:List Act) (S:List (List Bnd)):Prop where
 len:S.length=A.length+1
 zero:S.getD 0 []=[]
 step:∀k,k<A.length→StepOk c A S k
theorem getD_ap {α:Type} (l m:List α) (d:α) {i:Nat} (h:i<l.length):(l++m).getD i d=l.getD i d:=by
 rw [List.getD_eq_getElem?_getD,List.getElem?_append_left h,List.getD_eq_getElem?_getD]
theorem getD_at {α:Type} (l:List α) (x d:α) {i:Nat} (h:i=l.length):(l++[x]).getD i d=x:=by
 subst h
 rw [List.getD_eq_getElem?_getD,List.getElem?_append_right (Nat.le_refl _),Nat.sub_self];rfl
theorem tmA_take (A:List Act) (k:Nat):∀j,j≤k→tmA (A.take k) j=tmA A j
 | 0,_=>rfl
 | j+1,h=>congrArg Prod.fst (getD_take A dA (by omega))
theorem tmA_app (A:List Act) (a:Act):∀j,j≤A.length→tmA (A++[a]) j=tmA A j
 | 0,_=>rfl
 | j+1,h=>congrArg Prod.fst (getD_ap A [a] dA (by omega))
section
variable {c:Cf} {A:List Act} {S:List (List Bnd)} (h:CH c A S)
include h
theorem CH.take {k:Nat} (hk:k≤A.length):CH c (A.take k) (S.take (k+1)):=by
 have hl:=h.len
 have lA:(A.take k).length=k:=by rw [List.length_take];omega
 refine ⟨by rw [List.length_take,lA];omega,by rw [getD_take _ _ (by omega)];exact h.zero,fun j hj => ?_⟩
 rw [lA] at hj
 have s:=h.step j (by omega)
 have e:(A.take k).getD j dA=A.getD j dA:=getD_take _ _ hj
 refine ⟨by rw [e];exact s.ok,by rw [e];exact s.len,by rw [e,tmA_take A k j (by omega)];exact s.tm,?_⟩
 rw [e,getD_take _ _ (by omega),getD_take _ _ (by omega)]
 exact s.upd
theorem CH.snoc {a:Act} {O:List Bnd} (h1:EOKr a.1 a.2) (h2:(encA a.1 a.2).length≤4096) (h3:tmA A A.length≤a.1) (h4:UPD c (S.getD A.length []) a.1 (A.length:Int) a.2=(O,0)):CH c (A++[a]) (S++[O]):=by
 have hl:=h.len
 refine ⟨by rw [List.length_append,List.length_append,hl];rfl,by rw [getD_ap _ _ _ (by omega)];exact h.zero,fun j hj => ?_⟩
 rw [List.length_append] at hj
 have hj:j<A.length+1:=hj
 by_cases hlt:j<A.length
 ·have s:=h.step j hlt
  have e:(A++[a]).getD j dA=A.getD j dA:=getD_ap _ _ _ hlt
  refine ⟨by rw [e];exact s.ok,by rw [e];exact s.len,by rw [e,tmA_app A a j (by omega)];exact s.tm,?_⟩
  rw [e,getD_ap _ _ _ (by omega),getD_ap _ _ _ (by omega)]
  exact s.upd
 ·obtain rfl:j=A.length:=by omega
  have e:(A++[a]).getD A.length dA=a:=getD_at _ _ _ rfl
  refine ⟨by rw [e];exact h1,by rw [e];exact h2,by rw [e,tmA_app A a _ (Nat.le_refl _)];exact h3,?_⟩
  rw [e,getD_ap _ _ _ (by omega),getD_at _ _ _ (by omega)]
  exact h4
theorem CH.li:∀k,k≤A.length→LI (S.getD k []) (k:Int)∧(S.getD k []).length≤20*k
 | 0,_=>by rw [h.zero];exact ⟨li0,by simp⟩
 | k+1,hk=>by
   obtain ⟨h1,h2⟩:=CH.li k (by omega)
   obtain ⟨_,_,_,h3,h4⟩:=upd_li h1 (h.step k (by omega)).upd
   have hn:((k:Int)+1)=((k+1:Nat):Int):=rfl
   rw [hn] at h3
   exact ⟨h3,by omega⟩
theorem CH.rok:∀r∈rcA A,Jn.RecOk r:=fun r hr=>by
 obtain ⟨a,ha,rfl⟩:=List.mem_map.1 hr
 obtain ⟨k,hk,rfl⟩:=List.getElem_of_mem ha
 have s:=h.step k hk
 have s1:=s.ok
 have s2:=s.len
 rw [getD_get _ hk] at s1 s2
 exact ⟨⟨show (0:Int)≤1 by decide,show (1:Int)≤255 by decide⟩,encA_by s1,s2⟩
end
theorem sumL_le:∀ {l:Jn.Recs},(∀r∈l,Jn.RecOk r)→Jn.sumL l≤4110*l.length
 | [],_=>Nat.le_refl _
 | r::l,h=>by
   have:=sumL_le fun x hx=>h x (List.mem_cons_of_mem _ hx)
   have:=(h r List.mem_cons_self).2.2
   rw [Jn.sumL,List.length_cons]
   omega
theorem rcA_len (A:List Act):(rcA A).length=A.length:=List.length_map ..
theorem rcA_take (A:List Act) (k:Nat):(rcA A).take k=rcA (A.take k):=(List.map_take ..).symm
section
variable {c:Cf} {A:List Act} {S:List (List Bnd)} (h:CH c A S)
include h
theorem CH.bi {sy:Nat} (hs:sy≤A.length):BI (Jn.encAll 0 (rcA A)) (Jn.sumL ((rcA A).take sy):Int) (A.length:Int) A.length:=by
 have h1:=sumL_le h.rok
 have h2:=Jn.sumL_mono (rcA A) (i:=sy) (j:=A.length) hs
 rw [show (rcA A).take A.length=rcA A by rw [List.take_of_length_le (by rw [rcA_len];exact Nat.le_refl _)]] at h2
 rw [rcA_len] at h1
 refine ⟨?_,?_,?_⟩
 ·rw [Jn.encAll_length];omega
 ·rw [Jn.encAll_length];omega
 ·omega
theorem rep_j (hv:VC c) {k:Nat} (hk:k<A.length) (hA:A.length≤100) (B:List Int) (s n:Int) :
 replayM ((k:Int),((1,encA (A.getD k dA).1 (A.getD k dA).2),mkS c (S.getD k []) B s n (tmA A k)))=some (0,mkS c (S.getD (k+1) []) B s n (A.getD k dA).1):=by
 obtain ⟨h1,h2⟩:=h.li k (by omega)
 have st:=h.step k hk
 obtain ⟨a,ha⟩:∃a,A.getD k dA=a:=⟨_,rfl⟩
 obtain ⟨s1,s2,s3,s4⟩:=st
 rw [ha] at s1 s2 s3 s4 ⊢
 have hd:registrar_DecodeAct (encA a.1 a.2)=some (a.1,(a.2,0)):=dec_enc s1 s2
 have hu:=updP_j c (S.getD k []) a.1 (k:Int) a.2 (by omega) (fun b hb=>by have:=h1.pth b hb;omega)
 rw [s4] at hu
 unfold mkS
 rw [rp_eq]
 simp (disch:=(first | omega | (simp only [LNl];omega))) only [↓SDl,SDr,hd,hu,if_pos,if_neg,ne_eq,not_true_eq_false,decide_false]
theorem oploop_j {δ:Type} (hv:VC c) (hA:A.length≤100) (B:List Int) (s n:Int) :
 loopO (opB (δ:=δ) (rcA A)) ((0:Int),mkS c [] B s n 0)=some (.inl (mkS c (S.getD A.length []) B s n (tmA A A.length))):=by
 refine loopO_from (fun k=>((k:Int),mkS c (S.getD k []) B s n (tmA A k))) A.length (by show ((0:Int),mkS c (S.getD 0 []) B s n 0)=_;rw [h.zero]) (fun k hk => ?_) ?_
 ·have hr:=rep_j h hv hk hA B s n
  have hl:=rcA_len A
  obtain ⟨x,hx,hxb⟩:=get_at ((0,[]):Int×List Int) (show k<(rcA A).length by omega)
  have hx2:x=(1,encA (A.getD k dA).1 (A.getD k dA).2):=by
   rw [←hx,getD_get _ (show k<(rcA A).length by omega),getD_get _ hk]
   exact List.getElem_map ..
  subst hx2
  have hn:((k:Int)+1)=((k+1:Nat):Int):=rfl
  show opB (rcA A) ((k:Int),_)=some (.inl (((k+1:Nat):Int),mkS c _ B s n (A.getD k dA).1))
  unfold opB
  simp (disch:=(first | omega | (simp only [LNl];omega))) only [↓SDl,SDr,↓hxb,hr,wrap_i64',hn,if_pos,if_neg,ne_eq,not_true_eq_false,decide_false,hl]
 ·have hl:=rcA_len A
  unfold opB
  simp (disch:=(first | omega | (simp only [LNl];omega))) only [↓SDl,SDr,if_pos,if_neg,hl]
theorem open_j (hv:VC c) (hA:A.length≤100) {m:Nat} (hm:m≤(Jn.encAll 0 (rcA A)).length) :
 ∃k,k=Jn.cnt (rcA A) m∧k≤A.length∧openM (c,(Jn.encAll 0 (rcA A)).take m)=some (0,mkS c (S.getD k []) (Jn.encAll 0 (rcA (A.take k))) (Jn.sumL (rcA (A.take k)):Int) (k:Int) (tmA A k)):=by
 have hok:=h.rok
 have hl:=rcA_len A
 have hle:=Jn.cnt_le (rcA A) m
 have hscan:=Jn.scan_cut (rcA A) ((Jn.encAll 0 (rcA A)).take m) [] 0 m hok rfl (Nat.zero_le _) hm (by simp;omega)
 have hspec:=(Jn.cnt_spec (rcA A) m).1
 have hel:=Jn.endC_le (rcA A) m
 have hsl:=sumL_le hok
 rw [Jn.encAll_length] at hm
 rw [List.nil_append,Nat.zero_add] at hscan
 have hrec:=Jn.recover_j ((Jn.encAll 0 (rcA A)).take m) (fun x hx=>Jn.encAll_bytes (rcA A) 0 hok x (List.take_subset _ _ hx)) (by rw [List.length_take,Jn.encAll_length];omega) hscan
 obtain ⟨k,hk⟩:∃k,k=Jn.cnt (rcA A) m:=⟨_,rfl⟩
 rw [←hk] at hrec hspec hle
 have lT:((rcA A).take k).length=k:=by rw [List.length_take];omega
 rw [Int.toNat_natCast,List.take_take,Nat.min_eq_left hel,←hspec,Jn.encAll_take,lT,rcA_take] at hrec
 refine ⟨k,hk,by omega,?_⟩
 have hT:=h.take (k:=k) (by omega)
 have lA:(A.take k).length=k:=by rw [List.length_take];omega
 have ho:=fun δ=>oploop_j (δ:=δ) hT hv (by omega) (Jn.encAll 0 (rcA (A.take k))) (Jn.sumL (rcA (A.take k)):Int) (k:Int)
 rw [lA,tmA_take A k k (Nat.le_refl _),getD_take _ _ (by omega)] at ho
 have hvj:=vc_j c
 rw [tf_t hv] at hvj
 show openM ((c.1,(c.2.1,(c.2.2.1,c.2.2.2))),_)=_
 rw [op_eq]
 unfold mkS at ho ⊢
 simp only [↓SDl,SDr,hvj,Bool.not_true,hrec,ho]
end
end Go.Proofs.Ytlaccfegaoaakaa

set_option maxRecDepth 100000
set_option maxHeartbeats 1000000
namespace Go.Proofs.Ytlaccfegaoaakaa
open Go.RowKit
noncomputable def gOf (c:Cf) (A:List Act) (S:List (List Bnd)) (sy:Nat):RgS:=mkS c (S.getD A.length []) (Jn.encAll 0 (rcA A)) (Jn.sumL ((rcA A).take sy):Int) (A.length:Int) (tmA A A.length)
theorem encAll_snoc (A:List Act) (a:Act):Jn.encAll 0 (rcA (A++[a]))=Jn.encAll 0 (rcA A)++Jn.encB (A.length:Int) 1 (encA a.1 a.2):=by
 unfold rcA
 rw [List.map_append,Jn.encAll_append,List.length_map]
 show _++(Jn.encB ((0+A.length:Nat):Int) 1 (encA a.1 a.2)++[])=_
 rw [List.append_nil,Nat.zero_add]
def dMv:MvT:=(0,(0,(0,zR)))
section
variable {c:Cf} (hv:VC c) {A:List Act} {S:List (List Bnd)} (h:CH c A S) {sy:Nat} (hs:sy≤A.length) (M:List MvT) {i:Nat} (hi:i<M.length) (h40:i<40) (hA:A.length≤i) (now:Int)
include hv h hs hi h40 hA
theorem crA_j:∃sy',sy'≤A.length∧crA c M (i:Int) now (sy:Int) S (gOf c A S sy)=some (.inl ((i:Int)+1,(now,((sy':Int),(S,gOf c A S sy'))))):=by
 refine ⟨A.length,Nat.le_refl _,?_⟩
 have hl:=h.len
 have hS:=sync_j (c:=c) (L:=S.getD A.length []) (last:=tmA A A.length) (k:=A.length) (by omega) hv (h.bi hs)
 have e:(rcA A).take A.length=rcA A:=List.take_of_length_le (by rw [rcA_len];exact Nat.le_refl _)
 rw [Jn.encAll_length] at hS
 unfold gOf
 rw [e]
 unfold crA
 simp (disch:=(first | omega | (simp only [LNl];omega))) only [↓SDl,SDr,hS,wrap_i64',List.take_length,if_pos,if_neg,ne_eq,not_true_eq_false,decide_false,decide_true]
 rw [hl]
 have:(((A.length+1:Nat):Int)-1)=(A.length:Int):=by omega
 rw [this]
theorem crC_j:∃A' S' sy',CH c A' S'∧sy'≤A'.length∧A'.length≤A.length∧crC c M (i:Int) now (sy:Int) S (gOf c A S sy)=some (.inl ((i:Int)+1,(now,((sy':Int),(S',gOf c A' S' sy'))))):=by
 have hl:=h.len
 obtain ⟨x,hx,hxb⟩:=get_at dMv hi
 have hB:=h.bi hs
 have hlog:=log_j (L:=S.getD A.length []) (last:=tmA A A.length) (by omega) hv hB
 have hb:=hB.bl
 obtain ⟨m,m1,m2,hcr⟩:=Jn.crash_j (Jn.encAll 0 (rcA A)) (Jn.sumL ((rcA A).take sy):Int) (A.length:Int) (IntKind.wrap .i64 x.2.2.1) (by omega) hB.sy (by omega)
 obtain ⟨k,hk,hkA,ho⟩:=open_j h hv (by omega) m2
 have hks:sy≤k:=by rw [hk];exact Jn.cnt_ge (by rw [rcA_len];exact hs) (by omega)
 have hT:=h.take hkA
 have lA:(A.take k).length=k:=by rw [List.length_take];omega
 have hBT:=hT.bi (sy:=k) (by omega)
 have eT:(rcA (A.take k)).take k=rcA (A.take k):=List.take_of_length_le (by rw [rcA_len,lA];exact Nat.le_refl _)
 rw [eT,lA] at hBT
 have hlog2:=log_j (L:=S.getD k []) (last:=tmA A k) (by omega) hv hBT
 obtain ⟨hLk,hlk⟩:=h.li k hkA
 have hall:=all_j (B:=Jn.encAll 0 (rcA (A.take k))) (s:=(Jn.sumL (rcA (A.take k)):Int)) (last:=tmA A k) (by omega) hv hLk hlk
 have hSk:∀ {β:Type} (f:List Bnd→Option β),bindO S[Int.toNat (k:Int)]? f=f (S.getD k []):=fun f=>get_bz _ f (by omega)
 have hsame:=sameB_j (S.getD k []) (by omega) hLk.pth
 refine ⟨A.take k,S.take (k+1),k,hT,by omega,by omega,?_⟩
 have hg:gOf c (A.take k) (S.take (k+1)) k=mkS c (S.getD k []) (Jn.encAll 0 (rcA (A.take k))) (Jn.sumL (rcA (A.take k)):Int) (k:Int) (tmA A k):=by
  unfold gOf
  rw [eT,lA,tmA_take A k k (Nat.le_refl _),getD_take _ _ (by omega)]
 rw [hg]
 unfold gOf
 generalize mkS c (S.getD k []) (Jn.encAll 0 (rcA (A.take k))) (Jn.sumL (rcA (A.take k)):Int) (k:Int) (tmA A k)=gk at *
 unfold crC
 have hn:((k:Int)+1)=((k+1:Nat):Int):=rfl
 simp (disch:=(first | omega | (simp only [LNl];omega))) only [↓SDl,SDr,hlog,↓hxb,hcr,ho,hlog2,hall,↓hSk,hsame,wrap_i64',List.take_length,if_pos,if_neg,ne_eq,not_true_eq_false,decide_false,decide_true,hn,Int.toNat_natCast]
theorem crR_j:∃A' S' sy' now',CH c A' S'∧sy'≤A'.length∧A'.length≤A.length+1∧crR c M (i:Int) now (sy:Int) S (gOf c A S sy)=some (.inl ((i:Int)+1,(now',((sy':Int),(S',gOf c A' S' sy'))))):=by
 have hl:=h.len
 obtain ⟨x,hx,hxb⟩:=get_at dMv hi
 obtain ⟨t,ht⟩:∃t,IntKind.wrap .i64 (now+IntKind.wrap .i64 x.2.1)=t:=⟨_,rfl⟩
 have hB:=h.bi hs
 obtain ⟨hL,hlL⟩:=h.li A.length (Nat.le_refl _)
 obtain ⟨res,e,hr⟩:=reg_prog c (S.getD A.length []) (Jn.encAll 0 (rcA A)) (Jn.sumL ((rcA A).take sy):Int) (A.length:Int) (tmA A A.length) t x.2.2.2 A.length (by omega) hv hL hlL hB
 rcases hr with ⟨hw,hr⟩ | ⟨O,he,hw,hE,lE,hlast,hU,hr⟩
 ·refine ⟨A,S,sy,t,h,hs,by omega,?_⟩
  have hlog:=log_j (L:=S.getD A.length []) (last:=tmA A A.length) (by omega) hv hB
  have hall:=all_j (B:=Jn.encAll 0 (rcA A)) (s:=(Jn.sumL ((rcA A).take sy):Int)) (last:=tmA A A.length) (by omega) hv hL hlL
  have hsame:=sameB_j (S.getD A.length []) (by omega) hL.pth
  have hSk:∀ {β:Type} (f:List Bnd→Option β),bindO S[Int.toNat (A.length:Int)]? f=f (S.getD A.length []):=fun f=>get_bz _ f (by omega)
  unfold gOf
  generalize mkS c (S.getD A.length []) (Jn.encAll 0 (rcA A)) (Jn.sumL ((rcA A).take sy):Int) (A.length:Int) (tmA A A.length)=g at *
  have hd:(((S.length:Nat):Int)-1)=(A.length:Int):=by omega
  have hc3:¬e=0∨(e=0∧x.2.2.2.2.2.2.1=false∧¬((x.2.2.2.2.2.2.2.1.length:Int) > 0)):=by
   by_cases he:e=0
   ·refine .inr ⟨he,?_,?_⟩
    ·cases hst:x.2.2.2.2.2.2.1 with
     | false=>rfl
     | true=>exact absurd ⟨he,.inl hst⟩ hw
    ·intro hg
     exact hw ⟨he,.inr fun h0=>by
      have h0:x.2.2.2.2.2.2.2.1.length=0:=h0
      omega⟩
   ·exact .inl he
  rcases hc3 with he | ⟨he,hst,h0⟩
  ·unfold crR
   simp (disch:=(first | omega | (simp only [LNl];omega))) only [↓SDl,SDr,↓hxb,ht,hr,he,hlog,hall,hd,↓hSk,hsame,wrap_i64',List.take_length,if_pos,if_neg,ne_eq,not_true_eq_false,not_false_eq_true,decide_false,decide_true]
  ·unfold crR
   simp (disch:=(first | omega | (simp only [LNl];omega))) only [↓SDl,SDr,↓hxb,ht,hr,he,hst,h0,hlog,hall,hd,↓hSk,hsame,wrap_i64',List.take_length,if_pos,if_neg,ne_eq,not_true_eq_false,not_false_eq_true,decide_false,decide_true]
 ·have hC:=h.snoc (a:=(t,x.2.2.2)) hE lE hlast hU
  have lA2:(A++[(t,x.2.2.2)]).length=A.length+1:=by rw [List.length_append];rfl
  have lS2:(S++[O]).length=A.length+2:=by rw [List.length_append,hl];rfl
  refine ⟨A++[(t,x.2.2.2)],S++[O],sy,t,hC,by omega,by omega,?_⟩
  have eS:(S++[O]).getD (A.length+1) []=O:=getD_at _ _ _ (by omega)
  have eA:(A++[(t,x.2.2.2)]).getD A.length dA=(t,x.2.2.2):=getD_at _ _ _ rfl
  have eT:(rcA (A++[(t,x.2.2.2)])).take sy=(rcA A).take sy:=by
   rw [show rcA (A++[(t,x.2.2.2)])=rcA A++[((1:Int),encA t x.2.2.2)] from List.map_append ..,List.take_append_of_le_length (by rw [rcA_len];exact hs)]
  have hg:gOf c (A++[(t,x.2.2.2)]) (S++[O]) sy=mkS c O (Jn.encAll 0 (rcA A)++Jn.encB (A.length:Int) 1 (encA t x.2.2.2)) (Jn.sumL ((rcA A).take sy):Int) ((A.length:Int)+1) t:=by
   unfold gOf
   rw [lA2,eS,eT,encAll_snoc]
   show mkS c O _ _ _ ((A++[(t,x.2.2.2)]).getD A.length dA).1=_
   rw [eA]
   rfl
  have hB2:=hC.bi (sy:=sy) (by omega)
  rw [eT,encAll_snoc,lA2] at hB2
  have hL2:=hC.li (A.length+1) (by omega)
  rw [eS] at hL2
  have hn:((A.length:Int)+1)=((A.length+1:Nat):Int):=rfl
  rw [hg]
  rw [hn] at hr ⊢
  have hlog:=log_j (L:=O) (last:=t) (by omega) hv hB2
  have hall:=all_j (B:=Jn.encAll 0 (rcA A)++Jn.encB (A.length:Int) 1 (encA t x.2.2.2)) (s:=(Jn.sumL ((rcA A).take sy):Int)) (last:=t) (by omega) hv hL2.1 hL2.2
  have hsame:=sameB_j O (by omega) hL2.1.pth
  have hSk:∀ {β:Type} (f:List Bnd→Option β),bindO (S++[O])[Int.toNat (((A.length+1:Nat):Int))]? f=f O:=fun f=>(get_bz ([]:List Bnd) f (by omega)).trans (congrArg f eS)
  unfold gOf
  generalize mkS c O (Jn.encAll 0 (rcA A)++Jn.encB (A.length:Int) 1 (encA t x.2.2.2)) (Jn.sumL ((rcA A).take sy):Int) ((A.length+1:Nat):Int) t=g at *
  subst he
  have hd:(((S++[O]).length:Nat):Int)-1=((A.length+1:Nat):Int):=by omega
  have hl24:(S++[O]).length*24≤140737488355328:=by omega
  have hc3:x.2.2.2.2.2.2.1=true∨(x.2.2.2.2.2.2.1=false∧((x.2.2.2.2.2.2.2.1.length:Int) > 0)):=by
   cases hst:x.2.2.2.2.2.2.1 with
   | true=>exact .inl rfl
   | false =>
     refine .inr ⟨rfl,?_⟩
     rcases hw with hw | hw
     ·have hw:x.2.2.2.2.2.2.1=true:=hw
      rw [hst] at hw;cases hw
     ·have hw:x.2.2.2.2.2.2.2.1.length≠0:=hw
      omega
  generalize hS2:S++[O]=S2 at *
  rcases hc3 with hst | ⟨hst,h0⟩
  ·unfold crR
   simp (disch:=(first | omega | (simp only [LNl];omega))) only [↓SDl,SDr,↓hxb,ht,hr,hst,hall,List.take_length,hS2,hlog,hd,↓hSk,hsame,wrap_i64',if_pos,if_neg,ne_eq,not_true_eq_false,not_false_eq_true,decide_false,decide_true]
  ·unfold crR
   simp (disch:=(first | omega | (simp only [LNl];omega))) only [↓SDl,SDr,↓hxb,ht,hr,hst,h0,hall,List.take_length,hS2,hlog,hd,↓hSk,hsame,wrap_i64',if_pos,if_neg,ne_eq,not_true_eq_false,not_false_eq_true,decide_false,decide_true]
end
theorem crashes_j (P:Option Bool→Prop) (hP:P (some true)) {c:Cf} (hv:VC c) (M:List MvT) {k:Unit→Option Bool} (hk:∀x,k x=some true) :
 P (joinO (loopO (crB c M) ((0:Int),((0:Int),((0:Int),([[]],mkS c [] [] 0 0 0))))) k):=by
 refine loopO_postG (P:=P)
  (fun x:CrT=>∃(i:Nat) (now:Int) (A:List Act) (S:List (List Bnd)) (sy:Nat),x=((i:Int),(now,((sy:Int),(S,gOf c A S sy))))∧i≤M.length∧i≤40∧CH c A S∧sy≤A.length∧A.length≤i)
  (fun x=>M.length-x.1.toNat) (fun x hx => ?_) ⟨0,0,[],[[]],0,rfl,Nat.zero_le _,by omega,⟨rfl,rfl,fun k hk=>absurd hk (Nat.not_lt_zero _)⟩,Nat.le_refl _,Nat.le_refl _⟩
 obtain ⟨i,now,A,S,sy,rfl,hi,h4,h,hs,hA⟩:=hx
 have hn:((i:Int)+1)=((i+1:Nat):Int):=rfl
 by_cases hl:i<M.length
 ·by_cases h40:i<40
  ·obtain ⟨x,hx,hxb⟩:=get_at dMv hl
   obtain ⟨f,hf⟩:=few_some' x.2.2.2
   cases f with
   | false =>
     unfold crB
     simp (disch:=(first | omega | (simp only [LNl];omega))) only [↓SDl,SDr,if_pos,if_neg,↓hxb,hf]
     exact .stop hP
   | true =>
     by_cases h0:Int.tmod x.1 5=0
     ·obtain ⟨sy',g1,g2⟩:=crA_j hv h hs M hl h40 hA now
      unfold crB
      simp (disch:=(first | omega | (simp only [LNl];omega))) only [↓SDl,SDr,if_pos,if_neg,↓hxb,hf,h0,g2,hn]
      exact .next ⟨i+1,now,A,S,sy',rfl,by omega,by omega,h,g1,by omega⟩ (by simp;omega)
     ·by_cases h1:Int.tmod x.1 5=1
      ·obtain ⟨A',S',sy',g1,g2,g3,g4⟩:=crC_j hv h hs M hl h40 hA now
       unfold crB
       simp (disch:=(first | omega | (simp only [LNl];omega))) only [↓SDl,SDr,if_pos,if_neg,↓hxb,hf,h0,h1,g4,hn]
       exact .next ⟨i+1,now,A',S',sy',rfl,by omega,by omega,g1,g2,by omega⟩ (by simp;omega)
      ·obtain ⟨A',S',sy',now',g1,g2,g3,g4⟩:=crR_j hv h hs M hl h40 hA now
       unfold crB
       simp (disch:=(first | omega | (simp only [LNl];omega))) only [↓SDl,SDr,if_pos,if_neg,↓hxb,hf,h0,h1,g4,hn]
       exact .next ⟨i+1,now',A',S',sy',rfl,by omega,by omega,g1,g2,by omega⟩ (by simp;omega)
  ·unfold crB
   simp (disch:=(first | omega | (simp only [LNl];omega))) only [↓SDl,SDr,if_pos,if_neg]
   refine .stop ?_
   rw [joinO_inl,hk];exact hP
 ·unfold crB
  simp (disch:=(first | omega | (simp only [LNl];omega))) only [↓SDl,SDr,if_pos,if_neg]
  refine .stop ?_
  rw [joinO_inl,hk];exact hP
theorem crashes_main (a:Cf×List MvT) {q:Prop} (_:q):dialtonelaw22_RegistrarCrashes a=some true:=by
 obtain ⟨c,M⟩:=a
 have h1:=vc_j c
 have h2:=vcR_j c
 show dialtonelaw22_RegistrarCrashes ((c.1,(c.2.1,(c.2.2.1,c.2.2.2))),M)=_
 rw [cr_eq,h1,bindO_some]
 by_cases hv:VC c
 ·rw [tf_t hv] at h2 ⊢
  rw [Bool.not_true,cond_false]
  exact crashes_j (fun o=>o=some true) rfl hv M (fun _=>rfl)
 ·rw [tf_f hv] at h2 ⊢
  rw [Bool.not_false,cond_true,h2,bindO_some,Bool.not_false,cond_true]
end Go.Proofs.Ytlaccfegaoaakaa
