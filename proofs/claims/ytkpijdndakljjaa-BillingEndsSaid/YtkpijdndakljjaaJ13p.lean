import Derived.Test.YtkpijdndakljjaaJ8p
import Derived.Test.YtkpijdndakljjaaZrp
import Derived.Test.YtkpijdndakljjaaFp
import Derived.Test.YtkpijdndakljjaaXBp
import Derived.Test.YtkpijdndakljjaaY3p
set_option linter.unusedSimpArgs false
set_option linter.unusedVariables false
set_option maxRecDepth 100000
set_option maxHeartbeats 4000000
namespace Go.Proofs.Ytkpijdndakljjaa
open Go.RowKit
def Opb (x:BL):Prop:=(x.2.2.2.2.2.2.1=0∧x.2.2.2.2.2.2.2.1=0∧x.2.2.2.2.2.2.2.2.1=0)∧(x.2.2.2.2.1 = -1∨0≤x.2.2.2.2.1)∧x.1.length≤200
noncomputable def nmF (rs:List Ra) (fr:Int) (last:Int) (x:BL) (t:Int):Int×(Int×Int):=if x.2.2.2.2.1 ≠ -1 then (last+1,(Rt.SE x.2.2.2.2.1 t,coR rs fr x.2.2.1 x.2.2.2.2.1 t)) else (0,(0,0))
noncomputable def dE (rs:List Ra) (fr:Int) (last:Int) (x:BL) (t:Int):List Int:=datL [t,(nmF rs fr last x t).1,(nmF rs fr last x t).2.1,(nmF rs fr last x t).2.2] [x.1]
noncomputable def bsF (rs:List Ra) (fr:Int) (l:List BL) (last:Int) (p:Nat) (t:Int):List BL:=if (l.getD p b0).2.2.2.2.1 ≠ -1 then rst l p++[rcd (l.getD p b0) t (last+1) (Rt.SE (l.getD p b0).2.2.2.2.1 t) (coR rs fr (l.getD p b0).2.2.1 (l.getD p b0).2.2.2.2.1 t)] else rst l p
def laF (l:List BL) (last:Int) (p:Nat):Int:=if (l.getD p b0).2.2.2.2.1 ≠ -1 then last+1 else last
open Classical in
noncomputable def finR (rs:List Ra) (fr:Int) (g:LG) (p:Nat) (t now:Int):LG×Int :=
 if ((g.2.2.2.1.getD p b0).2.2.2.2.1 ≠ -1∧g.2.2.2.2.1≥1048576)∨g.2.2.1≥1048576 then (zG,10) else
  ((g.1++Jn.encB g.2.2.1 4 (dE rs fr g.2.2.2.2.1 (g.2.2.2.1.getD p b0) t),(g.2.1,(g.2.2.1+1,(bsF rs fr g.2.2.2.1 g.2.2.2.2.1 p t,(laF g.2.2.2.1 g.2.2.2.2.1 p,now))))),0)
theorem dE_ok (rs:List Ra) (fr:Int) {last:Int} {x:BL} {t:Int} (h5:0≤last∧last≤1048576) (hx:Opb x) (ht:0≤t∧t≤1099511627776):DOk [t,(nmF rs fr last x t).1,(nmF rs fr last x t).2.1,(nmF rs fr last x t).2.2] [x.1]∧(dE rs fr last x t).length≤4096:=by
 obtain ⟨c,e,_,_,_,h6⟩:=co_spec rs fr x.2.2.1 x.2.2.2.2.1 t
 have h7:=Rt.se_nn x.2.2.2.2.1 t
 have h8:=hx.2.2
 refine ⟨⟨⟨by simp,fun n hn => ?_⟩,by simp,fun t ht => ?_⟩,?_⟩
 ·unfold nmF at hn
  simp only [List.mem_cons,List.not_mem_nil,or_false] at hn
  split at hn<;>simp only at hn<;>omega
 ·rw [List.mem_singleton] at ht;subst ht;omega
 ·rw [dE,datL_length]
  simp only [List.flatMap_cons,List.flatMap_nil,List.length_append,tB_len,List.length_cons,List.length_nil]
  omega
theorem fin_j (rs:List Ra) (fr:Int) (g:LG) {p:Nat} (t:Int) (hp:p<g.2.2.2.1.length) (hl:g.2.2.2.1.length≤1000000) (hB:g.1.length≤900000) (h1:0≤g.2.1∧g.2.1≤(g.1.length:Int)) (h2:0≤g.2.2.1) (h5:0≤g.2.2.2.2.1∧g.2.2.2.2.1≤1048576) (hx:Opb (g.2.2.2.1.getD p b0)) (ht:0≤t∧t≤1099511627776) :
 billing_finish (g,((rs,fr),(((p:Nat):Int),t)))=some (finR rs fr g p t g.2.2.2.2.2):=by
 rw [fin_eq]
 unfold finR
 have hd:=dE_ok rs fr h5 hx ht
 have hrl:=rst_len hp
 unfold bsF laF
 obtain ⟨x,hxx,hxb⟩:=get_at b0 hp
 rw [hxx] at hx hd ⊢
 rw [Int.toNat_natCast] at hxb
 obtain ⟨c,e,c1,c2,c3,c4⟩:=co_spec rs fr x.2.2.1 x.2.2.2.2.1 t
 have hC:∀ {β:Type} (f:Int×Int→Option β),bindO (rating_Cost ((rs,fr),(x.2.2.1,(x.2.2.2.2.1,t)))) f=f (c,e):=fun f=>by rw [c1];rfl
 have hD:=fun {β:Type} (f:List BL→Option β)=>del_b (l:=g.2.2.2.1) (p:=p) (j:=((p:Nat):Int)+1) hl hp rfl f
 have hrst:g.2.2.2.1.take p++g.2.2.2.1.drop (p+1)=rst g.2.2.2.1 p:=rfl
 have hlast:Go.IntKind.wrap .i64 (g.2.2.2.2.1+(1:Int))=g.2.2.2.2.1+1:=wrap_i64' (by omega)
 have hpw:Go.IntKind.wrap .i64 (((p:Nat):Int)+(1:Int))=((p:Nat):Int)+1:=wrap_i64' (by omega)
 unfold dE at hd
 unfold dE
 by_cases ha:x.2.2.2.2.1 ≠ -1
 ·have hnm:nmF rs fr g.2.2.2.2.1 x t=(g.2.2.2.2.1+1,(Rt.SE x.2.2.2.2.1 t,coR rs fr x.2.2.1 x.2.2.2.2.1 t)):=if_pos ha
  rw [hnm] at hd ⊢
  simp only at hd
  by_cases hq:g.2.2.2.2.1≥1048576
  ·rw [if_pos (.inl ⟨ha,hq⟩)]
   simp (disch:=(first | omega | (simp only [LNl];omega))) only [↓SDl,SDr,if_pos,Int.toNat_natCast,↓hxb,↓clone_b hl,hpw,↓hD]
   rfl
  ·by_cases hc:g.2.2.1≥1048576
   ·rw [if_pos (.inr hc)]
    by_cases he:e=0
    ·rw [if_pos he] at c3
     rw [c3] at hd
     simp (disch:=(first | omega | (simp only [LNl];omega))) only [↓SDl,SDr,if_pos,if_neg,Int.toNat_natCast,↓hxb,↓clone_b hl,hpw,↓hD,hrst,hlast,↓sec_b,↓hC,he,↓data_b hd.1,↓wf_b hc]
     rfl
    ·rw [if_neg he] at c3
     rw [c3] at hd
     have hz:=hx.1.2.2
     simp (disch:=(first | omega | (simp only [LNl];omega))) only [↓SDl,SDr,if_pos,if_neg,hz,Int.toNat_natCast,↓hxb,↓clone_b hl,hpw,↓hD,hrst,hlast,↓sec_b,↓hC,he,↓data_b hd.1,↓wf_b hc]
     rfl
   ·rw [if_neg (by omega),if_pos ha,if_pos ha]
    have hlg:LgOk (g.1,(g.2.1,g.2.2.1)):=⟨hB,h1,h2,show g.2.2.1<1048576 by omega⟩
    by_cases he:e=0
    ·rw [if_pos he] at c3
     rw [c3] at hd ⊢
     simp (disch:=(first | omega | (simp only [LNl];omega))) only [↓SDl,SDr,if_pos,if_neg,Int.toNat_natCast,↓hxb,↓clone_b hl,hpw,↓hD,hrst,hlast,↓sec_b,↓hC,he,↓data_b hd.1,↓wr_b hlg (show (0:Int)≤4∧(4:Int)≤255 by omega) (datL_bytes _ _) hd.2]
     rfl
    ·rw [if_neg he] at c3
     rw [c3] at hd ⊢
     have hz:=hx.1.2.2
     simp (disch:=(first | omega | (simp only [LNl];omega))) only [↓SDl,SDr,if_pos,if_neg,hz,Int.toNat_natCast,↓hxb,↓clone_b hl,hpw,↓hD,hrst,hlast,↓sec_b,↓hC,he,↓data_b hd.1,↓wr_b hlg (show (0:Int)≤4∧(4:Int)≤255 by omega) (datL_bytes _ _) hd.2]
     rfl
 ·have hnm:nmF rs fr g.2.2.2.2.1 x t=(0,(0,0)):=if_neg ha
  rw [hnm] at hd ⊢
  simp only at hd
  have hz:=hx.1
  by_cases hc:g.2.2.1≥1048576
  ·rw [if_pos (.inr hc)]
   simp (disch:=(first | omega | (simp only [LNl];omega))) only [↓SDl,SDr,if_pos,if_neg,Int.toNat_natCast,↓hxb,↓clone_b hl,hpw,↓hD,hrst,hz.1,hz.2.1,hz.2.2,↓data_b hd.1,↓wf_b hc]
   rfl
  ·rw [if_neg (by omega),if_neg ha,if_neg ha]
   have hlg:LgOk (g.1,(g.2.1,g.2.2.1)):=⟨hB,h1,h2,show g.2.2.1<1048576 by omega⟩
   simp (disch:=(first | omega | (simp only [LNl];omega))) only [↓SDl,SDr,if_pos,if_neg,Int.toNat_natCast,↓hxb,↓clone_b hl,hpw,↓hD,hrst,hz.1,hz.2.1,hz.2.2,↓data_b hd.1,↓wr_b hlg (show (0:Int)≤4∧(4:Int)≤255 by omega) (datL_bytes _ _) hd.2]
theorem ended_j (rs:List Ra) (fr:Int) (g:LG) {p:Nat} (t:Int) (hp:p<opn g.2.2.2.1) (hs:Srt g.2.2.2.1) (hl:g.2.2.2.1.length≤1000000) (hB:g.1.length≤900000) (h1:0≤g.2.1∧g.2.1≤(g.1.length:Int)) (h2:0≤g.2.2.1) (h5:0≤g.2.2.2.2.1∧g.2.2.2.2.1≤1048576) (hx:Opb (g.2.2.2.1.getD p b0)) (ht:0≤t∧t≤1099511627776) (hE:(g.2.2.2.1.getD p b0).2.2.2.2.2.1≤t) :
 dialtoneref38_ended (g,((rs,fr),(((p:Nat):Int),t)))=some (finR rs fr g p t (maxA g.2.2.2.2.2 t)):=by
 have hp':p<g.2.2.2.1.length:=by have:=opn_le g.2.2.2.1;omega
 rw [edR_eq]
 unfold finR
 have hd:=dE_ok rs fr h5 hx ht
 obtain ⟨hps,hfn⟩:=psn_self hs hp
 have hef:=fun n s co=>ef4_j g t n s co (g.2.2.2.1.getD p b0).1 [] [] hl hs h5
 unfold OK4 at hef
 rw [hps] at hef
 unfold bsF laF
 obtain ⟨x,hxx,hxb⟩:=get_at b0 hp'
 rw [hxx] at hx hd hE hef hfn ⊢
 rw [Int.toNat_natCast] at hxb
 obtain ⟨c,e,c1,c2,c3,c4⟩:=co_spec rs fr x.2.2.1 x.2.2.2.2.1 t
 have hC:∀ {β:Type} (f:Int×Int→Option β),bindO (dialtoneref37_Cost ((rs,fr),(x.2.2.1,(x.2.2.2.2.1,t)))) f=f (c,e):=fun f=>by rw [c2];rfl
 have hlast:Go.IntKind.wrap .i64 (g.2.2.2.2.1+(1:Int))=g.2.2.2.2.1+1:=wrap_i64' (by omega)
 unfold dE at hd
 unfold dE
 have har:∀n s co,DOk [t,n,s,co] [x.1]→actRecord (4,(t,(n,(s,(co,(x.1,([],[])))))))=some (4,datL [t,n,s,co] [x.1]):=fun n s co h=>by
  rw [ar_eq]
  simp (disch:=(first | omega | (simp only [LNl];omega))) only [↓SDl,SDr,if_pos,if_neg,↓dataR_b h]
 by_cases ha:x.2.2.2.2.1 ≠ -1
 ·have hnm:nmF rs fr g.2.2.2.2.1 x t=(g.2.2.2.2.1+1,(Rt.SE x.2.2.2.2.1 t,coR rs fr x.2.2.1 x.2.2.2.2.1 t)):=if_pos ha
  rw [hnm] at hd ⊢
  simp only at hd
  have ha0:x.2.2.2.2.1≥0:=by have:=hx.2.1;omega
  by_cases he:e=0
  ·rw [if_pos he] at c3
   rw [c3] at hd ⊢
   subst he
   by_cases hc:g.2.2.1≥1048576
   ·rw [if_pos (.inr hc)]
    simp (disch:=(first | omega | (simp only [LNl];omega))) only [↓SDl,SDr,if_pos,if_neg,Int.toNat_natCast,↓hxb,hlast,↓secR_b,↓hC,↓full_b]
    rfl
   ·by_cases hq:g.2.2.2.2.1≥1048576
    ·rw [if_pos (.inl ⟨ha,hq⟩)]
     simp (disch:=(first | omega | (simp only [LNl];omega))) only [↓SDl,SDr,if_pos,if_neg,Int.toNat_natCast,↓hxb,hlast,↓secR_b,↓hC,↓full_b]
     rfl
    ·rw [if_neg (by omega),if_pos ha,if_pos ha]
     have hlg:LgOk (g.1,(g.2.1,g.2.2.1)):=⟨hB,h1,h2,show g.2.2.1<1048576 by omega⟩
     rcases hef (g.2.2.2.2.1+1) (Rt.SE x.2.2.2.2.1 t) c with ⟨_,hee⟩ | ⟨hno,_⟩
     ·rw [if_neg (show ¬g.2.2.2.2.1+1=0 by omega),if_neg (show ¬g.2.2.2.2.1+1=0 by omega)] at hee
      simp (disch:=(first | omega | (simp only [LNl];omega))) only [↓SDl,SDr,if_pos,if_neg,Int.toNat_natCast,↓hxb,hlast,↓secR_b,↓hC,↓full_b,↓done_b hee (har _ _ _ hd.1) hlg (show (0:Int)≤4∧(4:Int)≤255 by omega) (datL_bytes _ _) hd.2]
     ·exact (hno ⟨hfn,hE,.inr ⟨by omega,ha,rfl,by omega,rfl⟩⟩).elim
  ·rw [if_neg he] at c3
   rw [c3] at hd ⊢
   by_cases hc:g.2.2.1≥1048576
   ·rw [if_pos (.inr hc)]
    simp (disch:=(first | omega | (simp only [LNl];omega))) only [↓SDl,SDr,if_pos,if_neg,Int.toNat_natCast,↓hxb,hlast,↓secR_b,↓hC,↓full_b]
    rfl
   ·by_cases hq:g.2.2.2.2.1≥1048576
    ·rw [if_pos (.inl ⟨ha,hq⟩)]
     simp (disch:=(first | omega | (simp only [LNl];omega))) only [↓SDl,SDr,if_pos,if_neg,Int.toNat_natCast,↓hxb,hlast,↓secR_b,↓hC,↓full_b]
     rfl
    ·rw [if_neg (by omega),if_pos ha,if_pos ha]
     have hlg:LgOk (g.1,(g.2.1,g.2.2.1)):=⟨hB,h1,h2,show g.2.2.1<1048576 by omega⟩
     rcases hef (g.2.2.2.2.1+1) (Rt.SE x.2.2.2.2.1 t) 0 with ⟨_,hee⟩ | ⟨hno,_⟩
     ·rw [if_neg (show ¬g.2.2.2.2.1+1=0 by omega),if_neg (show ¬g.2.2.2.2.1+1=0 by omega)] at hee
      simp (disch:=(first | omega | (simp only [LNl];omega))) only [↓SDl,SDr,if_pos,if_neg,Int.toNat_natCast,↓hxb,hlast,↓secR_b,↓hC,↓full_b,↓done_b hee (har _ _ _ hd.1) hlg (show (0:Int)≤4∧(4:Int)≤255 by omega) (datL_bytes _ _) hd.2]
     ·exact (hno ⟨hfn,hE,.inr ⟨by omega,ha,rfl,by omega,rfl⟩⟩).elim
 ·have hnm:nmF rs fr g.2.2.2.2.1 x t=(0,(0,0)):=if_neg ha
  rw [hnm] at hd ⊢
  simp only at hd
  by_cases hc:g.2.2.1≥1048576
  ·rw [if_pos (.inr hc)]
   simp (disch:=(first | omega | (simp only [LNl];omega))) only [↓SDl,SDr,if_pos,if_neg,Int.toNat_natCast,↓hxb,↓full_b]
   rfl
  ·rw [if_neg (by omega),if_neg ha,if_neg ha]
   have hlg:LgOk (g.1,(g.2.1,g.2.2.1)):=⟨hB,h1,h2,show g.2.2.1<1048576 by omega⟩
   rcases hef 0 0 0 with ⟨_,he⟩ | ⟨hno,_⟩
   ·rw [if_pos rfl,if_pos rfl] at he
    simp (disch:=(first | omega | (simp only [LNl];omega))) only [↓SDl,SDr,if_pos,if_neg,Int.toNat_natCast,↓hxb,↓full_b,↓done_b he (har _ _ _ hd.1) hlg (show (0:Int)≤4∧(4:Int)≤255 by omega) (datL_bytes _ _) hd.2]
   ·exact (hno ⟨hfn,hE,.inl ⟨rfl,by omega⟩⟩).elim
end Go.Proofs.Ytkpijdndakljjaa

set_option maxRecDepth 100000
set_option maxHeartbeats 4000000
namespace Go.Proofs.Ytkpijdndakljjaa
open Go.RowKit
theorem VL.opb {g:LG} (h:VL g) {p:Nat} (hp:p<opn g.2.2.2.1):Opb (g.2.2.2.1.getD p b0):=by
 have ho:=opn_le g.2.2.2.1
 have hb:=h.at (i:=p) (by omega)
 have hz:=opn_in hp
 obtain ⟨k1,k2,k3,k4,k5⟩:=hb
 refine ⟨?_,?_,k1.2.1⟩
 ·rcases k5 with k5 | k5
  ·exact ⟨k5.1,k5.2.1,k5.2.2.1⟩
  ·exact (k5.1 hz).elim
 ·have:=k2.1;omega
open Classical in
noncomputable def endR (g:LG) (rs:List Ra) (fr:Int) (c:Tx) (t:Int):LG×Int :=
 if Tm g t∧Rt.TV rs fr then (if Fnd c g.2.2.2.1 then finR rs fr g (psn c g.2.2.2.1) t t else (zG,8)) else (zG,2)
theorem end_j (g:LG) (rs:List Ra) (fr:Int) (c:Tx) (t:Int) (hl:g.2.2.2.1.length≤1000000) (hB:g.1.length≤900000):billing_End (g,((rs,fr),(c,t)))=some (endR g rs fr c t):=by
 have ho:=opn_le g.2.2.2.1
 rw [en_eq]
 unfold endR
 by_cases h:Tm g t∧Rt.TV rs fr
 ·rw [if_pos h]
  obtain ⟨htm,hr⟩:=h
  have hv:=htm.1
  have ht:=htm.2
  have h0:=hv.2.1
  have hs:=hv.srt
  have hR:∀ {β:Type} (f:Bool→Option β),bindO (rating_Valid (rs,fr)) f=f true:=fun f=>by rw [Rt.validP_t hr];rfl
  by_cases hf:Fnd c g.2.2.2.1
  ·rw [if_pos hf]
   have hlt:psn c g.2.2.2.1<g.2.2.2.1.length:=by have:=hf.1;omega
   have hfin:=fin_j rs fr g t hlt hl hB ⟨hv.1.1,hv.1.2.1⟩ hv.1.2.2.1 hv.2.2.1 (hv.opb hf.1) ⟨by omega,ht.2⟩
   have hF:∀ {β:Type} (f:LG×Int→Option β),bindO (billing_finish (g,((rs,fr),(((psn c g.2.2.2.1:Nat):Int),t)))) f=f (finR rs fr g (psn c g.2.2.2.1) t g.2.2.2.2.2):=fun f=>by rw [hfin];rfl
   simp (disch:=(first | omega | (simp only [LNl];omega))) only [↓SDl,SDr,↓(va_j g hl).b,tf_t hv,↓wit_b,if_pos,↓hR,↓find_b g c hl hs,tf_t hf,↓hF]
   unfold finR
   split
   ·rfl
   ·rfl
  ·rw [if_neg hf]
   simp (disch:=(first | omega | (simp only [LNl];omega))) only [↓SDl,SDr,↓(va_j g hl).b,tf_t hv,↓wit_b,if_pos,↓hR,↓find_b g c hl hs,tf_f hf]
   rfl
 ·rw [if_neg h]
  by_cases hv:VL g
  ·by_cases h1:g.2.2.2.2.2≤t∧t≤1099511627776
   ·have hr:¬Rt.TV rs fr:=fun k=>h ⟨⟨hv,h1⟩,k⟩
    have hR:∀ {β:Type} (f:Bool→Option β),bindO (rating_Valid (rs,fr)) f=f false:=fun f=>by rw [Rt.validP_f hr];rfl
    simp (disch:=(first | omega | (simp only [LNl];omega))) only [↓SDl,SDr,↓(va_j g hl).b,tf_t hv,↓wit_b,if_pos,↓hR]
    rfl
   ·simp (disch:=(first | omega | (simp only [LNl];omega))) only [↓SDl,SDr,↓(va_j g hl).b,tf_t hv,↓wit_b,if_neg,h1,decide_false]
    rfl
  ·simp only [↓SDl,SDr,↓(va_j g hl).b,tf_f hv]
   rfl
theorem endR_j (g:LG) (rs:List Ra) (fr:Int) (c:Tx) (t:Int) (hl:g.2.2.2.1.length≤1000000) (hB:g.1.length≤900000):dialtoneref38_End (g,((rs,fr),(c,t)))=some (endR g rs fr c t):=by
 have ho:=opn_le g.2.2.2.1
 rw [enR_eq]
 unfold endR
 by_cases htm:Tm g t
 ·by_cases hr:Rt.TV rs fr
  ·rw [if_pos ⟨htm,hr⟩]
   have hv:=htm.1
   have ht:=htm.2
   have h0:=hv.2.1
   have hs:=hv.srt
   have hR:∀ {β:Type} (f:Bool→Option β),bindO (dialtoneref37_Valid (rs,fr)) f=f true:=fun f=>by rw [Rt.valid_same,Rt.validP_t hr];rfl
   by_cases hf:Fnd c g.2.2.2.1
   ·rw [if_pos hf]
    have hlt:psn c g.2.2.2.1<g.2.2.2.1.length:=by have:=hf.1;omega
    have hb:=hv.at hlt
    have hed:=ended_j rs fr g t hf.1 hs hl hB ⟨hv.1.1,hv.1.2.1⟩ hv.1.2.2.1 hv.2.2.1 (hv.opb hf.1) ⟨by omega,ht.2⟩ (by have:=hb.2.2.2.1.2;omega)
    rw [maxA_r ht.1] at hed
    have hF:∀ {β:Type} (f:LG×Int→Option β),bindO (dialtoneref38_ended (g,((rs,fr),(((psn c g.2.2.2.1:Nat):Int),t)))) f=f (finR rs fr g (psn c g.2.2.2.1) t t):=fun f=>by rw [hed];rfl
    simp (disch:=(first | omega | (simp only [LNl];omega))) only [↓SDl,SDr,↓(timed_j g t hl).b,tf_t htm,↓hR,↓fdt_b hl hs hf,if_neg,↓hF]
   ·rw [if_neg hf]
    simp (disch:=(first | omega | (simp only [LNl];omega))) only [↓SDl,SDr,↓(timed_j g t hl).b,tf_t htm,↓hR,↓fdf_b hl hs hf,if_pos]
    rfl
  ·rw [if_neg (fun k=>hr k.2)]
   have hR:∀ {β:Type} (f:Bool→Option β),bindO (dialtoneref37_Valid (rs,fr)) f=f false:=fun f=>by rw [Rt.valid_same,Rt.validP_f hr];rfl
   simp (disch:=(first | omega | (simp only [LNl];omega))) only [↓SDl,SDr,↓(timed_j g t hl).b,tf_t htm,↓hR]
   rfl
 ·rw [if_neg (fun k=>htm k.1)]
  simp only [↓SDl,SDr,↓(timed_j g t hl).b,tf_f htm]
  rfl
def Rec (n:Int) (l:List BL) (i:Nat):Prop:=n > 0∧(l.getD i b0).2.2.2.2.2.2.1=n
def gvn (x:BL):BL:=(x.1,(x.2.1,(x.2.2.1,(x.2.2.2.1,(x.2.2.2.2.1,(x.2.2.2.2.2.1,(x.2.2.2.2.2.2.1,(x.2.2.2.2.2.2.2.1,(x.2.2.2.2.2.2.2.2.1,true)))))))))
noncomputable def gvR (g:LG) (n:Int) (i:Nat):LG×Int :=
 if (g.2.2.2.1.getD i b0).2.2.2.2.2.2.2.2.2=true then (zG,9) else if g.2.2.1≥1048576 then (zG,10) else
 ((g.1++Jn.encB g.2.2.1 5 (datL [n] []),(g.2.1,(g.2.2.1+1,(g.2.2.2.1.set i (gvn (g.2.2.2.1.getD i b0)),(g.2.2.2.2.1,g.2.2.2.2.2))))),0)
theorem rec_j (g:LG) (n:Int) (hl:g.2.2.2.1.length≤1000000):(∃i,i<g.2.2.2.1.length∧Rec n g.2.2.2.1 i∧(∀j,j<i→¬Rec n g.2.2.2.1 j)∧dialtoneref38_record (g,n)=some ((i:Nat):Int))∨((∀i,i<g.2.2.2.1.length→¬Rec n g.2.2.2.1 i)∧dialtoneref38_record (g,n)=some (-1:Int)):=by
 rw [rc_eq]
 have hL:=loop_first (body:=rcB g n) g.2.2.2.1.length (fun i=>Rec n g.2.2.2.1 i) (fun i => .inr ((i:Nat):Int)) (.inl ()) (fun i hi hn=>by
  obtain ⟨x,hx,hxb⟩:=get_at b0 hi
  unfold Rec at hn
  rw [hx] at hn
  unfold rcB
  by_cases h0:n > 0
  ·have h1:¬x.2.2.2.2.2.2.1=n:=fun k=>hn ⟨h0,k⟩
   simp (disch:=(first | omega | (simp only [LNl];omega))) only [↓SDl,SDr,if_pos,if_neg,↓hxb,wrap_i64']
   rfl
  ·simp (disch:=(first | omega | (simp only [LNl];omega))) only [↓SDl,SDr,if_pos,if_neg,↓hxb,wrap_i64']
   rfl) (fun i hi hn=>by
  obtain ⟨x,hx,hxb⟩:=get_at b0 hi
  unfold Rec at hn
  rw [hx] at hn
  unfold rcB
  simp (disch:=(first | omega | (simp only [LNl];omega))) only [↓SDl,SDr,if_pos,if_neg,↓hxb]) (by
  unfold rcB
  simp (disch:=(first | omega | (simp only [LNl];omega))) only [↓SDl,SDr,if_neg])
 rcases hL with ⟨i,k1,k2,k3,e⟩ | ⟨k,e⟩
 ·exact .inl ⟨i,k1,k2,k3,by rw [e];rfl⟩
 ·exact .inr ⟨k,by rw [e];rfl⟩
theorem VL.num {g:LG} (h:VL g) {i:Nat} (hi:i<g.2.2.2.1.length):0≤(g.2.2.2.1.getD i b0).2.2.2.2.2.2.1∧(g.2.2.2.1.getD i b0).2.2.2.2.2.2.1≤1048576∧(opn g.2.2.2.1≤i→1≤(g.2.2.2.1.getD i b0).2.2.2.2.2.2.1):=by
 have hp:=pv_nn h.2.2.1 (i:=i) (fun j hj=>h.2.2.2.2 j (by omega))
 have h3:=h.2.2.1
 rcases (h.2.2.2.2 i hi).2 with ⟨k,_⟩ | ⟨k,k2,k3⟩
 ·rw [opn_in k];omega
 ·omega
theorem dok5 {n:Int} (h:0≤n∧n≤1048576):DOk [n] []∧(datL [n] []).length≤4096:=by
 refine ⟨⟨⟨by simp,fun m hm => ?_⟩,by simp,fun t ht=>by cases ht⟩,?_⟩
 ·rw [List.mem_singleton] at hm;subst hm;omega
 ·rw [datL_length];simp
theorem gvn_j (g:LG) (n:Int) (hl:g.2.2.2.1.length≤1000000) (hB:g.1.length≤900000):∃r,billing_Given (g,n)=some r∧dialtoneref38_Given (g,n)=some r ∧
 ((¬VL g∧r=(zG,2))∨(VL g∧((∃i,i<g.2.2.2.1.length∧Rec n g.2.2.2.1 i∧r=gvR g n i)∨((∀i,i<g.2.2.2.1.length→¬Rec n g.2.2.2.1 i)∧r=(zG,8))))):=by
 rw [gv_eq,gvR_eq]
 by_cases hv:VL g
 ·have h2:=hv.2.1
  have hL:=loop_first (body:=gvB g n) g.2.2.2.1.length (fun i=>Rec n g.2.2.2.1 i) (fun i => .inr (.inl ((i:Nat):Int))) (.inl ()) (fun i hi hn=>by
   obtain ⟨x,hx,hxb⟩:=get_at b0 hi
   have hnum:=hv.num hi
   unfold Rec at hn
   rw [hx] at hn hnum
   unfold gvB
   by_cases h0:x.2.2.2.2.2.2.1≠0
   ·have h1:¬x.2.2.2.2.2.2.1=n:=fun k=>hn ⟨by omega,k⟩
    simp (disch:=(first | omega | (simp only [LNl];omega))) only [↓SDl,SDr,if_pos,if_neg,↓hxb,wrap_i64']
    rfl
   ·simp (disch:=(first | omega | (simp only [LNl];omega))) only [↓SDl,SDr,if_pos,if_neg,↓hxb,wrap_i64']
    rfl) (fun i hi hn=>by
   obtain ⟨x,hx,hxb⟩:=get_at b0 hi
   unfold Rec at hn
   rw [hx] at hn
   unfold gvB
   simp (disch:=(first | omega | (simp only [LNl];omega))) only [↓SDl,SDr,if_pos,if_neg,↓hxb]) (by
   unfold gvB
   simp (disch:=(first | omega | (simp only [LNl];omega))) only [↓SDl,SDr,if_neg])
  have hR:=rec_j g n hl
  have hRb:∀ {β:Type} {v:Int} (f:Int→Option β),dialtoneref38_record (g,n)=some v→bindO (dialtoneref38_record (g,n)) f=f v:=fun f e=>by rw [e];rfl
  rcases hL with ⟨i,k1,k2,k3,e⟩ | ⟨k,e⟩
  ·rcases hR with ⟨i',k1',k2',k3',e'⟩ | ⟨k',_⟩
   ·have hii:i'=i:=by
     rcases Nat.lt_trichotomy i' i with h | h | h
     ·exact (k3 _ h k2').elim
     ·exact h
     ·exact (k3' _ h k2).elim
    subst hii
    have hnum:=hv.num k1
    have hn:(g.2.2.2.1.getD i' b0).2.2.2.2.2.2.1=n:=k2.2
    rw [hn] at hnum
    have hd:=dok5 (n:=n) ⟨hnum.1,hnum.2.1⟩
    refine ⟨gvR g n i',?_,?_,.inr ⟨hv,.inl ⟨i',k1,k2,rfl⟩⟩⟩
    ·unfold gvR
     obtain ⟨x,hx,hxb⟩:=get_at b0 k1
     rw [hx]
     rw [Int.toNat_natCast] at hxb
     cases hg:x.2.2.2.2.2.2.2.2.2 with
     | true =>
       rw [if_pos rfl]
       simp (disch:=(first | omega | (simp only [LNl];omega))) only [↓SDl,SDr,↓(va_j g hl).b,tf_t hv,↓e,if_pos,if_neg,Int.toNat_natCast,↓hxb,hg]
       rfl
     | false =>
       rw [if_neg (by simp)]
       by_cases hc:g.2.2.1≥1048576
       ·rw [if_pos hc]
        simp (disch:=(first | omega | (simp only [LNl];omega))) only [↓SDl,SDr,↓(va_j g hl).b,tf_t hv,↓e,if_pos,if_neg,Int.toNat_natCast,↓hxb,hg,↓data_b hd.1,↓wf_b hc]
        rfl
       ·rw [if_neg hc]
        have hlg:=hv.lg hB (by omega)
        simp (disch:=first | omega | (simp only [LNl];omega)) only [↓SDl,SDr,↓(va_j g hl).b,tf_t hv,↓e,if_pos,if_neg,Int.toNat_natCast,↓hxb,hg,↓data_b hd.1,↓wr_b hlg (show (0:Int)≤5∧(5:Int)≤255 by omega) (datL_bytes _ _) hd.2,↓clone_b hl]
        rw [List.take_of_length_le (by simp)]
        rfl
    ·unfold gvR
     obtain ⟨x,hx,hxb⟩:=get_at b0 k1
     rw [hx]
     rw [Int.toNat_natCast] at hxb
     cases hg:x.2.2.2.2.2.2.2.2.2 with
     | true =>
       rw [if_pos rfl]
       simp (disch:=(first | omega | (simp only [LNl];omega))) only [↓SDl,SDr,↓(vr_j g hl).b,tf_t hv,↓hRb _ e',if_pos,if_neg,Int.toNat_natCast,↓hxb,hg]
       rfl
     | false =>
       rw [if_neg (by simp)]
       by_cases hc:g.2.2.1≥1048576
       ·rw [if_pos hc]
        simp (disch:=(first | omega | (simp only [LNl];omega))) only [↓SDl,SDr,↓(vr_j g hl).b,tf_t hv,↓hRb _ e',if_pos,if_neg,Int.toNat_natCast,↓hxb,hg,↓full_b]
        rfl
       ·rw [if_neg hc]
        have hlg:=hv.lg hB (by omega)
        have hmx:maxA g.2.2.2.2.2 0=g.2.2.2.2.2:=by unfold maxA;rw [if_neg (by omega)]
        have he:dialtoneref38_effect (g,(5,(0,(n,(0,(0,([],([],[]))))))))  = some (atG g (g.2.2.2.1.set i' (gvn x)) g.2.2.2.2.1 0,true):=by
         rw [wo_eq]
         unfold atG
         rw [hmx]
         simp (disch:=first | omega | (simp only [LNl];omega)) only [↓SDl,SDr,decide_true,↓hRb _ e',if_pos,if_neg,Int.toNat_natCast,↓hxb,hg]
         rw [List.take_of_length_le (by simp)]
         rfl
        have hr:actRecord (5,(0,(n,(0,(0,([],([],[])))))))=some (5,datL [n] []):=by
         rw [ar_eq]
         simp (disch:=(first | omega | (simp only [LNl];omega))) only [↓SDl,SDr,if_pos,if_neg,↓dataR_b hd.1]
        simp (disch:=(first | omega | (simp only [LNl];omega))) only [↓SDl,SDr,↓(vr_j g hl).b,tf_t hv,↓hRb _ e',if_pos,if_neg,Int.toNat_natCast,↓hxb,hg,↓full_b,↓done_b he hr hlg (show (0:Int)≤5∧(5:Int)≤255 by omega) (datL_bytes _ _) hd.2,hmx]
   ·exact (k' i k1 k2).elim
  ·rcases hR with ⟨i',k1',k2',_,_⟩ | ⟨_,e'⟩
   ·exact (k i' k1' k2').elim
   ·refine ⟨(zG,8),?_,?_,.inr ⟨hv,.inr ⟨k,rfl⟩⟩⟩
    ·simp (disch:=(first | omega | (simp only [LNl];omega))) only [↓SDl,SDr,↓(va_j g hl).b,tf_t hv,↓e,if_pos]
     rfl
    ·simp (disch:=(first | omega | (simp only [LNl];omega))) only [↓SDl,SDr,↓(vr_j g hl).b,tf_t hv,↓hRb _ e',if_pos]
     rfl
 ·refine ⟨(zG,2),?_,?_,.inl ⟨hv,rfl⟩⟩
  ·simp only [↓SDl,SDr,↓(va_j g hl).b,tf_f hv]
   rfl
  ·simp only [↓SDl,SDr,↓(vr_j g hl).b,tf_f hv]
   rfl
end Go.Proofs.Ytkpijdndakljjaa

set_option maxRecDepth 100000
set_option maxHeartbeats 4000000
namespace Go.Proofs.Ytkpijdndakljjaa
open Go.RowKit
theorem loop_firstK {β:Type} {body:Int→Option (Int ⊕ β)} {k n:Nat} (hk:k≤n) (p:Nat→Prop) (f:Nat→β) (r0:β) (h1:∀i:Nat,k≤i→i<n→¬p i→body (i:Int)=some (.inl ((i+1:Nat):Int))) (h2:∀i:Nat,k≤i→i<n→p i→body (i:Int)=some (.inr (f i))) (h3:body (n:Int)=some (.inr r0)) :
 (∃i,k≤i∧i<n∧p i∧(∀j,k≤j→j<i→¬p j)∧loopO body (k:Int)=some (f i))∨((∀i,k≤i→i<n→¬p i)∧loopO body (k:Int)=some r0):=by
 by_cases h:∃i,k≤i∧i<n∧p i
 ·obtain ⟨i,⟨q1,q2,q3⟩,q4⟩:=least h
  have q5:∀j,k≤j→j<i→¬p j:=fun j j1 j2 j3=>q4 j j2 ⟨j1,by omega,j3⟩
  refine .inl ⟨i,q1,q2,q3,q5,loopO_from (fun j=>((k+j:Nat):Int)) (i-k) (by simp) (fun j hj => ?_) ?_⟩
  ·exact h1 (k+j) (by omega) (by omega) (q5 _ (by omega) (by omega))
  ·show body ((k+(i-k):Nat):Int)=_
   rw [show k+(i-k)=i from by omega]
   exact h2 i q1 q2 q3
 ·have h':∀i,k≤i→i<n→¬p i:=fun i i1 i2 i3=>h ⟨i,i1,i2,i3⟩
  refine .inr ⟨h',loopO_from (fun j=>((k+j:Nat):Int)) (n-k) (by simp) (fun j hj => ?_) ?_⟩
  ·exact h1 (k+j) (by omega) (by omega) (h' _ (by omega) (by omega))
  ·show body ((k+(n-k):Nat):Int)=_
   rw [show k+(n-k)=n from by omega]
   exact h3
def Due (l:List BL) (i:Nat):Prop:=(l.getD i b0).2.2.2.2.2.2.1≠0∧(l.getD i b0).2.2.2.2.2.2.2.2.2=false
def NX (g:LG):Prop:=VL g∧g.2.1=(g.1.length:Int)
theorem next_j (g:LG) (hl:g.2.2.2.1.length≤1000000):∃r,billing_Next g=some r∧dialtoneref38_Next g=some r ∧
 ((NX g∧∃i,i<g.2.2.2.1.length∧Due g.2.2.2.1 i∧(∀j,j<i→¬Due g.2.2.2.1 j)∧r=(g.2.2.2.1.getD i b0,true))∨(¬(NX g∧∃i,i<g.2.2.2.1.length∧Due g.2.2.2.1 i)∧r=(b0,false))):=by
 have ho:=opn_le g.2.2.2.1
 rw [nx_eq,nr_eq]
 by_cases hv:VL g
 ·by_cases hsy:g.2.1=(g.1.length:Int)
  ·have hP:=loop_first (body:=nxB g) g.2.2.2.1.length (fun i=>Due g.2.2.2.1 i) (fun i => .inr (g.2.2.2.1.getD i b0,true)) (.inl ()) (fun i hi hn=>by
    obtain ⟨x,hx,hxb⟩:=get_at b0 hi
    unfold Due at hn
    rw [hx] at hn
    unfold nxB
    by_cases h0:x.2.2.2.2.2.2.1=0
    ·simp (disch:=(first | omega | (simp only [LNl];omega))) only [↓SDl,SDr,if_pos,if_neg,↓hxb,wrap_i64']
     rfl
    ·have h1:x.2.2.2.2.2.2.2.2.2=true:=by
      cases hg:x.2.2.2.2.2.2.2.2.2 with
      | true=>rfl
      | false=>exact (hn ⟨h0,hg⟩).elim
     simp (disch:=(first | omega | (simp only [LNl];omega))) only [↓SDl,SDr,if_pos,if_neg,↓hxb,h1,wrap_i64']
     rfl) (fun i hi hn=>by
    obtain ⟨x,hx,hxb⟩:=get_at b0 hi
    unfold Due at hn
    rw [hx] at hn ⊢
    have hg:=hn.2
    have h0:=hn.1
    unfold nxB
    simp (disch:=(first | omega | (simp only [LNl];omega))) only [↓SDl,SDr,if_pos,if_neg,↓hxb,hg]) (by
    unfold nxB
    simp (disch:=(first | omega | (simp only [LNl];omega))) only [↓SDl,SDr,if_neg])
   have hR:=loop_firstK (body:=nrB g) ho (fun i=>Due g.2.2.2.1 i) (fun i => .inr (g.2.2.2.1.getD i b0,true)) (.inl ()) (fun i hk hi hn=>by
    obtain ⟨x,hx,hxb⟩:=get_at b0 hi
    have hnum:=(hv.num hi).2.2 hk
    unfold Due at hn
    rw [hx] at hn hnum
    have h1:x.2.2.2.2.2.2.2.2.2=true:=by
     cases hg:x.2.2.2.2.2.2.2.2.2 with
     | true=>rfl
     | false=>exact (hn ⟨by omega,hg⟩).elim
    unfold nrB
    simp (disch:=(first | omega | (simp only [LNl];omega))) only [↓SDl,SDr,if_pos,if_neg,↓hxb,h1,wrap_i64']
    rfl) (fun i hk hi hn=>by
    obtain ⟨x,hx,hxb⟩:=get_at b0 hi
    unfold Due at hn
    rw [hx] at hn ⊢
    have hg:=hn.2
    unfold nrB
    simp (disch:=(first | omega | (simp only [LNl];omega))) only [↓SDl,SDr,if_pos,if_neg,↓hxb,hg]) (by
    unfold nrB
    simp (disch:=(first | omega | (simp only [LNl];omega))) only [↓SDl,SDr,if_neg])
   have hno:∀i,i<opn g.2.2.2.1→¬Due g.2.2.2.1 i:=fun i hi h=>h.1 (opn_in hi)
   rcases hP with ⟨i,k1,k2,k3,e⟩ | ⟨k,e⟩
   ·have hio:opn g.2.2.2.1≤i:=by
     rcases Nat.lt_or_ge i (opn g.2.2.2.1) with h | h
     ·exact (hno i h k2).elim
     ·exact h
    rcases hR with ⟨i',k0',k1',k2',k3',e'⟩ | ⟨k',_⟩
    ·have hii:i'=i:=by
      rcases Nat.lt_trichotomy i' i with h | h | h
      ·exact (k3 _ h k2').elim
      ·exact h
      ·exact (k3' _ hio h k2).elim
     subst hii
     refine ⟨(g.2.2.2.1.getD i' b0,true),?_,?_,.inl ⟨⟨hv,hsy⟩,i',k1,k2,k3,rfl⟩⟩
     ·simp (disch:=(first | omega | (simp only [LNl];omega))) only [↓SDl,SDr,↓(va_j g hl).b,tf_t hv,if_neg,e]
     ·simp (disch:=(first | omega | (simp only [LNl];omega))) only [↓SDl,SDr,↓(vr_j g hl).b,tf_t hv,if_neg,↓or_b g hl,e']
    ·exact (k' i hio k1 k2).elim
   ·rcases hR with ⟨i',_,k1',k2',_,_⟩ | ⟨_,e'⟩
    ·exact (k i' k1' k2').elim
    ·refine ⟨(b0,false),?_,?_,.inr ⟨fun h=>by obtain ⟨i,i1,i2⟩:=h.2;exact k i i1 i2,rfl⟩⟩
     ·simp (disch:=(first | omega | (simp only [LNl];omega))) only [↓SDl,SDr,↓(va_j g hl).b,tf_t hv,if_neg,e]
      rfl
     ·simp (disch:=(first | omega | (simp only [LNl];omega))) only [↓SDl,SDr,↓(vr_j g hl).b,tf_t hv,if_neg,↓or_b g hl,e']
      rfl
  ·refine ⟨(b0,false),?_,?_,.inr ⟨fun h=>hsy h.1.2,rfl⟩⟩
   ·simp (disch:=(first | omega | (simp only [LNl];omega))) only [↓SDl,SDr,↓(va_j g hl).b,tf_t hv,if_pos]
    rfl
   ·simp (disch:=(first | omega | (simp only [LNl];omega))) only [↓SDl,SDr,↓(vr_j g hl).b,tf_t hv,if_pos]
    rfl
 ·refine ⟨(b0,false),?_,?_,.inr ⟨fun h=>hv h.1.1,rfl⟩⟩
  ·simp only [↓SDl,SDr,↓(va_j g hl).b,tf_f hv]
   rfl
  ·simp only [↓SDl,SDr,↓(vr_j g hl).b,tf_f hv]
   rfl
open Classical in
noncomputable def synR (g:LG):LG:=if VL g then (g.1,((g.1.length:Int),(g.2.2.1,(g.2.2.2.1,(g.2.2.2.2.1,g.2.2.2.2.2))))) else zG
theorem sync_j (g:LG) (hl:g.2.2.2.1.length≤1000000) (hB:g.1.length≤900000):billing_Sync g=some (synR g):=by
 rw [sy_eq]
 unfold synR
 by_cases hv:VL g
 ·rw [if_pos hv]
  have hS:∀ {β:Type} (f:List Int×(Int×Int)→Option β),bindO (journal_Sync (g.1,(g.2.1,g.2.2.1))) f=f (g.1,((g.1.length:Int),g.2.2.1)):=fun f=>by rw [Jn.sync_j g.1 g.2.1 g.2.2.1 hB ⟨hv.1.1,hv.1.2.1⟩ ⟨hv.1.2.2.1,hv.1.2.2.2⟩];rfl
  simp (disch:=(first | omega | (simp only [LNl];omega))) only [↓SDl,SDr,↓(va_j g hl).b,tf_t hv,↓hS,↓clone_b hl]
 ·rw [if_neg hv]
  simp only [↓SDl,SDr,↓(va_j g hl).b,tf_f hv]
  rfl
theorem syncR_j (g:LG) (hl:g.2.2.2.1.length≤1000000) (hB:g.1.length≤900000):dialtoneref38_Sync g=some (synR g):=by
 rw [syR_eq]
 unfold synR
 by_cases hv:VL g
 ·rw [if_pos hv]
  have hS:∀ {β:Type} (f:List Int×(Int×Int)→Option β),bindO (dialtoneref20_Sync (g.1,(g.2.1,g.2.2.1))) f=f (g.1,((g.1.length:Int),g.2.2.1)):=fun f=>by
   have h1:=hv.1
   have e:dialtoneref20_Sync (g.1,(g.2.1,g.2.2.1))=some (g.1,((g.1.length:Int),g.2.2.1)):=by
    unfold dialtoneref20_Sync
    simp (disch:=(first | omega | (simp only [LNl];omega))) only [↓SDl,SDr,↓jvR_b,if_pos,if_neg]
   rw [e];rfl
  simp (disch:=(first | omega | (simp only [LNl];omega))) only [↓SDl,SDr,↓(vr_j g hl).b,tf_t hv,↓hS]
 ·rw [if_neg hv]
  simp only [↓SDl,SDr,↓(vr_j g hl).b,tf_f hv]
  rfl
theorem samebills_refl (l:List BL) (hl:l.length≤1000000):dialtoneref38_SameBills (l,l)=some true:=by
 rw [sb_eq]
 have hL:loopO (sbB l l) (0:Int)=some (.inl ()):=by
  refine loopO_from (fun i=>((i:Nat):Int)) l.length rfl (fun i hi => ?_) ?_
  ·obtain ⟨x,hx,hxb⟩:=get_at b0 hi
   unfold sbB
   simp (disch:=(first | omega | (simp only [LNl];omega))) only [↓SDl,SDr,if_pos,↓hxb,wrap_i64',decide_true,Bool.and_true,Bool.true_and,beq_self_eq_true]
   rfl
  ·unfold sbB
   simp (disch:=(first | omega | (simp only [LNl];omega))) only [↓SDl,SDr,if_neg]
 rw [hL]
 simp (disch:=(first | omega | (simp only [LNl];omega))) only [↓SDl,SDr,if_neg]
theorem same_refl (g:LG) (hl:g.2.2.2.1.length≤1000000):dialtoneref38_Same (g,g)=some true:=by
 rw [sm_eq,Jn.samelog_refl,samebills_refl _ hl]
 simp (disch:=(first | omega | (simp only [LNl];omega))) only [↓SDl,SDr,if_pos,decide_true]
end Go.Proofs.Ytkpijdndakljjaa

set_option maxRecDepth 1000000
set_option maxHeartbeats 0
namespace Go.Proofs.Ytkpijdndakljjaa
open Go.RowKit
def plan31:List (Nat×PL):=[]
noncomputable def billing_New:PUnit→Option (LN×(Int×(Int×((List (LU×(LU×(LU×(Int×(Int×(Int×(Int×(Int×(Int×Bool))))))))))×(Int×Int))))):=fun _ =>
 some (([]:List Int),((0:Int),((0:Int),(([]:List (LU×(LU×(LU×(Int×(Int×(Int×(Int×(Int×(Int×Bool)))))))))),((0:Int),(0:Int))))))
noncomputable def cons31:List (Nat×CE):=[]
theorem cons31_ok:ConL Try.prog cons31:=trivial
noncomputable def ce31:CE:=⟨[],[(.tmp 0 true [dY,dI,dI,(.dat (.list (.pair .str (.pair .str (.pair .str (.pair uI6 (.pair uI6 (.pair uI6 (.pair uI6 (.pair uI6 (.pair uI6 .bool))))))))))),dI,dI])],billing_New⟩
theorem con31:ConOk Try.prog 31 ce31 :=
 tree_ok (plan:=planOf plan31) (eg:=egNo) KK tabL_ok (conOf_ok cons31_ok) Try.func31 (by kernel_rfl) (by kernel_rfl) 10000 (fun a r h=>Eq.trans (show _=billing_New a from by kernel_rfl) h)
def plan9:List (Nat×PL):=[]
noncomputable def dialtonelaw38_awake:PUnit→Option Bool:=fun _ =>
 bindO (billing_New ()) fun (x2,(x3,(x4,(x5,(x6,x7))))) =>
 bindO (billing_Begin ((x2,(x3,(x4,(x5,(x6,x7))))),(((99:UInt8)::([]:List UInt8)),(((97:UInt8)::([]:List UInt8)),(((98:UInt8)::([]:List UInt8)),((1000:Int),((0:Int),((0:Int),((0:Int),((0:Int),((0:Int),Bool.false))))))))))) fun ((x9,(x10,(x11,(x12,(x13,x14))))),x15) =>
 bindO (billing_Answer ((x9,(x10,(x11,(x12,(x13,x14))))),(((99:UInt8)::([]:List UInt8)),(2000:Int)))) fun ((x17,(x18,(x19,(x20,(x21,x22))))),x23) =>
 bindO (billing_Sync (x17,(x18,(x19,(x20,(x21,x22)))))) fun (x25,(x26,(x27,(x28,(x29,x30))))) =>
 bindO (billing_Next (x25,(x26,(x27,(x28,(x29,x30)))))) fun ((x32,(x33,(x34,(x35,(x36,(x37,(x38,(x39,(x40,x41))))))))),x42) =>
 bindO (dialtonelaw38_tariff ()) fun (x44,x45) =>
 bindO (billing_End ((x17,(x18,(x19,(x20,(x21,x22))))),((x44,x45),(((99:UInt8)::([]:List UInt8)),(4500:Int))))) fun ((x47,(x48,(x49,(x50,(x51,x52))))),x53) =>
 bindO (billing_Next (x47,(x48,(x49,(x50,(x51,x52)))))) fun ((x55,(x56,(x57,(x58,(x59,(x60,(x61,(x62,(x63,x64))))))))),x65) =>
 bindO (billing_Sync (x47,(x48,(x49,(x50,(x51,x52)))))) fun (x67,(x68,(x69,(x70,(x71,x72))))) =>
 bindO (billing_Next (x67,(x68,(x69,(x70,(x71,x72)))))) fun ((x74,(x75,(x76,(x77,(x78,(x79,(x80,(x81,(x82,x83))))))))),x84) =>
 bif (decide (x15=(0:Int))) then
 bif (decide (x23=(0:Int))) then
 bif (decide (x53=(0:Int))) then
 bif (!x42) then
 bif (!x65) then
 bif x84 then
 some ((decide (x74=((99:UInt8)::([]:List UInt8))))&&((decide (x75=((97:UInt8)::([]:List UInt8))))&&((decide (x76=((98:UInt8)::([]:List UInt8))))&&((decide (x77=(1000:Int)))&&((decide (x78=(2000:Int)))&&((decide (x79=(4500:Int)))&&((decide (x80=(1:Int)))&&((decide (x81=(3:Int)))&&((decide (x82=(3000:Int)))&&(x83==Bool.false))))))))))
 else
 some Bool.false
 else
 some Bool.false
 else
 some Bool.false
 else
 some Bool.false
 else
 some Bool.false
 else
 some Bool.false
noncomputable def cons9:List (Nat×CE):=[(10,ce10),(15,ce15),(20,ce20),(24,ce24),(26,ce26),(28,ce28),(31,ce31)]
theorem cons9_ok:ConL Try.prog cons9:=⟨con10,con15,con20,con24,con26,con28,con31,trivial⟩
noncomputable def ce9:CE:=⟨[],[(.tmp 0 false [dO])],dialtonelaw38_awake⟩
theorem con9:ConOk Try.prog 9 ce9 :=
 tree_ok (plan:=planOf plan9) (eg:=egNo) KK tabL_ok (conOf_ok cons9_ok) Try.func9 (by kernel_rfl) (by kernel_rfl) 10000 (fun a r h=>Eq.trans (show _=dialtonelaw38_awake a from by kernel_rfl) h)
def plan4:List (Nat×PL):=[]
noncomputable def dialtonelaw38_BillingEnds:((LN×(Int×(Int×((List (LU×(LU×(LU×(Int×(Int×(Int×(Int×(Int×(Int×Bool))))))))))×(Int×Int)))))×(((List (LU×(Int×(Int×(Int×(List ((Int×(Int×Int))×(Int×Int))))))))×Int)×(LU×(LU×(LU×(Int×(Int×(Int×(Int×(Int×(Int×Bool)))))))))))→Option Bool:=fun ((a1,(a2,(a3,(a4,(a5,a6))))),((a7,a8),(a9,(a10,(a11,(a12,(a13,(a14,(a15,(a16,(a17,a18))))))))))) =>
 bindO (dialtonelaw38_light (a1,(a2,(a3,(a4,(a5,a6)))))) fun x19 =>
 bif (!x19) then
 bindO (dialtonelaw38_awake ()) fun x20 =>
 some x20
 else
 bindO (dialtonelaw38_thin (a7,a8)) fun x21 =>
 bif (!x21) then
 bindO (dialtonelaw38_awake ()) fun x22 =>
 some x22
 else
 bindO (billing_End ((a1,(a2,(a3,(a4,(a5,a6))))),((a7,a8),(a9,a12)))) fun ((x24,(x25,(x26,(x27,(x28,x29))))),x30) =>
 bindO (dialtoneref38_End ((a1,(a2,(a3,(a4,(a5,a6))))),((a7,a8),(a9,a12)))) fun ((x32,(x33,(x34,(x35,(x36,x37))))),x38) =>
 bindO (dialtoneref38_Same ((x24,(x25,(x26,(x27,(x28,x29))))),(x32,(x33,(x34,(x35,(x36,x37))))))) fun x39 =>
 bif (!x39) then
 some Bool.false
 else
 bif (decide (x30≠x38)) then
 some Bool.false
 else
 bindO (billing_Given ((a1,(a2,(a3,(a4,(a5,a6))))),a15)) fun ((x41,(x42,(x43,(x44,(x45,x46))))),x47) =>
 bindO (dialtoneref38_Given ((a1,(a2,(a3,(a4,(a5,a6))))),a15)) fun ((x49,(x50,(x51,(x52,(x53,x54))))),x55) =>
 bindO (billing_Next (a1,(a2,(a3,(a4,(a5,a6)))))) fun ((x57,(x58,(x59,(x60,(x61,(x62,(x63,(x64,(x65,x66))))))))),x67) =>
 bindO (dialtoneref38_Next (a1,(a2,(a3,(a4,(a5,a6)))))) fun ((x69,(x70,(x71,(x72,(x73,(x74,(x75,(x76,(x77,x78))))))))),x79) =>
 bindO (billing_Sync (a1,(a2,(a3,(a4,(a5,a6)))))) fun (x81,(x82,(x83,(x84,(x85,x86))))) =>
 bindO (billing_Next (x81,(x82,(x83,(x84,(x85,x86)))))) fun ((x88,(x89,(x90,(x91,(x92,(x93,(x94,(x95,(x96,x97))))))))),x98) =>
 bindO (dialtoneref38_Sync (a1,(a2,(a3,(a4,(a5,a6)))))) fun (x100,(x101,(x102,(x103,(x104,x105))))) =>
 bindO (dialtoneref38_Next (x100,(x101,(x102,(x103,(x104,x105)))))) fun ((x107,(x108,(x109,(x110,(x111,(x112,(x113,(x114,(x115,x116))))))))),x117) =>
 bindO (dialtoneref38_Same ((x41,(x42,(x43,(x44,(x45,x46))))),(x49,(x50,(x51,(x52,(x53,x54))))))) fun x118 =>
 bif x118 then
 bif (decide (x47=x55)) then
 bif ((decide (x57=x69))&&((decide (x58=x70))&&((decide (x59=x71))&&((decide (x60=x72))&&((decide (x61=x73))&&((decide (x62=x74))&&((decide (x63=x75))&&((decide (x64=x76))&&((decide (x65=x77))&&(x66==x78)))))))))) then
 bif (x67==x79) then
 bindO (dialtoneref38_Sync (a1,(a2,(a3,(a4,(a5,a6)))))) fun (x120,(x121,(x122,(x123,(x124,x125))))) =>
 bindO (dialtoneref38_Same ((x81,(x82,(x83,(x84,(x85,x86))))),(x120,(x121,(x122,(x123,(x124,x125))))))) fun x126 =>
 bif x126 then
 bif ((decide (x88=x107))&&((decide (x89=x108))&&((decide (x90=x109))&&((decide (x91=x110))&&((decide (x92=x111))&&((decide (x93=x112))&&((decide (x94=x113))&&((decide (x95=x114))&&((decide (x96=x115))&&(x97==x116)))))))))) then
 bif (x98==x117) then
 bindO (dialtonelaw38_awake ()) fun x127 =>
 some x127
 else
 some Bool.false
 else
 some Bool.false
 else
 some Bool.false
 else
 some Bool.false
 else
 some Bool.false
 else
 some Bool.false
 else
 some Bool.false
noncomputable def cons4:List (Nat×CE):=[(20,ce20),(24,ce24),(22,ce22),(26,ce26),(21,ce21),(25,ce25),(23,ce23),(27,ce27),(14,ce14),(8,ce8),(19,ce19),(9,ce9)]
theorem cons4_ok:ConL Try.prog cons4:=⟨con20,con24,con22,con26,con21,con25,con23,con27,con14,con8,con19,con9,trivial⟩
noncomputable def ce4:CE:=⟨[(.tmp 0 true [dY,dI,dI,(.dat (.list (.pair .str (.pair .str (.pair .str (.pair uI6 (.pair uI6 (.pair uI6 (.pair uI6 (.pair uI6 (.pair uI6 .bool))))))))))),dI,dI]),(.tmp 1 true [(.dat (.list (.pair .str (.pair uI6 (.pair uI6 (.pair uI6 (.list (.pair (.pair uI8 (.pair uI6 uI6)) (.pair uI6 uI6))))))))),dI]),(.tmp 2 true [dS,dS,dS,dI,dI,dI,dI,dI,dI,dO])],[(.tmp 0 false [dO])],dialtonelaw38_BillingEnds⟩
theorem con4:ConOk Try.prog 4 ce4 :=
 tree_ok (plan:=planOf plan4) (eg:=egNo) KK tabL_ok (conOf_ok cons4_ok) Try.func4 (by kernel_rfl) (by kernel_rfl) 10000 (fun a r h=>Eq.trans (show _=dialtonelaw38_BillingEnds a from by kernel_rfl) h)
end Go.Proofs.Ytkpijdndakljjaa

set_option maxRecDepth 100000
set_option maxHeartbeats 4000000
namespace Go.Proofs.Ytkpijdndakljjaa
open Go.RowKit
def tr:List Ra:=[([],(0,(1,(1,[((127,(0,1440)),(1000,1000))]))))]
namespace Rt
theorem cs_one {l:List Pr1} {rc:Int} {mo:Nat→Int} (hl:l.length=1) (h:RVl l):∀ {n:Nat},(∀k,k<n+1→0≤mo k∧mo k≤4000000000000000000)→CU l rc mo (n+1)=rc+(l.getD 0 p0).2.1+(n:Int)*(l.getD 0 p0).2.2
 | 0,hm=>by
   obtain ⟨i,hi,e⟩:=(px_j h (hm 0 (by omega))).2.pos h
   obtain rfl:i=0:=by omega
   show rc+prc l (mo 0) 0=_
   unfold prc
   rw [if_pos rfl,e]
   show rc+(l.getD 0 p0).2.1=rc+(l.getD 0 p0).2.1+(0:Int)*_
   rw [Int.zero_mul];omega
 | n+1,hm=>by
   obtain ⟨i,hi,e⟩:=(px_j h (hm (n+1) (by omega))).2.pos h
   obtain rfl:i=0:=by omega
   show CU l rc mo (n+1)+prc l (mo (n+1)) (n+1)=_
   rw [cs_one hl h (fun k hk=>hm k (by omega))]
   unfold prc
   rw [if_neg (by omega),e,show ((n+1:Nat):Int)=(n:Int)+1 from rfl,Int.add_mul,Int.one_mul]
   show _+(l.getD 0 p0).2.2=_
   omega
theorem rv_tr:RV (tr.getD 0 r0):=by
 refine ⟨⟨by decide,by decide,by decide,by decide⟩,fun i hi => ?_,by decide,fun i hi => ?_,by decide⟩
 ·exact absurd hi (by simp [tr])
 ·obtain rfl:i=0:=by have:i<1:=hi;omega
  decide
theorem tv_tr:TV tr 0:=by
 refine ⟨by decide,fun i hi => ?_⟩
 obtain rfl:i=0:=by have:i<1:=hi;omega
 exact ⟨rv_tr,fun k hk=>by omega⟩
theorem find_tr (num:List UInt8):rating_Find ((tr,0),num)=some (0,true):=by
 obtain ⟨r,e1,_,h,_⟩:=find_same tr 0 num
 have k:FX tr num (((0:Nat):Int),true) := .inr ⟨0,by decide,rfl,by show Bg num [];simp [Bg],fun j hj _=>by
  obtain rfl:j=0:=by have:j<1:=hj;omega
  exact Nat.le_refl _⟩
 rw [e1,(h tv_tr).uniq tv_tr k];rfl
theorem cost_tr (num:List UInt8) {a b:Int} (hs:Spn a b) (h1:SE a b≤1000000):rating_Cost ((tr,0),(num,(a,b)))=some (1000*SE a b,0):=by
 rw [costP_v (i:=0) tv_tr hs h1 (by decide) (find_tr num)]
 have h0:=se_nn a b
 have e:CV (tr.getD 0 r0) 0 a (SE a b)=1000*SE a b:=by
  generalize SE a b=s at *
  unfold CV
  have hp:PN 0 (tr.getD 0 r0).2.2.1 (tr.getD 0 r0).2.2.2.1 s=s:=by
   show PN 0 1 1 s=s
   unfold PN
   split
   ·omega
   ·split<;>omega
  rw [hp]
  split
  ·omega
  ·obtain ⟨n,hn⟩:∃n:Nat,s.toNat=n+1:=⟨s.toNat-1,by omega⟩
   rw [hn,cs_one rfl rv_tr.2.2 (fun k hk=>by
    have:=mo_bd (a:=a) (f:=0) (fi:=1) (st:=1) ⟨hs.1,Int.le_trans hs.2.1 hs.2.2⟩ (by omega) (by omega) (by omega) (k:=k) (by omega)
    show 0≤MO a 0 1 1 k∧MO a 0 1 1 k≤4000000000000000000
    omega)]
   show (0:Int)+1000+(n:Int)*1000=1000*s
   omega
 rw [e]
end Rt
theorem tariff_j:dialtonelaw38_tariff ()=some (tr,0):=rfl
theorem VL1 {B:List Int} {s n l now:Int} {b:BL} (h1:0≤s∧s≤(B.length:Int)∧0≤n∧n≤1048576) (h2:0≤now∧now≤1099511627776) (h3:0≤l∧l≤1048576) (h4:BK now b) (h5:b.2.2.2.2.2.2.1=0∨(1≤b.2.2.2.2.2.2.1∧b.2.2.2.2.2.2.1≤l)):VL (B,(s,(n,([b],(l,now))))):=by
 refine ⟨h1,h2,h3,?_,fun i hi => ?_⟩
 ·have:=opn_le [b]
  simp at this
  show opn [b]≤256
  omega
 ·obtain rfl:i=0:=by have:i<1:=hi;omega
  refine ⟨h4,?_⟩
  by_cases hz:b.2.2.2.2.2.2.1=0
  ·exact .inl ⟨by show 0<opn [b];simp [opn,hz],fun h=>by omega⟩
  ·exact .inr ⟨Nat.le_trans (show opn [b]≤0 by simp [opn,hz]) (Nat.le_refl _),by
    rw [pv_lo (Nat.zero_le _)]
    show 0+1≤b.2.2.2.2.2.2.1∧b.2.2.2.2.2.2.1≤l
    omega⟩
theorem VL0:VL zG:=⟨by decide,by decide,by decide,by decide,fun i hi=>absurd hi (by simp [zG])⟩
def wA:BL:=([99],([97],([98],(1000,(0,(0,(0,(0,(0,false)))))))))
def wB:List Int:=[]++Jn.encB 0 1 (dB wA)
def w1:BL:=([99],([97],([98],(1000,(-1,(1000,(0,(0,(0,false)))))))))
def w2:BL:=([99],([97],([98],(1000,(2000,(2000,(0,(0,(0,false)))))))))
def w3:BL:=([99],([97],([98],(1000,(2000,(4500,(1,(3,(3000,false)))))))))
def wC:List Int:=wB++Jn.encB 1 2 (datL [2000] [[99]])
def wD:List Int:=wC++Jn.encB 2 4 (datL [4500,1,3,3000] [[99]])
theorem len1 (t:Int) (c:Tx):(datL [t] [c]).length=10+c.length:=by
 rw [datL_length]
 simp only [List.flatMap_cons,List.flatMap_nil,List.length_append,tB_len,List.length_cons,List.length_nil]
 omega
theorem wB_len:wB.length=31:=by
 unfold wB
 rw [List.nil_append,Jn.encB_length,dB,datL_length]
 simp [tB_len,wA]
theorem wC_len:wC.length=56:=by
 unfold wC
 rw [List.length_append,wB_len,Jn.encB_length,len1];rfl
theorem wD_len:wD.length=105:=by
 unfold wD
 rw [List.length_append,wC_len,Jn.encB_length,datL_length]
 simp [tB_len]
theorem bk1:BK 1000 w1:=⟨by decide,by decide,.inl rfl,by decide,.inl (by decide)⟩
theorem bk2:BK 2000 w2:=⟨by decide,by decide,.inr (by decide),by decide,.inl (by decide)⟩
theorem bk3:BK 4500 w3:=⟨by decide,by decide,.inr (by decide),by decide,.inr ⟨by decide,by decide,by decide,by decide⟩⟩
theorem answer_j (g:LG) (c:Tx) (t:Int) (hl:g.2.2.2.1.length≤1000000) (hB:g.1.length≤900000):billing_Answer (g,(c,t))=some (tchR g 2 c t):=by
 have h:=touch_j g 2 c t (.inl rfl) hl hB
 obtain ⟨a1,a2,a3,a4,a5,a6⟩:=g
 show bindO (billing_touch ((a1,(a2,(a3,(a4,(a5,a6))))),(2,(c,t)))) _=_
 rw [h];rfl
theorem wk_1:billing_Begin (zG,wA)=some ((wB,(0,(1,([w1],(0,1000))))),0):=by
 rw [begin_j zG wA (by decide) (by decide)]
 unfold begR
 rw [if_pos ⟨⟨VL0,by decide,by decide⟩,by decide⟩,if_neg (fun h=>absurd h.1 (by decide)),if_neg (by decide)]
 rfl
theorem fnd1 {b:BL} (h:b.2.2.2.2.2.2.1=0):Fnd b.1 [b]∧psn b.1 [b]=0:=by
 have h2:psn b.1 [b]=0:=by simp [psn,bl_irr]
 refine ⟨⟨?_,?_⟩,h2⟩
 ·rw [h2];simp [opn,h]
 ·rw [h2];rfl
theorem wk_2:billing_Answer ((wB,(0,(1,([w1],(0,1000))))),([99],2000))=some ((wC,(0,(2,([w2],(0,2000))))),0):=by
 have hv:VL (wB,(0,(1,([w1],(0,1000))))):=VL1 (by rw [wB_len];decide) (by decide) (by decide) bk1 (.inl rfl)
 rw [answer_j _ _ _ (by decide) (by show wB.length≤_;rw [wB_len];decide)]
 unfold tchR
 have hf:Fnd [99] [w1]∧psn [99] [w1]=0:=fnd1 (b:=w1) rfl
 rw [if_pos ⟨hv,by decide,by decide⟩]
 dsimp only
 rw [if_pos hf.1]
 have e0:psn ([99]:Tx) [w1]=0:=hf.2
 simp only [e0]
 rw [if_neg (fun h=>h.2 rfl),if_neg (by decide)]
 rfl
theorem wk_3:billing_Sync (wC,(0,(2,([w2],(0,2000)))))=some (wC,(56,(2,([w2],(0,2000))))):=by
 have hv:VL (wC,(0,(2,([w2],(0,2000))))):=VL1 (by rw [wC_len];decide) (by decide) (by decide) bk2 (.inl rfl)
 rw [sync_j _ (by decide) (by show wC.length≤_;rw [wC_len];decide)]
 unfold synR
 rw [if_pos hv]
 simp only [wC_len]
 rfl
theorem wk_4:billing_Next (wC,(56,(2,([w2],(0,2000)))))=some (b0,false):=by
 obtain ⟨r,h1,_,h3⟩:=next_j (wC,(56,(2,([w2],(0,2000))))) (by decide)
 rcases h3 with ⟨_,i,hi,hd,_⟩ | ⟨_,rfl⟩
 ·obtain rfl:i=0:=by have:i<1:=hi;omega
  exact (hd.1 rfl).elim
 ·exact h1
theorem co_w:coR tr 0 [98] 2000 4500=3000:=by
 unfold coR
 rw [Rt.cost_tr [98] (by decide) (by decide)]
 rfl
theorem wk_5:billing_End ((wC,(0,(2,([w2],(0,2000))))),((tr,0),([99],4500)))=some ((wD,(0,(3,([w3],(1,4500))))),0):=by
 have hv:VL (wC,(0,(2,([w2],(0,2000))))):=VL1 (by rw [wC_len];decide) (by decide) (by decide) bk2 (.inl rfl)
 rw [end_j _ _ _ _ _ (by decide) (by show wC.length≤_;rw [wC_len];decide)]
 unfold endR
 have hf:Fnd [99] [w2]∧psn [99] [w2]=0:=fnd1 (b:=w2) rfl
 rw [if_pos ⟨⟨hv,by decide,by decide⟩,Rt.tv_tr⟩]
 dsimp only
 rw [if_pos hf.1]
 have e0:psn ([99]:Tx) [w2]=0:=hf.2
 simp only [e0]
 have hse:Rt.SE 2000 4500=3:=by decide
 have hco:coR tr 0 w2.2.2.1 2000 4500=3000:=co_w
 unfold finR bsF laF dE nmF
 have eg:([w2]:List BL).getD 0 b0=w2:=rfl
 simp only [eg]
 rw [if_neg (by decide),if_pos (show w2.2.2.2.2.1 ≠ -1 by decide),if_pos (show w2.2.2.2.2.1 ≠ -1 by decide),if_pos (show w2.2.2.2.2.1 ≠ -1 by decide)]
 have ea:w2.2.2.2.2.1=2000:=rfl
 simp only [ea,hse,hco]
 rfl
theorem wk_6:billing_Next (wD,(0,(3,([w3],(1,4500)))))=some (b0,false):=by
 obtain ⟨r,h1,_,h3⟩:=next_j (wD,(0,(3,([w3],(1,4500))))) (by decide)
 rcases h3 with ⟨h,_⟩ | ⟨_,rfl⟩
 ·have h2:(0:Int)=(wD.length:Int):=h.2
  rw [wD_len] at h2
  omega
 ·exact h1
theorem wk_7:billing_Sync (wD,(0,(3,([w3],(1,4500)))))=some (wD,(105,(3,([w3],(1,4500))))):=by
 have hv:VL (wD,(0,(3,([w3],(1,4500))))):=VL1 (by rw [wD_len];decide) (by decide) (by decide) bk3 (.inr (by decide))
 rw [sync_j _ (by decide) (by show wD.length≤_;rw [wD_len];decide)]
 unfold synR
 rw [if_pos hv]
 simp only [wD_len]
 rfl
theorem wk_8:billing_Next (wD,(105,(3,([w3],(1,4500)))))=some (w3,true):=by
 have hv:VL (wD,(105,(3,([w3],(1,4500))))):=VL1 (by rw [wD_len];decide) (by decide) (by decide) bk3 (.inr (by decide))
 obtain ⟨r,h1,_,h3⟩:=next_j (wD,(105,(3,([w3],(1,4500))))) (by decide)
 rcases h3 with ⟨_,i,hi,_,_,rfl⟩ | ⟨hno,_⟩
 ·obtain rfl:i=0:=by have:i<1:=hi;omega
  exact h1
 ·exact (hno ⟨⟨hv,by show (105:Int)=(wD.length:Int);rw [wD_len];rfl⟩,0,by decide,by decide,rfl⟩).elim
theorem awake_j:dialtonelaw38_awake ()=some true:=by
 unfold dialtonelaw38_awake
 have h0:billing_New ()=some zG:=rfl
 have h1:=wk_1
 unfold zG wA at h1
 rw [h0]
 unfold zG
 simp only [↓SDl,SDr,h1,wk_2,wk_3,wk_4,tariff_j,wk_5,wk_6,wk_7,wk_8]
 rfl
end Go.Proofs.Ytkpijdndakljjaa

set_option maxRecDepth 100000
set_option maxHeartbeats 4000000
namespace Go.Proofs.Ytkpijdndakljjaa
open Go.RowKit
theorem le_eq (g:LG) (a7:List Ra) (a8:Int) (b:BL):dialtonelaw38_BillingEnds (g,((a7,a8),b)) =
 bindO (dialtonelaw38_light g) fun x19 =>
 bif (!x19) then
  bindO (dialtonelaw38_awake ()) fun x20 =>
  some x20
 else
  bindO (dialtonelaw38_thin (a7,a8)) fun x21 =>
  bif (!x21) then
   bindO (dialtonelaw38_awake ()) fun x22 =>
   some x22
  else
   bindO (billing_End (g,((a7,a8),(b.1,b.2.2.2.1)))) fun ((x24,(x25,(x26,(x27,(x28,x29))))),x30) =>
   bindO (dialtoneref38_End (g,((a7,a8),(b.1,b.2.2.2.1)))) fun ((x32,(x33,(x34,(x35,(x36,x37))))),x38) =>
   bindO (dialtoneref38_Same ((x24,(x25,(x26,(x27,(x28,x29))))),(x32,(x33,(x34,(x35,(x36,x37))))))) fun x39 =>
   bif (!x39) then
    some Bool.false
   else
    bif (decide (x30≠x38)) then
     some Bool.false
    else
     bindO (billing_Given (g,b.2.2.2.2.2.2.1)) fun ((x41,(x42,(x43,(x44,(x45,x46))))),x47) =>
     bindO (dialtoneref38_Given (g,b.2.2.2.2.2.2.1)) fun ((x49,(x50,(x51,(x52,(x53,x54))))),x55) =>
     bindO (billing_Next g) fun ((x57,(x58,(x59,(x60,(x61,(x62,(x63,(x64,(x65,x66))))))))),x67) =>
     bindO (dialtoneref38_Next g) fun ((x69,(x70,(x71,(x72,(x73,(x74,(x75,(x76,(x77,x78))))))))),x79) =>
     bindO (billing_Sync g) fun (x81,(x82,(x83,(x84,(x85,x86))))) =>
     bindO (billing_Next (x81,(x82,(x83,(x84,(x85,x86)))))) fun ((x88,(x89,(x90,(x91,(x92,(x93,(x94,(x95,(x96,x97))))))))),x98) =>
     bindO (dialtoneref38_Sync g) fun (x100,(x101,(x102,(x103,(x104,x105))))) =>
     bindO (dialtoneref38_Next (x100,(x101,(x102,(x103,(x104,x105)))))) fun ((x107,(x108,(x109,(x110,(x111,(x112,(x113,(x114,(x115,x116))))))))),x117) =>
     bindO (dialtoneref38_Same ((x41,(x42,(x43,(x44,(x45,x46))))),(x49,(x50,(x51,(x52,(x53,x54))))))) fun x118 =>
     bif x118 then
      bif (decide (x47=x55)) then
       bif ((decide (x57=x69))&&((decide (x58=x70))&&((decide (x59=x71))&&((decide (x60=x72))&&((decide (x61=x73))&&((decide (x62=x74))&&((decide (x63=x75))&&((decide (x64=x76))&&((decide (x65=x77))&&(x66==x78)))))))))) then
        bif (x67==x79) then
         bindO (dialtoneref38_Sync g) fun (x120,(x121,(x122,(x123,(x124,x125))))) =>
         bindO (dialtoneref38_Same ((x81,(x82,(x83,(x84,(x85,x86))))),(x120,(x121,(x122,(x123,(x124,x125))))))) fun x126 =>
         bif x126 then
          bif ((decide (x88=x107))&&((decide (x89=x108))&&((decide (x90=x109))&&((decide (x91=x110))&&((decide (x92=x111))&&((decide (x93=x112))&&((decide (x94=x113))&&((decide (x95=x114))&&((decide (x96=x115))&&(x97==x116)))))))))) then
           bif (x98==x117) then
            bindO (dialtonelaw38_awake ()) fun x127 =>
            some x127
           else
            some Bool.false
          else
           some Bool.false
         else
          some Bool.false
        else
         some Bool.false
       else
        some Bool.false
      else
       some Bool.false
     else
      some Bool.false:=rfl
theorem light_b {β:Type} (g:LG) (f:Bool→Option β):bindO (dialtonelaw38_light g) f=f (decide (g.2.2.2.1.length≤600∧g.1.length≤100000)):=by
 obtain ⟨a1,a2,a3,a4,a5,a6⟩:=g
 unfold dialtonelaw38_light
 by_cases h:a4.length≤600
 ·simp (disch:=(first | omega | (simp only [LNl];omega))) only [↓SDl,SDr,if_pos]
  congr 1
  rw [decide_eq_decide];omega
 ·simp (disch:=(first | omega | (simp only [LNl];omega))) only [↓SDl,SDr,if_neg]
  congr 1
  rw [eq_comm,decide_eq_false_iff_not];omega
theorem thin_b {β:Type} (rs:List Ra) (fr:Int) (f:Bool→Option β):bindO (dialtonelaw38_thin (rs,fr)) f=f (decide (rs.length≤20)):=by
 unfold dialtonelaw38_thin
 rw [bindO_some]
 congr 1
 rw [decide_eq_decide];omega
theorem rst_le (l:List BL) (p:Nat):(rst l p).length≤l.length:=by
 rw [rst,List.length_append,List.length_take,List.length_drop];omega
theorem endR_len (g:LG) (rs:List Ra) (fr:Int) (c:Tx) (t:Int):(endR g rs fr c t).1.2.2.2.1.length≤g.2.2.2.1.length+1:=by
 unfold endR
 split
 ·split
  ·unfold finR
   split
   ·exact Nat.zero_le _
   ·show (bsF rs fr g.2.2.2.1 g.2.2.2.2.1 (psn c g.2.2.2.1) t).length≤_
    unfold bsF
    have:=rst_le g.2.2.2.1 (psn c g.2.2.2.1)
    split
    ·rw [List.length_append];simp;omega
    ·omega
  ·exact Nat.zero_le _
 ·exact Nat.zero_le _
theorem gvR_len (g:LG) (n:Int) (i:Nat):(gvR g n i).1.2.2.2.1.length≤g.2.2.2.1.length:=by
 unfold gvR
 split
 ·exact Nat.zero_le _
 ·split
  ·exact Nat.zero_le _
  ·simp
theorem synR_len (g:LG):(synR g).2.2.2.1.length≤g.2.2.2.1.length:=by
 unfold synR
 split
 ·exact Nat.le_refl _
 ·exact Nat.zero_le _
theorem ends_j (g:LG) (rs:List Ra) (fr:Int) (b:BL):dialtonelaw38_BillingEnds (g,((rs,fr),b))=some true:=by
 rw [le_eq]
 by_cases h:g.2.2.2.1.length≤600∧g.1.length≤100000
 ·by_cases ht:rs.length≤20
  ·have hl:g.2.2.2.1.length≤1000000:=by omega
   have hB:g.1.length≤900000:=by omega
   have e1:=end_j g rs fr b.1 b.2.2.2.1 hl hB
   have e2:=endR_j g rs fr b.1 b.2.2.2.1 hl hB
   have l1:=endR_len g rs fr b.1 b.2.2.2.1
   obtain ⟨r2,e3,e4,hg⟩:=gvn_j g b.2.2.2.2.2.2.1 hl hB
   have l3:r2.1.2.2.2.1.length≤g.2.2.2.1.length:=by
    rcases hg with ⟨_,rfl⟩ | ⟨_,⟨i,_,_,rfl⟩ | ⟨_,rfl⟩⟩
    ·exact Nat.zero_le _
    ·exact gvR_len _ _ _
    ·exact Nat.zero_le _
   obtain ⟨r3,e5,e6,_⟩:=next_j g hl
   have e7:=sync_j g hl hB
   have e8:=syncR_j g hl hB
   have l7:=synR_len g
   obtain ⟨r4,e9,e10,_⟩:=next_j (synR g) (by omega)
   clear hg
   generalize endR g rs fr b.1 b.2.2.2.1=r1 at *
   generalize synR g=r5 at *
   obtain ⟨⟨p1,p2,p3,p4,p5,p6⟩,p7⟩:=r1
   obtain ⟨⟨q1,q2,q3,q4,q5,q6⟩,q7⟩:=r2
   obtain ⟨s1,s2,s3,s4,s5,s6⟩:=r5
   obtain ⟨⟨t1,t2,t3,t4,t5,t6,t7,t8,t9,t10⟩,t11⟩:=r3
   obtain ⟨⟨u1,u2,u3,u4,u5,u6,u7,u8,u9,u10⟩,u11⟩:=r4
   simp only at l1 l3 l7
   have m1:=same_refl (p1,(p2,(p3,(p4,(p5,p6))))) (show p4.length≤1000000 by omega)
   have m2:=same_refl (q1,(q2,(q3,(q4,(q5,q6))))) (show q4.length≤1000000 by omega)
   have m3:=same_refl (s1,(s2,(s3,(s4,(s5,s6))))) (show s4.length≤1000000 by omega)
   simp only [↓SDl,SDr,↓light_b,↓thin_b,if_pos h,if_pos ht,e1,e2,m1,ne_eq,not_true_eq_false,decide_false,e3,e4,e5,e6,e7,e8,e9,e10,m2,m3,decide_true,beq_self_eq_true,Bool.and_self,awake_j]
  ·simp only [↓SDl,SDr,↓light_b,↓thin_b,if_pos h,if_neg ht,awake_j]
 ·simp only [↓SDl,SDr,↓light_b,if_neg h,awake_j]
theorem ends_main (a:LG×((List Ra×Int)×BL)) (_:WfIs [(.tmp 0 true [(.dat (.list (.int .u8))),(.dat (.int .i64)),(.dat (.int .i64)),(.dat (.list UBl)),(.dat (.int .i64)),(.dat (.int .i64))]),(.tmp 1 true [(.dat (.list UR)),(.dat (.int .i64))]),(.tmp 2 true [(.dat .str),(.dat .str),(.dat .str),(.dat (.int .i64)),(.dat (.int .i64)),(.dat (.int .i64)),(.dat (.int .i64)),(.dat (.int .i64)),(.dat (.int .i64)),(.dat .bool)])] a):dialtonelaw38_BillingEnds a=some true:=ends_j a.1 a.2.1.1 a.2.1.2 a.2.2
end Go.Proofs.Ytkpijdndakljjaa
