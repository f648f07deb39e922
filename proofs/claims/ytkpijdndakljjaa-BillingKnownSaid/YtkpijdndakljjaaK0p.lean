import Derived.Test.YtkpijdndakljjaaJ10p
import Derived.Test.YtkpijdndakljjaaZ2p
import Derived.Test.YtkpijdndakljjaaU0p
set_option linter.unusedSimpArgs false
set_option linter.unusedVariables false
set_option maxRecDepth 100000
set_option maxHeartbeats 4000000
namespace Go.Proofs.Ytkpijdndakljjaa
open Go.RowKit
theorem loop_firstK {β:Type} {body:Int→Option (Int ⊕ β)} {k n:Nat} (hk:k≤n) (p:Nat→Prop) (f:Nat→β) (r0:β) (h1:∀i:Nat,k≤i→i<n→¬p i→body (i:Int)=some (.inl ((i+1:Nat):Int))) (h2:∀i:Nat,k≤i→i<n→p i→body (i:Int)=some (.inr (f i))) (h3:body (n:Int)=some (.inr r0)) :
 (∃i,k≤i∧i<n∧p i∧(∀j,k≤j→j<i→¬p j)∧loopO body (k:Int)=some (f i))∨((∀i,k≤i→i<n→¬p i)∧loopO body (k:Int)=some r0):=by
 by_cases h:∃i,k≤i∧i<n∧p i
 ·obtain ⟨i,⟨q1,q2,q3⟩,q4⟩:=least h
  have q5:∀j,k≤j→j<i→¬p j:=fun j j1 j2 j3=>q4 j j2 ⟨j1,by omega,j3⟩
  refine .inl ⟨i,q1,q2,q3,q5,loopO_from (fun j=>((k+j:Nat):Int)) (i-k) (by simp) (fun j hj => ?_) ?_⟩
  ·exact h1 (k+j) (by omega) (by omega) (q5 _ (by omega) (by omega))
  ·show body ((k+(i-k):Nat):Int)=_
   rw [show k+(i-k)=i from by omega]
   exact h2 i q1 q2 q3
 ·have h':∀i,k≤i→i<n→¬p i:=fun i i1 i2 i3=>h ⟨i,i1,i2,i3⟩
  refine .inr ⟨h',loopO_from (fun j=>((k+j:Nat):Int)) (n-k) (by simp) (fun j hj => ?_) ?_⟩
  ·exact h1 (k+j) (by omega) (by omega) (h' _ (by omega) (by omega))
  ·show body ((k+(n-k):Nat):Int)=_
   rw [show k+(n-k)=n from by omega]
   exact h3
def Due (l:List BL) (i:Nat):Prop:=(l.getD i b0).2.2.2.2.2.2.1≠0∧(l.getD i b0).2.2.2.2.2.2.2.2.2=false
def NX (g:LG):Prop:=VL g∧g.2.1=(g.1.length:Int)
theorem next_j (g:LG) (hl:g.2.2.2.1.length≤1000000):∃r,billing_Next g=some r∧dialtoneref38_Next g=some r ∧
 ((NX g∧∃i,i<g.2.2.2.1.length∧Due g.2.2.2.1 i∧(∀j,j<i→¬Due g.2.2.2.1 j)∧r=(g.2.2.2.1.getD i b0,true))∨(¬(NX g∧∃i,i<g.2.2.2.1.length∧Due g.2.2.2.1 i)∧r=(b0,false))):=by
 have ho:=opn_le g.2.2.2.1
 rw [nx_eq,nr_eq]
 by_cases hv:VL g
 ·by_cases hsy:g.2.1=(g.1.length:Int)
  ·have hP:=loop_first (body:=nxB g) g.2.2.2.1.length (fun i=>Due g.2.2.2.1 i) (fun i => .inr (g.2.2.2.1.getD i b0,true)) (.inl ()) (fun i hi hn=>by
    obtain ⟨x,hx,hxb⟩:=get_at b0 hi
    unfold Due at hn
    rw [hx] at hn
    unfold nxB
    by_cases h0:x.2.2.2.2.2.2.1=0
    ·simp (disch:=(first | omega | (simp only [LNl];omega))) only [↓SDl,SDr,if_pos,if_neg,↓hxb,wrap_i64']
     rfl
    ·have h1:x.2.2.2.2.2.2.2.2.2=true:=by
      cases hg:x.2.2.2.2.2.2.2.2.2 with
      | true=>rfl
      | false=>exact (hn ⟨h0,hg⟩).elim
     simp (disch:=(first | omega | (simp only [LNl];omega))) only [↓SDl,SDr,if_pos,if_neg,↓hxb,h1,wrap_i64']
     rfl) (fun i hi hn=>by
    obtain ⟨x,hx,hxb⟩:=get_at b0 hi
    unfold Due at hn
    rw [hx] at hn ⊢
    have hg:=hn.2
    have h0:=hn.1
    unfold nxB
    simp (disch:=(first | omega | (simp only [LNl];omega))) only [↓SDl,SDr,if_pos,if_neg,↓hxb,hg]) (by
    unfold nxB
    simp (disch:=(first | omega | (simp only [LNl];omega))) only [↓SDl,SDr,if_neg])
   have hR:=loop_firstK (body:=nrB g) ho (fun i=>Due g.2.2.2.1 i) (fun i => .inr (g.2.2.2.1.getD i b0,true)) (.inl ()) (fun i hk hi hn=>by
    obtain ⟨x,hx,hxb⟩:=get_at b0 hi
    have hnum:=(hv.num hi).2.2 hk
    unfold Due at hn
    rw [hx] at hn hnum
    have h1:x.2.2.2.2.2.2.2.2.2=true:=by
     cases hg:x.2.2.2.2.2.2.2.2.2 with
     | true=>rfl
     | false=>exact (hn ⟨by omega,hg⟩).elim
    unfold nrB
    simp (disch:=(first | omega | (simp only [LNl];omega))) only [↓SDl,SDr,if_pos,if_neg,↓hxb,h1,wrap_i64']
    rfl) (fun i hk hi hn=>by
    obtain ⟨x,hx,hxb⟩:=get_at b0 hi
    unfold Due at hn
    rw [hx] at hn ⊢
    have hg:=hn.2
    unfold nrB
    simp (disch:=(first | omega | (simp only [LNl];omega))) only [↓SDl,SDr,if_pos,if_neg,↓hxb,hg]) (by
    unfold nrB
    simp (disch:=(first | omega | (simp only [LNl];omega))) only [↓SDl,SDr,if_neg])
   have hno:∀i,i<opn g.2.2.2.1→¬Due g.2.2.2.1 i:=fun i hi h=>h.1 (opn_in hi)
   rcases hP with ⟨i,k1,k2,k3,e⟩ | ⟨k,e⟩
   ·have hio:opn g.2.2.2.1≤i:=by
     rcases Nat.lt_or_ge i (opn g.2.2.2.1) with h | h
     ·exact (hno i h k2).elim
     ·exact h
    rcases hR with ⟨i',k0',k1',k2',k3',e'⟩ | ⟨k',_⟩
    ·have hii:i'=i:=by
      rcases Nat.lt_trichotomy i' i with h | h | h
      ·exact (k3 _ h k2').elim
      ·exact h
      ·exact (k3' _ hio h k2).elim
     subst hii
     refine ⟨(g.2.2.2.1.getD i' b0,true),?_,?_,.inl ⟨⟨hv,hsy⟩,i',k1,k2,k3,rfl⟩⟩
     ·simp (disch:=(first | omega | (simp only [LNl];omega))) only [↓SDl,SDr,↓(va_j g hl).b,tf_t hv,if_neg,e]
     ·simp (disch:=(first | omega | (simp only [LNl];omega))) only [↓SDl,SDr,↓(vr_j g hl).b,tf_t hv,if_neg,↓or_b g hl,e']
    ·exact (k' i hio k1 k2).elim
   ·rcases hR with ⟨i',_,k1',k2',_,_⟩ | ⟨_,e'⟩
    ·exact (k i' k1' k2').elim
    ·refine ⟨(b0,false),?_,?_,.inr ⟨fun h=>by obtain ⟨i,i1,i2⟩:=h.2;exact k i i1 i2,rfl⟩⟩
     ·simp (disch:=(first | omega | (simp only [LNl];omega))) only [↓SDl,SDr,↓(va_j g hl).b,tf_t hv,if_neg,e]
      rfl
     ·simp (disch:=(first | omega | (simp only [LNl];omega))) only [↓SDl,SDr,↓(vr_j g hl).b,tf_t hv,if_neg,↓or_b g hl,e']
      rfl
  ·refine ⟨(b0,false),?_,?_,.inr ⟨fun h=>hsy h.1.2,rfl⟩⟩
   ·simp (disch:=(first | omega | (simp only [LNl];omega))) only [↓SDl,SDr,↓(va_j g hl).b,tf_t hv,if_pos]
    rfl
   ·simp (disch:=(first | omega | (simp only [LNl];omega))) only [↓SDl,SDr,↓(vr_j g hl).b,tf_t hv,if_pos]
    rfl
 ·refine ⟨(b0,false),?_,?_,.inr ⟨fun h=>hv h.1.1,rfl⟩⟩
  ·simp only [↓SDl,SDr,↓(va_j g hl).b,tf_f hv]
   rfl
  ·simp only [↓SDl,SDr,↓(vr_j g hl).b,tf_f hv]
   rfl
open Classical in
noncomputable def synR (g:LG):LG:=if VL g then (g.1,((g.1.length:Int),(g.2.2.1,(g.2.2.2.1,(g.2.2.2.2.1,g.2.2.2.2.2))))) else zG
theorem sync_j (g:LG) (hl:g.2.2.2.1.length≤1000000) (hB:g.1.length≤900000):billing_Sync g=some (synR g):=by
 rw [sy_eq]
 unfold synR
 by_cases hv:VL g
 ·rw [if_pos hv]
  have hS:∀ {β:Type} (f:List Int×(Int×Int)→Option β),bindO (journal_Sync (g.1,(g.2.1,g.2.2.1))) f=f (g.1,((g.1.length:Int),g.2.2.1)):=fun f=>by rw [Jn.sync_j g.1 g.2.1 g.2.2.1 hB ⟨hv.1.1,hv.1.2.1⟩ ⟨hv.1.2.2.1,hv.1.2.2.2⟩];rfl
  simp (disch:=(first | omega | (simp only [LNl];omega))) only [↓SDl,SDr,↓(va_j g hl).b,tf_t hv,↓hS,↓clone_b hl]
 ·rw [if_neg hv]
  simp only [↓SDl,SDr,↓(va_j g hl).b,tf_f hv]
  rfl
end Go.Proofs.Ytkpijdndakljjaa

set_option maxRecDepth 100000
set_option maxHeartbeats 4000000
namespace Go.Proofs.Ytkpijdndakljjaa
open Go.RowKit
def tr:List Ra:=[([],(0,(1,(1,[((127,(0,1440)),(1000,1000))]))))]
namespace Rt
theorem cs_one {l:List Pr1} {rc:Int} {mo:Nat→Int} (hl:l.length=1) (h:RVl l):∀ {n:Nat},(∀k,k<n+1→0≤mo k∧mo k≤4000000000000000000)→CU l rc mo (n+1)=rc+(l.getD 0 p0).2.1+(n:Int)*(l.getD 0 p0).2.2
 | 0,hm=>by
   obtain ⟨i,hi,e⟩:=(px_j h (hm 0 (by omega))).2.pos h
   obtain rfl:i=0:=by omega
   show rc+prc l (mo 0) 0=_
   unfold prc
   rw [if_pos rfl,e]
   show rc+(l.getD 0 p0).2.1=rc+(l.getD 0 p0).2.1+(0:Int)*_
   rw [Int.zero_mul];omega
 | n+1,hm=>by
   obtain ⟨i,hi,e⟩:=(px_j h (hm (n+1) (by omega))).2.pos h
   obtain rfl:i=0:=by omega
   show CU l rc mo (n+1)+prc l (mo (n+1)) (n+1)=_
   rw [cs_one hl h (fun k hk=>hm k (by omega))]
   unfold prc
   rw [if_neg (by omega),e,show ((n+1:Nat):Int)=(n:Int)+1 from rfl,Int.add_mul,Int.one_mul]
   show _+(l.getD 0 p0).2.2=_
   omega
theorem rv_tr:RV (tr.getD 0 r0):=by
 refine ⟨⟨by decide,by decide,by decide,by decide⟩,fun i hi => ?_,by decide,fun i hi => ?_,by decide⟩
 ·exact absurd hi (by simp [tr])
 ·obtain rfl:i=0:=by have:i<1:=hi;omega
  decide
theorem tv_tr:TV tr 0:=by
 refine ⟨by decide,fun i hi => ?_⟩
 obtain rfl:i=0:=by have:i<1:=hi;omega
 exact ⟨rv_tr,fun k hk=>by omega⟩
theorem find_tr (num:List UInt8):rating_Find ((tr,0),num)=some (0,true):=by
 obtain ⟨r,e1,_,h,_⟩:=find_same tr 0 num
 have k:FX tr num (((0:Nat):Int),true) := .inr ⟨0,by decide,rfl,by show Bg num [];simp [Bg],fun j hj _=>by
  obtain rfl:j=0:=by have:j<1:=hj;omega
  exact Nat.le_refl _⟩
 rw [e1,(h tv_tr).uniq tv_tr k];rfl
theorem cost_tr (num:List UInt8) {a b:Int} (hs:Spn a b) (h1:SE a b≤1000000):rating_Cost ((tr,0),(num,(a,b)))=some (1000*SE a b,0):=by
 rw [costP_v (i:=0) tv_tr hs h1 (by decide) (find_tr num)]
 have h0:=se_nn a b
 have e:CV (tr.getD 0 r0) 0 a (SE a b)=1000*SE a b:=by
  generalize SE a b=s at *
  unfold CV
  have hp:PN 0 (tr.getD 0 r0).2.2.1 (tr.getD 0 r0).2.2.2.1 s=s:=by
   show PN 0 1 1 s=s
   unfold PN
   split
   ·omega
   ·split<;>omega
  rw [hp]
  split
  ·omega
  ·obtain ⟨n,hn⟩:∃n:Nat,s.toNat=n+1:=⟨s.toNat-1,by omega⟩
   rw [hn,cs_one rfl rv_tr.2.2 (fun k hk=>by
    have:=mo_bd (a:=a) (f:=0) (fi:=1) (st:=1) ⟨hs.1,Int.le_trans hs.2.1 hs.2.2⟩ (by omega) (by omega) (by omega) (k:=k) (by omega)
    show 0≤MO a 0 1 1 k∧MO a 0 1 1 k≤4000000000000000000
    omega)]
   show (0:Int)+1000+(n:Int)*1000=1000*s
   omega
 rw [e]
end Rt
theorem tariff_j:dialtonelaw38_tariff ()=some (tr,0):=rfl
theorem VL1 {B:List Int} {s n l now:Int} {b:BL} (h1:0≤s∧s≤(B.length:Int)∧0≤n∧n≤1048576) (h2:0≤now∧now≤1099511627776) (h3:0≤l∧l≤1048576) (h4:BK now b) (h5:b.2.2.2.2.2.2.1=0∨(1≤b.2.2.2.2.2.2.1∧b.2.2.2.2.2.2.1≤l)):VL (B,(s,(n,([b],(l,now))))):=by
 refine ⟨h1,h2,h3,?_,fun i hi => ?_⟩
 ·have:=opn_le [b]
  simp at this
  show opn [b]≤256
  omega
 ·obtain rfl:i=0:=by have:i<1:=hi;omega
  refine ⟨h4,?_⟩
  by_cases hz:b.2.2.2.2.2.2.1=0
  ·exact .inl ⟨by show 0<opn [b];simp [opn,hz],fun h=>by omega⟩
  ·exact .inr ⟨Nat.le_trans (show opn [b]≤0 by simp [opn,hz]) (Nat.le_refl _),by
    rw [pv_lo (Nat.zero_le _)]
    show 0+1≤b.2.2.2.2.2.2.1∧b.2.2.2.2.2.2.1≤l
    omega⟩
theorem VL0:VL zG:=⟨by decide,by decide,by decide,by decide,fun i hi=>absurd hi (by simp [zG])⟩
def wA:BL:=([99],([97],([98],(1000,(0,(0,(0,(0,(0,false)))))))))
def wB:List Int:=[]++Jn.encB 0 1 (dB wA)
def w1:BL:=([99],([97],([98],(1000,(-1,(1000,(0,(0,(0,false)))))))))
def w2:BL:=([99],([97],([98],(1000,(2000,(2000,(0,(0,(0,false)))))))))
def w3:BL:=([99],([97],([98],(1000,(2000,(4500,(1,(3,(3000,false)))))))))
def wC:List Int:=wB++Jn.encB 1 2 (datL [2000] [[99]])
def wD:List Int:=wC++Jn.encB 2 4 (datL [4500,1,3,3000] [[99]])
theorem len1 (t:Int) (c:Tx):(datL [t] [c]).length=10+c.length:=by
 rw [datL_length]
 simp only [List.flatMap_cons,List.flatMap_nil,List.length_append,tB_len,List.length_cons,List.length_nil]
 omega
theorem wB_len:wB.length=31:=by
 unfold wB
 rw [List.nil_append,Jn.encB_length,dB,datL_length]
 simp [tB_len,wA]
theorem wC_len:wC.length=56:=by
 unfold wC
 rw [List.length_append,wB_len,Jn.encB_length,len1];rfl
theorem wD_len:wD.length=105:=by
 unfold wD
 rw [List.length_append,wC_len,Jn.encB_length,datL_length]
 simp [tB_len]
theorem bk1:BK 1000 w1:=⟨by decide,by decide,.inl rfl,by decide,.inl (by decide)⟩
theorem bk2:BK 2000 w2:=⟨by decide,by decide,.inr (by decide),by decide,.inl (by decide)⟩
theorem bk3:BK 4500 w3:=⟨by decide,by decide,.inr (by decide),by decide,.inr ⟨by decide,by decide,by decide,by decide⟩⟩
theorem answer_j (g:LG) (c:Tx) (t:Int) (hl:g.2.2.2.1.length≤1000000) (hB:g.1.length≤900000):billing_Answer (g,(c,t))=some (tchR g 2 c t):=by
 have h:=touch_j g 2 c t (.inl rfl) hl hB
 obtain ⟨a1,a2,a3,a4,a5,a6⟩:=g
 show bindO (billing_touch ((a1,(a2,(a3,(a4,(a5,a6))))),(2,(c,t)))) _=_
 rw [h];rfl
theorem wk_1:billing_Begin (zG,wA)=some ((wB,(0,(1,([w1],(0,1000))))),0):=by
 rw [begin_j zG wA (by decide) (by decide)]
 unfold begR
 rw [if_pos ⟨⟨VL0,by decide,by decide⟩,by decide⟩,if_neg (fun h=>absurd h.1 (by decide)),if_neg (by decide)]
 rfl
theorem fnd1 {b:BL} (h:b.2.2.2.2.2.2.1=0):Fnd b.1 [b]∧psn b.1 [b]=0:=by
 have h2:psn b.1 [b]=0:=by simp [psn,bl_irr]
 refine ⟨⟨?_,?_⟩,h2⟩
 ·rw [h2];simp [opn,h]
 ·rw [h2];rfl
theorem wk_2:billing_Answer ((wB,(0,(1,([w1],(0,1000))))),([99],2000))=some ((wC,(0,(2,([w2],(0,2000))))),0):=by
 have hv:VL (wB,(0,(1,([w1],(0,1000))))):=VL1 (by rw [wB_len];decide) (by decide) (by decide) bk1 (.inl rfl)
 rw [answer_j _ _ _ (by decide) (by show wB.length≤_;rw [wB_len];decide)]
 unfold tchR
 have hf:Fnd [99] [w1]∧psn [99] [w1]=0:=fnd1 (b:=w1) rfl
 rw [if_pos ⟨hv,by decide,by decide⟩]
 dsimp only
 rw [if_pos hf.1]
 have e0:psn ([99]:Tx) [w1]=0:=hf.2
 simp only [e0]
 rw [if_neg (fun h=>h.2 rfl),if_neg (by decide)]
 rfl
theorem wk_3:billing_Sync (wC,(0,(2,([w2],(0,2000)))))=some (wC,(56,(2,([w2],(0,2000))))):=by
 have hv:VL (wC,(0,(2,([w2],(0,2000))))):=VL1 (by rw [wC_len];decide) (by decide) (by decide) bk2 (.inl rfl)
 rw [sync_j _ (by decide) (by show wC.length≤_;rw [wC_len];decide)]
 unfold synR
 rw [if_pos hv]
 simp only [wC_len]
 rfl
theorem wk_4:billing_Next (wC,(56,(2,([w2],(0,2000)))))=some (b0,false):=by
 obtain ⟨r,h1,_,h3⟩:=next_j (wC,(56,(2,([w2],(0,2000))))) (by decide)
 rcases h3 with ⟨_,i,hi,hd,_⟩ | ⟨_,rfl⟩
 ·obtain rfl:i=0:=by have:i<1:=hi;omega
  exact (hd.1 rfl).elim
 ·exact h1
theorem co_w:coR tr 0 [98] 2000 4500=3000:=by
 unfold coR
 rw [Rt.cost_tr [98] (by decide) (by decide)]
 rfl
theorem wk_5:billing_End ((wC,(0,(2,([w2],(0,2000))))),((tr,0),([99],4500)))=some ((wD,(0,(3,([w3],(1,4500))))),0):=by
 have hv:VL (wC,(0,(2,([w2],(0,2000))))):=VL1 (by rw [wC_len];decide) (by decide) (by decide) bk2 (.inl rfl)
 rw [end_j _ _ _ _ _ (by decide) (by show wC.length≤_;rw [wC_len];decide)]
 unfold endR
 have hf:Fnd [99] [w2]∧psn [99] [w2]=0:=fnd1 (b:=w2) rfl
 rw [if_pos ⟨⟨hv,by decide,by decide⟩,Rt.tv_tr⟩]
 dsimp only
 rw [if_pos hf.1]
 have e0:psn ([99]:Tx) [w2]=0:=hf.2
 simp only [e0]
 have hse:Rt.SE 2000 4500=3:=by decide
 have hco:coR tr 0 w2.2.2.1 2000 4500=3000:=co_w
 unfold finR bsF laF dE nmF
 have eg:([w2]:List BL).getD 0 b0=w2:=rfl
 simp only [eg]
 rw [if_neg (by decide),if_pos (show w2.2.2.2.2.1 ≠ -1 by decide),if_pos (show w2.2.2.2.2.1 ≠ -1 by decide),if_pos (show w2.2.2.2.2.1 ≠ -1 by decide)]
 have ea:w2.2.2.2.2.1=2000:=rfl
 simp only [ea,hse,hco]
 rfl
theorem wk_6:billing_Next (wD,(0,(3,([w3],(1,4500)))))=some (b0,false):=by
 obtain ⟨r,h1,_,h3⟩:=next_j (wD,(0,(3,([w3],(1,4500))))) (by decide)
 rcases h3 with ⟨h,_⟩ | ⟨_,rfl⟩
 ·have h2:(0:Int)=(wD.length:Int):=h.2
  rw [wD_len] at h2
  omega
 ·exact h1
theorem wk_7:billing_Sync (wD,(0,(3,([w3],(1,4500)))))=some (wD,(105,(3,([w3],(1,4500))))):=by
 have hv:VL (wD,(0,(3,([w3],(1,4500))))):=VL1 (by rw [wD_len];decide) (by decide) (by decide) bk3 (.inr (by decide))
 rw [sync_j _ (by decide) (by show wD.length≤_;rw [wD_len];decide)]
 unfold synR
 rw [if_pos hv]
 simp only [wD_len]
 rfl
theorem wk_8:billing_Next (wD,(105,(3,([w3],(1,4500)))))=some (w3,true):=by
 have hv:VL (wD,(105,(3,([w3],(1,4500))))):=VL1 (by rw [wD_len];decide) (by decide) (by decide) bk3 (.inr (by decide))
 obtain ⟨r,h1,_,h3⟩:=next_j (wD,(105,(3,([w3],(1,4500))))) (by decide)
 rcases h3 with ⟨_,i,hi,_,_,rfl⟩ | ⟨hno,_⟩
 ·obtain rfl:i=0:=by have:i<1:=hi;omega
  exact h1
 ·exact (hno ⟨⟨hv,by show (105:Int)=(wD.length:Int);rw [wD_len];rfl⟩,0,by decide,by decide,rfl⟩).elim
theorem awake_j:dialtonelaw38_awake ()=some true:=by
 unfold dialtonelaw38_awake
 have h0:billing_New ()=some zG:=rfl
 have h1:=wk_1
 unfold zG wA at h1
 rw [h0]
 unfold zG
 simp only [↓SDl,SDr,h1,wk_2,wk_3,wk_4,tariff_j,wk_5,wk_6,wk_7,wk_8]
 rfl
end Go.Proofs.Ytkpijdndakljjaa

set_option maxRecDepth 1000000
namespace Go.Proofs.Ytkpijdndakljjaa
open Go.RowKit
instance instRa:DecidableEq Ra:=@instDecidableEqProd _ _ inferInstance (@instDecidableEqProd Int _ inferInstance (@instDecidableEqProd Int _ inferInstance (@instDecidableEqProd Int (List Pr1) inferInstance inferInstance)))
def rating_Cost_F:((List Ra×Int)×(List UInt8×(Int×Int)))→Option (Int×Int):=fun x =>
 bif decide (x.1=(tr,0)) then bif decide (0≤x.2.2.1∧x.2.2.1≤x.2.2.2∧x.2.2.2≤1099511627776) then bif decide (Rt.SE x.2.2.1 x.2.2.2≤1000000) then some (1000*Rt.SE x.2.2.1 x.2.2.2,0) else none else none else none
theorem rating_Cost_le (x:_):LeO (rating_Cost_F x) (rating_Cost x):=by
 obtain ⟨⟨t,f⟩,n,a,b⟩:=x
 intro r h
 unfold rating_Cost_F at h
 by_cases h1:((t,f):List Ra×Int)=(tr,0)
 ·by_cases h2:0≤a∧a≤b∧b≤1099511627776
  ·by_cases h3:Rt.SE a b≤1000000
   ·simp only [h1,h2,h3,decide_true,cond_true,and_self] at h
    obtain ⟨rfl,rfl⟩:=Prod.mk.inj h1
    rw [←h]
    exact Rt.cost_tr n ⟨h2.1,h2.2.1,by omega⟩ h3
   ·simp [h1,h2,h3] at h
  ·simp [h1,h2] at h
 ·simp [h1] at h
def dialtonelaw38_awake_F:PUnit→Option Bool:=fun _=>some true
theorem dialtonelaw38_awake_le (x:_):LeO (dialtonelaw38_awake_F x) (dialtonelaw38_awake x):=by
 intro r h
 have e:dialtonelaw38_awake x=some true:=awake_j
 rw [e];exact h
end Go.Proofs.Ytkpijdndakljjaa
