import Derived.Test.YtlaccfegaoaakaaC6p
set_option linter.unusedSectionVars false
set_option linter.unusedSimpArgs false
set_option linter.unusedVariables false
set_option maxRecDepth 100000
set_option maxHeartbeats 2000000
namespace Go.Proofs.Ytlaccfegaoaakaa
open Go.RowKit
structure LI (L:List Bnd) (n:Int):Prop where
 pth:∀b∈L,b.2.2.2.2.2.2.2.2.2.length≤10
 cnt:∀aor:Tx,(L.filter fun b=>decide (b.1=aor)).length≤100
 key:L.Pairwise KeyNe
 num:∀b∈L,b.2.2.2.2.1<n
theorem li0:LI [] 0:=⟨fun b h=>(by cases h),fun a=>by simp,List.Pairwise.nil,fun b h=>(by cases h)⟩
theorem upd_li {c:Cf} {L O:List Bnd} {now n:Int} {r:Rg9} (hL:LI L n) (h:UPD c L now n r=(O,0)):VC c∧FMr r∧(0≤now∧now≤1099511627776)∧LI O (n+1)∧O.length≤L.length+20:=by
 unfold UPD at h
 by_cases g:VC c∧FMr r∧0≤now∧now≤1099511627776∧0≤n
 ·obtain ⟨hv,hf,h0,h1,h2⟩:=g
  have hcs:=fm_cs hf
  rw [tf_t (show VC c∧FMr r∧0≤now∧now≤1099511627776∧0≤n from ⟨hv,hf,h0,h1,h2⟩),Bool.not_true,cond_false] at h
  by_cases g1:∃i,i<L.length∧StaleB r now (L.getD i dB)
  ·rw [tf_t g1,cond_true] at h;cases h
  rw [tf_f g1,cond_false] at h
  by_cases g2:∃i,i<(rCs r).length∧0<expy c r ((rCs r).getD i c0)∧expy c r ((rCs r).getD i c0)<c.1
  ·rw [tf_t g2,cond_true] at h;cases h
  rw [tf_f g2,cond_false] at h
  by_cases g3:c.2.2.2<(((OutB c L now n r).filter fun b=>decide (b.1=r.1)).length:Int)
  ·rw [tf_t g3,cond_true] at h;cases h
  rw [tf_f g3,cond_false] at h
  have hO:OutB c L now n r=O:=congrArg Prod.fst h
  subst hO
  have hr100:=hv.2.2.2.2.2
  refine ⟨hv,hf,⟨h0,h1⟩,⟨out_path hL.pth hcs.2.1,fun aor => ?_,?_,fun b hb => ?_⟩,?_⟩
  ·by_cases e:aor=r.1
   ·subst e;omega
   ·have hnew:(newB c now n r (rCs r)).filter (fun b=>decide (b.1=aor))=[]:=by
     rw [List.filter_eq_nil_iff]
     intro b hb
     unfold newB at hb
     obtain ⟨x,_,rfl⟩:=List.mem_map.1 hb
     have hne:¬(mkB c now n r x).1=aor:=fun h=>e h.symm
     simpa using hne
    have hkept:((keptB r now L).filter fun b=>decide (b.1=aor)).length≤(L.filter fun b=>decide (b.1=aor)).length:=by
     unfold keptB
     rw [List.filter_filter,show (fun b:Bnd=>decide (b.1=aor)&&tf (KeepB r now b))=(fun b=>tf (KeepB r now b)&&decide (b.1=aor)) by funext b;rw [Bool.and_comm],←List.filter_filter]
     exact List.length_filter_le _ _
    unfold OutB
    rw [List.filter_append,hnew,List.append_nil]
    exact Nat.le_trans hkept (hL.cnt aor)
  ·unfold OutB
   refine List.pairwise_append.2 ⟨hL.key.sublist List.filter_sublist,?_,fun a ha b hb => ?_⟩
   ·unfold newB
    rw [List.pairwise_map]
    refine List.Pairwise.filter _ (List.pairwise_iff_getElem.2 fun i j hi hj hij e ⟨_,h2⟩ => ?_)
    have:=(hcs.2.2.2 j hj).2 i hij
    rw [getD_get _ hi,getD_get _ hj] at this
    exact this h2
   ·unfold keptB at ha
    unfold newB at hb
    obtain ⟨x,_,rfl⟩:=List.mem_map.1 hb
    have:=hL.num a (List.mem_filter.1 ha).1
    rintro _ ⟨k,_⟩
    have k:a.2.2.2.2.1=n:=k
    omega
  ·unfold OutB at hb
   rcases List.mem_append.1 hb with g | g
   ·have:=hL.num b (List.mem_filter.1 g).1;omega
   ·unfold newB at g
    obtain ⟨x,_,rfl⟩:=List.mem_map.1 g
    show n<n+1
    omega
  ·have:=out_len c L now n r
   omega
 ·rw [tf_f g,Bool.not_false,cond_true] at h
  cases h
theorem appP_j {B:List Int} {s n:Int} {E:List Int} (hb:B.length≤900000) (hs:0≤s∧s≤(B.length:Int)) (hn:0≤n∧n<1048576) (hE:Bytes E) (lE:E.length≤4096):journal_Append ((B,(s,n)),(1,E))=some ((B++Jn.encB n 1 E,(s,n+1)),0) :=
 Jn.append_j B s n 1 E hb hs hn ⟨⟨by omega,by omega⟩,hE,lE⟩
theorem syncP_j {B:List Int} {s n:Int} (hb:B.length≤900000) (hs:0≤s∧s≤(B.length:Int)) (hn:0≤n∧n<1048576):journal_Sync (B,(s,n))=some (B,((B.length:Int),n)):=Jn.sync_j B s n hb hs (by omega)
def encA (now:Int) (r:Rg9):List Int:=ENC now r.1 r.2.1 r.2.2.1 r.2.2.2.1 r.2.2.2.2.1 r.2.2.2.2.2.1 r.2.2.2.2.2.2.1 r.2.2.2.2.2.2.2.1 r.2.2.2.2.2.2.2.2
abbrev EOKr (now:Int) (r:Rg9):Prop:=EOK now r.1 r.2.1 r.2.2.1 r.2.2.2.1 r.2.2.2.2.1 r.2.2.2.2.2.1 r.2.2.2.2.2.2.1 r.2.2.2.2.2.2.2.1 r.2.2.2.2.2.2.2.2
theorem enc_both (now:Int) (r:Rg9):∃E e,registrar_EncodeAct (now,r)=some (E,e)∧encR (now,r)=some (E,e)∧(e=0→EOKr now r∧E=encA now r∧E.length≤4096):=by
 obtain ⟨E,e,h1,h2,h3,_⟩:=enc_ends now r.1 r.2.1 r.2.2.1 r.2.2.2.1 r.2.2.2.2.1 r.2.2.2.2.2.1 r.2.2.2.2.2.2.1 r.2.2.2.2.2.2.2.1 r.2.2.2.2.2.2.2.2
 exact ⟨E,e,h1,h2,h3⟩
theorem encA_by {now:Int} {r:Rg9} (h:EOKr now r):Bytes (encA now r):=by
 have hk:=act_ok h
 obtain ⟨⟨_,_,u3⟩,⟨u6,u5,u9⟩,_⟩:=h.1
 have he:=enc_raw (now:=now) (a1:=r.1) (a2:=r.2.1) (a3:=r.2.2.1) (a4:=r.2.2.2.1) (a5:=r.2.2.2.2.1) (a6:=r.2.2.2.2.2.1) (a7:=r.2.2.2.2.2.2.1) (a8:=r.2.2.2.2.2.2.2.1) (a9:=r.2.2.2.2.2.2.2.2) (by omega) (by omega)
 have hb:=raw_by hk rfl
 unfold encA
 rw [he]
 exact hb
structure BI (B:List Int) (s n:Int) (k:Nat):Prop where
 bl:B.length≤5000*k
 sy:0≤s∧s≤(B.length:Int)
 nn:0≤n∧n≤(k:Int)
def Wr (r:Rg9):Prop:=r.2.2.2.1=true∨(rCs r).length≠0
end Go.Proofs.Ytlaccfegaoaakaa
