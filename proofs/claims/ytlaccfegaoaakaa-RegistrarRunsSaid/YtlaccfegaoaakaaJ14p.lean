import Derived.Test.YtlaccfegaoaakaaJ4p
import Derived.Test.YtlaccfegaoaakaaZ2p
import Derived.Test.YtlaccfegaoaakaaB4p
import Derived.Test.YtlaccfegaoaakaaXBp
set_option linter.unusedSimpArgs false
set_option linter.unusedVariables false
set_option maxRecDepth 100000
set_option maxHeartbeats 4000000
namespace Go.Proofs.Ytlaccfegaoaakaa
open Go.RowKit
noncomputable def ecB {γ:Type} (a6:List Ct):(Int×List Int)→Option ((Int×List Int) ⊕ (List Int ⊕ γ)) :=
(fun (v110,v111) =>
 bif (decide (v110<(((List.length a6):Nat):Int))) then
 bif (decide (((0:Int)≤v110)∧(v110<(((List.length a6):Nat):Int)))) then
 bindO a6[(Int.toNat v110)]? fun x112 =>
 joinO (bif (decide ((List.length v111)≤(List.length v111))) then
 loopO (nmB (Go.IntKind.wrap .u64 (((List.length x112.1):Nat):Int))) ((1:Int),(List.take (List.length v111) v111))
 else none) fun v121 =>
 bif (decide ((List.length v121)≤(List.length v121))) then
 bif (decide (((List.length ((List.take (List.length v121) v121)++(List.map (fun (x122:UInt8)=>(((UInt8.toNat x122):Nat):Int)) x112.1)))*1)≤140737488355328)) then
 bindO (some ((List.take (List.length v121) v121)++(List.map (fun (x124:UInt8)=>(((UInt8.toNat x124):Nat):Int)) x112.1))) fun x123 =>
 joinO (bif (decide ((List.length x123)≤(List.length x123))) then
 loopO (nmB (Go.IntKind.wrap .u64 x112.2.1)) ((1:Int),(List.take (List.length x123) x123))
 else none) fun v133 =>
 joinO (bif (decide ((List.length v133)≤(List.length v133))) then
 loopO (nmB (Go.IntKind.wrap .u64 x112.2.2)) ((3:Int),(List.take (List.length v133) v133))
 else none) fun v142 =>
 bif (decide ((List.length v142)≤(List.length v142))) then
 some (Sum.inl ((Go.IntKind.wrap .i64 (v110+(1:Int))),(List.take (List.length v142) v142)))
 else none
 else none
 else none
 else none
 else
 outO (bif (decide ((List.length v111)≤(List.length v111))) then
 some (Sum.inl (List.take (List.length v111) v111))
 else none))
noncomputable def epB {γ:Type} (a10:List Tx):(Int×List Int)→Option ((Int×List Int) ⊕ (List Int ⊕ γ)) :=
(fun (v154,v155) =>
 bif (decide (v154<(((List.length a10):Nat):Int))) then
 bif (decide (((0:Int)≤v154)∧(v154<(((List.length a10):Nat):Int)))) then
 bindO a10[(Int.toNat v154)]? fun x156 =>
 joinO (bif (decide ((List.length v155)≤(List.length v155))) then
 loopO (nmB (Go.IntKind.wrap .u64 (((List.length x156):Nat):Int))) ((1:Int),(List.take (List.length v155) v155))
 else none) fun v165 =>
 bif (decide ((List.length v165)≤(List.length v165))) then
 bif (decide (((List.length ((List.take (List.length v165) v165)++(List.map (fun (x166:UInt8)=>(((UInt8.toNat x166):Nat):Int)) x156)))*1)≤140737488355328)) then
 bindO (some ((List.take (List.length v165) v165)++(List.map (fun (x168:UInt8)=>(((UInt8.toNat x168):Nat):Int)) x156))) fun x167 =>
 bif (decide ((List.length x167)≤(List.length x167))) then
 some (Sum.inl ((Go.IntKind.wrap .i64 (v154+(1:Int))),(List.take (List.length x167) x167)))
 else none
 else none
 else none
 else none
 else
 outO (bif (decide ((List.length v155)≤(List.length v155))) then
 some (Sum.inl (List.take (List.length v155) v155))
 else none))
theorem encP_eq (a1:Int) (a2 a3:Tx) (a4:Int) (a5:Bool) (a6:List Ct) (a7:Int) (a8:Tx) (a9:Int) (a10:List Tx):registrar_EncodeAct (a1,(a2,(a3,(a4,(a5,(a6,(a7,(a8,(a9,a10))))))))) =
 joinO (bindO (registrar_Formed (a2,(a3,(a4,(a5,(a6,(a7,(a8,(a9,a10))))))))) fun x11 =>
  bif (!x11) then
   outO (some (([]:List Int),(2:Int)))
  else
   bif (decide (a1<(0:Int))) then
    outO (some (([]:List Int),(2:Int)))
   else
    bif (decide (a1 > (1099511627776:Int))) then
     outO (some (([]:List Int),(2:Int)))
    else
     some (Sum.inl ())) fun _ =>
 joinO (loopO (nmB (Go.IntKind.wrap .u64 a1)) ((7:Int),([]:List Int))) fun v20 =>
 joinO (bif (decide ((List.length v20)≤(List.length v20))) then
  loopO (nmB (Go.IntKind.wrap .u64 (((List.length a2):Nat):Int))) ((1:Int),(List.take (List.length v20) v20))
  else none) fun v29 =>
 bif (decide ((List.length v29)≤(List.length v29))) then
  bif (decide (((List.length ((List.take (List.length v29) v29)++(List.map (fun (x30:UInt8)=>(((UInt8.toNat x30):Nat):Int)) a2)))*1)≤140737488355328)) then
   bindO (some ((List.take (List.length v29) v29)++(List.map (fun (x32:UInt8)=>(((UInt8.toNat x32):Nat):Int)) a2))) fun x31 =>
   joinO (bif (decide ((List.length x31)≤(List.length x31))) then
    loopO (nmB (Go.IntKind.wrap .u64 (((List.length a3):Nat):Int))) ((1:Int),(List.take (List.length x31) x31))
    else none) fun v41 =>
   bif (decide ((List.length v41)≤(List.length v41))) then
    bif (decide (((List.length ((List.take (List.length v41) v41)++(List.map (fun (x42:UInt8)=>(((UInt8.toNat x42):Nat):Int)) a3)))*1)≤140737488355328)) then
     bindO (some ((List.take (List.length v41) v41)++(List.map (fun (x44:UInt8)=>(((UInt8.toNat x44):Nat):Int)) a3))) fun x43 =>
     joinO (bif (decide ((List.length x43)≤(List.length x43))) then
      loopO (nmB (Go.IntKind.wrap .u64 a4)) ((3:Int),(List.take (List.length x43) x43))
      else none) fun v53 =>
     joinO (bif a5 then
      joinO (bif (decide ((List.length v53)≤(List.length v53))) then
       loopO (nmB (1:Int)) ((0:Int),(List.take (List.length v53) v53))
       else none) fun v61 =>
      bif (decide ((List.length v61)≤(List.length v61))) then
       some (Sum.inl (List.take (List.length v61) v61))
      else none
      else
       joinO (bif (decide ((List.length v53)≤(List.length v53))) then
        loopO (nmB (0:Int)) ((0:Int),(List.take (List.length v53) v53))
        else none) fun v69 =>
       bif (decide ((List.length v69)≤(List.length v69))) then
        some (Sum.inl (List.take (List.length v69) v69))
       else none) fun v70 =>
     joinO (bif (decide ((List.length v70)≤(List.length v70))) then
      loopO (nmB (Go.IntKind.wrap .u64 a7)) ((3:Int),(List.take (List.length v70) v70))
      else none) fun v79 =>
     joinO (bif (decide ((List.length v79)≤(List.length v79))) then
      loopO (nmB (Go.IntKind.wrap .u64 (((List.length a8):Nat):Int))) ((1:Int),(List.take (List.length v79) v79))
      else none) fun v88 =>
     bif (decide ((List.length v88)≤(List.length v88))) then
      bif (decide (((List.length ((List.take (List.length v88) v88)++(List.map (fun (x89:UInt8)=>(((UInt8.toNat x89):Nat):Int)) a8)))*1)≤140737488355328)) then
       bindO (some ((List.take (List.length v88) v88)++(List.map (fun (x91:UInt8)=>(((UInt8.toNat x91):Nat):Int)) a8))) fun x90 =>
       joinO (bif (decide ((List.length x90)≤(List.length x90))) then
        loopO (nmB (Go.IntKind.wrap .u64 a9)) ((3:Int),(List.take (List.length x90) x90))
        else none) fun v100 =>
       joinO (bif (decide ((List.length v100)≤(List.length v100))) then
        loopO (nmB (Go.IntKind.wrap .u64 (((List.length a6):Nat):Int))) ((0:Int),(List.take (List.length v100) v100))
        else none) fun v109 =>
       joinO (bif (decide ((List.length v109)≤(List.length v109))) then
        loopO (ecB a6) ((0:Int),(List.take (List.length v109) v109))
        else none) fun v144 =>
       joinO (bif (decide ((List.length v144)≤(List.length v144))) then
        loopO (nmB (Go.IntKind.wrap .u64 (((List.length a10):Nat):Int))) ((0:Int),(List.take (List.length v144) v144))
        else none) fun v153 =>
       joinO (bif (decide ((List.length v153)≤(List.length v153))) then
        loopO (epB a10) ((0:Int),(List.take (List.length v153) v153))
        else none) fun v170 =>
       bif (decide ((((List.length v170):Nat):Int) > (4096:Int))) then
        some (([]:List Int),(4:Int))
       else
        bif (decide ((List.length v170)≤(List.length v170))) then
         some ((List.take (List.length v170) v170),(0:Int))
        else none
      else none
     else none
    else none
   else none
  else none
 else none:=rfl
section
variable {β γ:Type} {u:Int} (b:List Int) (f:List Int→Option γ) (hu:0≤u) (hb:b.length≤1000000)
include hu hb
theorem n8_b:joinO (loopO (nmB u) (7,b)) f=f (b++be u 8):=by rw [nm_j (v:=7) b hu (k:=8) rfl (by omega) hb];rfl
theorem n4_b:joinO (loopO (nmB u) (3,b)) f=f (b++be u 4):=by rw [nm_j (v:=3) b hu (k:=4) rfl (by omega) hb];rfl
theorem n2_b:joinO (loopO (nmB u) (1,b)) f=f (b++be u 2):=by rw [nm_j (v:=1) b hu (k:=2) rfl (by omega) hb];rfl
theorem n1_b:joinO (loopO (nmB u) (0,b)) f=f (b++be u 1):=by rw [nm_j (v:=0) b hu (k:=1) rfl (by omega) hb];rfl
end
theorem wu64 (n:Int):0≤IntKind.wrap .u64 n:=by rw [wr_u64];omega
theorem be_mod (u v:Int) (k:Nat) (h:u % 256 ^ k=v % 256 ^ k):be u k=be v k:=by
 refine List.ext_getElem (by rw [be_len,be_len]) fun n h1 h2 => ?_
 rw [be_len] at h1
 have e1:=be_get u k n h1
 have e2:=be_get v k n h1
 rw [getD_get 0 (by rw [be_len];exact h1)] at e1 e2
 rw [e1,e2]
 have key:∀w:Int,w / 256 ^ (k-1-n) % 256=(w % 256 ^ k) / 256 ^ (k-1-n) % 256:=fun w=>by
  obtain ⟨m,hm⟩:∃m,k=(k-1-n)+(1+m):=⟨n,by omega⟩
  have hp:(0:Int)<256 ^ (k-1-n):=Int.pow_pos (by decide)
  generalize k-1-n=q at *
  rw [hm,Int.pow_add,Int.pow_add,Int.pow_one]
  have hd:=Int.emod_emod_of_dvd (w / 256 ^ q) (show (256:Int) ∣ 256*256 ^ m from ⟨256 ^ m,rfl⟩)
  rw [←hd]
  congr 1
  rw [Int.emod_def w,Int.sub_ediv_of_dvd _ ⟨256*256 ^ m*(w / (256 ^ q*(256*256 ^ m))),by rw [Int.mul_assoc]⟩,Int.mul_assoc,Int.mul_ediv_cancel_left _ (by omega),Int.emod_def,Int.ediv_ediv_of_nonneg (by omega)]
 rw [key u,key v,h]
theorem be_wu {a:Int} (h:NO a):be (IntKind.wrap .u64 a) 4=be (u4 a) 4:=by
 apply be_mod
 rw [wr_u64]
 unfold u4
 have:(256:Int) ^ 4=4294967296:=by decide
 rw [this]
 split<;>omega
theorem be_nn {a:Int} (k:Nat) (h:0≤a∧a≤4294967296000):be (IntKind.wrap .u64 a) k=be a k:=by
 rw [wr_u64,Int.emod_eq_of_lt h.1 (by omega)]
theorem be_1 {a:Int} (h:0≤a∧a≤255):be a 1=[a]:=by
 show []++[a % 256]=[a]
 rw [Int.emod_eq_of_lt h.1 (by omega)];rfl
theorem et_len (s:Tx):(et s).length=s.length+2:=by unfold et;rw [List.length_append,be_len,tb_len];omega
theorem ec_len (x:Ct):(ec x).length=x.1.length+8:=by unfold ec;rw [List.length_append,List.length_append,be_len,be_len,et_len]
theorem flat_len {α:Type} (g:α→List Int) (l:List α) (n:Nat) (h:∀x∈l,(g x).length≤n):(l.flatMap g).length≤n*l.length:=by
 induction l with
 | nil=>simp
 | cons x l ih =>
   have h1:=h x List.mem_cons_self
   have h2:=ih fun y hy=>h y (List.mem_cons_of_mem _ hy)
   rw [List.flatMap_cons,List.length_append,List.length_cons,Nat.mul_succ]
   omega
theorem map_tb (s:Tx):List.map (fun (x:UInt8)=>(((UInt8.toNat x):Nat):Int)) s=tb s:=rfl
theorem nots (n:Nat):((n:Int)+1)=((n+1:Nat):Int):=rfl
theorem ecB_j {γ:Type} (l:List Ct) (b:List Int) (hl:l.length≤20) (hc:∀i,i<l.length→CW (l.getD i c0)) (hb:b.length≤100000):loopO (ecB (γ:=γ) l) (0,b)=some (.inl (b++l.flatMap ec)):=by
 refine loopO_from (fun i=>((i:Int),b++(l.take i).flatMap ec)) l.length (by simp) (fun i hi => ?_) ?_
 ·obtain ⟨x,hx,hxb⟩:=get_at c0 hi
  have hcw:=hc i hi
  have ht:=take_snoc l c0 hi
  rw [hx] at hcw ht
  obtain ⟨h1,h2,h3⟩:=hcw
  have hF:((l.take i).flatMap ec).length≤1010*20:=by
   refine Nat.le_trans (flat_len ec _ 1010 fun y hy => ?_) (Nat.mul_le_mul_left _ (by rw [List.length_take];omega))
   obtain ⟨q,hq,rfl⟩:=List.getElem_of_mem hy
   rw [ec_len]
   have hq':q<i∧q<l.length:=by rw [List.length_take] at hq;omega
   have:=(hc q hq'.2).1.2
   rw [getD_get c0 hq'.2] at this
   rw [List.getElem_take]
   omega
  have hfl:(l.take (i+1)).flatMap ec=(l.take i).flatMap ec++ec x:=by rw [ht,List.flatMap_append];simp
  rw [hfl]
  generalize (l.take i).flatMap ec=F at hF ⊢
  have w1:=wu64 (x.1.length:Int)
  have w2:=wu64 x.2.1
  have w3:=wu64 x.2.2
  have hu:x.1.length≤1000:=by have:=h1.2;omega
  unfold ecB
  simp (disch:=(first | omega | (simp only [List.length_append,List.length_cons,List.length_nil,List.length_map,be_len];omega))) only [↓SDl,SDr,if_pos,if_neg,↓hxb,↓n2_b,↓n4_b,wrap_i64',nots]
  unfold ec et
  rw [be_nn 2 (by omega),be_nn 2 (by omega),be_wu h3]
  simp only [List.append_assoc,map_tb]
 ·unfold ecB
  simp (disch:=(first | omega | (simp only [LNl];omega))) only [↓SDl,SDr,if_neg,List.take_length]
theorem epB_j {γ:Type} (l:List Tx) (b:List Int) (hl:l.length≤20) (hc:∀i,i<l.length→POK l i) (hb:b.length≤100000):loopO (epB (γ:=γ) l) (0,b)=some (.inl (b++l.flatMap et)):=by
 refine loopO_from (fun i=>((i:Int),b++(l.take i).flatMap et)) l.length (by simp) (fun i hi => ?_) ?_
 ·obtain ⟨x,hx,hxb⟩:=get_at ([]:Tx) hi
  have hcw:Ln (l.getD i []).length 1000:=hc i hi
  have ht:=take_snoc l [] hi
  rw [hx] at hcw ht
  have hF:((l.take i).flatMap et).length≤1010*20:=by
   refine Nat.le_trans (flat_len et _ 1010 fun y hy => ?_) (Nat.mul_le_mul_left _ (by rw [List.length_take];omega))
   obtain ⟨q,hq,rfl⟩:=List.getElem_of_mem hy
   rw [et_len]
   have hq':q<i∧q<l.length:=by rw [List.length_take] at hq;omega
   have:Ln (l.getD q []).length 1000:=hc q hq'.2
   rw [getD_get [] hq'.2] at this
   rw [List.getElem_take]
   omega
  have hfl:(l.take (i+1)).flatMap et=(l.take i).flatMap et++et x:=by rw [ht,List.flatMap_append];simp
  rw [hfl]
  generalize (l.take i).flatMap et=F at hF ⊢
  have w1:=wu64 (x.length:Int)
  have hu:x.length≤1000:=by have:=hcw.2;omega
  unfold epB
  simp (disch:=(first | omega | (simp only [List.length_append,List.length_cons,List.length_nil,List.length_map,be_len];omega))) only [↓SDl,SDr,if_pos,if_neg,↓hxb,↓n2_b,wrap_i64',nots]
  unfold et
  rw [be_nn 2 (by omega)]
  simp only [List.append_assoc,map_tb]
 ·unfold epB
  simp (disch:=(first | omega | (simp only [LNl];omega))) only [↓SDl,SDr,if_neg,List.take_length]
abbrev EOK (now:Int) (a1 a2:Tx) (a3:Int) (a4:Bool) (a5:List Ct) (a6:Int) (a7:Tx) (a8:Int) (a9:List Tx):Prop:=FM a1 a2 a3 a4 a5 a6 a7 a8 a9∧0≤now∧now≤1099511627776
theorem ecB_b {γ:Type} (l:List Ct) (b:List Int) (f:List Int→Option γ) (hl:l.length≤20) (hc:∀i,i<l.length→CW (l.getD i c0)) (hb:b.length≤100000):joinO (loopO (ecB l) (0,b)) f=f (b++l.flatMap ec):=by rw [ecB_j l b hl hc hb];rfl
theorem epB_b {γ:Type} (l:List Tx) (b:List Int) (f:List Int→Option γ) (hl:l.length≤20) (hc:∀i,i<l.length→POK l i) (hb:b.length≤100000):joinO (loopO (epB l) (0,b)) f=f (b++l.flatMap et):=by rw [epB_j l b hl hc hb];rfl
theorem flat_ec {l:List Ct} (hl:l.length≤20) (hc:∀i,i<l.length→CW (l.getD i c0)):(l.flatMap ec).length≤20200:=by
 refine Nat.le_trans (flat_len ec _ 1010 fun y hy => ?_) (by omega)
 obtain ⟨q,hq,rfl⟩:=List.getElem_of_mem hy
 have:=(hc q hq).1.2
 rw [getD_get c0 hq] at this
 rw [ec_len]
 omega
theorem flat_et {l:List Tx} (hl:l.length≤20) (hc:∀i,i<l.length→POK l i):(l.flatMap et).length≤20200:=by
 refine Nat.le_trans (flat_len et _ 1010 fun y hy => ?_) (by omega)
 obtain ⟨q,hq,rfl⟩:=List.getElem_of_mem hy
 have:Ln (l.getD q []).length 1000:=hc q hq
 rw [getD_get [] hq] at this
 rw [et_len]
 omega
open Classical in
theorem formP_b {β:Type} (a1 a2:Tx) (a3:Int) (a4:Bool) (a5:List Ct) (a6:Int) (a7:Tx) (a8:Int) (a9:List Tx) (k:Bool→Option β):bindO (registrar_Formed (a1,(a2,(a3,(a4,(a5,(a6,(a7,(a8,a9))))))))) k=k (decide (FM a1 a2 a3 a4 a5 a6 a7 a8 a9)):=by
 rcases formedP_j a1 a2 a3 a4 a5 a6 a7 a8 a9 with ⟨h,e⟩ | ⟨h,e⟩
 ·rw [e,decide_eq_true h];rfl
 ·rw [e,decide_eq_false h];rfl
theorem encP_j {now:Int} {a1 a2:Tx} {a3:Int} {a4:Bool} {a5:List Ct} {a6:Int} {a7:Tx} {a8:Int} {a9:List Tx} (h:EOK now a1 a2 a3 a4 a5 a6 a7 a8 a9) :
 registrar_EncodeAct (now,(a1,(a2,(a3,(a4,(a5,(a6,(a7,(a8,a9)))))))))=some (if ((ENC now a1 a2 a3 a4 a5 a6 a7 a8 a9).length:Int) > 4096 then ([],4) else (ENC now a1 a2 a3 a4 a5 a6 a7 a8 a9,0)):=by
 rw [encP_eq]
 obtain ⟨hF,n0,n1⟩:=h
 obtain ⟨⟨f1,f2,f3⟩,⟨f4,f5,f6⟩,f7,f8,f9,f10,f11,f12⟩:=id hF
 have hn0:¬now<0:=by omega
 have hn1:¬now > 1099511627776:=by omega
 have l1:a1.length≤255:=by have:=f1.2;omega
 have l2:a2.length≤255:=by have:=f2.2;omega
 have w0:=wu64 now
 have w1:=wu64 (a1.length:Int)
 have w2:=wu64 (a2.length:Int)
 have w3:=wu64 a3
 have w6:=wu64 a6
 have w7:=wu64 (a7.length:Int)
 have w8:=wu64 a8
 have w5:=wu64 (a5.length:Int)
 have w9:=wu64 (a9.length:Int)
 have g5:=flat_ec f5 (fun i hi=>(f11 i hi).1)
 have g9:=flat_et (l:=a9) (by omega) f12
 have hec:∀i,i<a5.length→CW (a5.getD i c0):=fun i hi=>(f11 i hi).1
 have e0:=be_nn (a:=now) 8 (by omega)
 have e1:=be_nn (a:=(a1.length:Int)) 2 (by omega)
 have e2:=be_nn (a:=(a2.length:Int)) 2 (by omega)
 have e3:=be_nn (a:=a3) 4 (by omega)
 have e6:=be_wu f4
 have e7:=be_nn (a:=(a7.length:Int)) 2 (by omega)
 have e8:=be_nn (a:=a8) 4 (by omega)
 have e5:be (IntKind.wrap .u64 (a5.length:Int)) 1=[(a5.length:Int)]:=by rw [be_nn 1 (by omega),be_1 (by omega)]
 have e9:be (IntKind.wrap .u64 (a9.length:Int)) 1=[(a9.length:Int)]:=by rw [be_nn 1 (by omega),be_1 (by omega)]
 have key:∀(X Y:List Int),X=Y→(if ((X.length:Nat):Int) > 4096 then some (([]:List Int),(4:Int)) else some (X,0))=some (if ((Y.length:Nat):Int) > 4096 then ([],4) else (Y,0)):=fun X Y e=>by
  subst e
  split<;>rfl
 cases a4 with
 | true =>
   simp (disch:=(first | assumption | omega | (simp only [List.length_append,List.length_cons,List.length_nil,List.length_map,be_len];omega))) only [↓SDl,SDr,↓formP_b,hF,hn0,hn1,decide_true,decide_false,if_pos,if_neg,↓n8_b,↓n4_b,↓n2_b,↓n1_b,↓ecB_b,↓epB_b]
   refine key _ _ ?_
   rw [e0,e1,e2,e3,e5,e6,e7,e8,e9,be_1 (by omega)]
   unfold ENC et
   simp only [List.append_assoc,map_tb,List.nil_append,if_true]
 | false =>
   simp (disch:=(first | assumption | omega | (simp only [List.length_append,List.length_cons,List.length_nil,List.length_map,be_len];omega))) only [↓SDl,SDr,↓formP_b,hF,hn0,hn1,decide_true,decide_false,if_pos,if_neg,↓n8_b,↓n4_b,↓n2_b,↓n1_b,↓ecB_b,↓epB_b]
   refine key _ _ ?_
   rw [e0,e1,e2,e3,e5,e6,e7,e8,e9,be_1 (by omega)]
   unfold ENC et
   simp only [List.append_assoc,map_tb,List.nil_append,Bool.false_eq_true,if_false]
theorem encP_no {now:Int} {a1 a2:Tx} {a3:Int} {a4:Bool} {a5:List Ct} {a6:Int} {a7:Tx} {a8:Int} {a9:List Tx} (h:¬EOK now a1 a2 a3 a4 a5 a6 a7 a8 a9) :
 registrar_EncodeAct (now,(a1,(a2,(a3,(a4,(a5,(a6,(a7,(a8,a9)))))))))=some ([],2):=by
 rw [encP_eq]
 by_cases hF:FM a1 a2 a3 a4 a5 a6 a7 a8 a9
 ·by_cases h0:now<0
  ·simp only [↓SDl,SDr,↓formP_b,hF,h0,decide_true]
  ·have h1:now > 1099511627776:=by
    by_cases g:now > 1099511627776
    ·exact g
    ·exact (h ⟨hF,by omega,by omega⟩).elim
   simp only [↓SDl,SDr,↓formP_b,hF,h0,h1,decide_true,decide_false]
 ·simp only [↓SDl,SDr,↓formP_b,hF,decide_false]
end Go.Proofs.Ytlaccfegaoaakaa

set_option maxRecDepth 1000000
set_option maxHeartbeats 0
namespace Go.Proofs.Ytlaccfegaoaakaa
open Go.RowKit
def plan23_encR:List (Nat×PL):=[(68853956625,(.carry [.tmp 0 false [(.own 10000002 5 uI8)]])),(18049651605504513,(.carry [.tmp 0 false [dI]])),(4731607904491931959314,(.carry [.tmp 0 false [(.own 10000004 5 uI8)]])),(4731607870473375056385,(.carry [.tmp 0 false [dI],.tmp 5 false [(.own 10000001 5 uI8)]])),(1240362622515133011542409729,(.carry [.tmp 0 false [dI]])),(635065658161854684559732639750,.unroll),(325153619316607028177773455999489,(.carry [.tmp 0 false [dI],.tmp 5 false [(.own 10000003 5 uI8)]])),(43641380035651907990852733362959248787462,.unroll),(2422583247133750281371666,(.carry [.tmp 0 false [(.own 10000006 5 uI8)]])),(635065662736629833759894012417,(.carry [.tmp 0 false [dI]])),(166478653092431091141153655991042561,(.carry [.tmp 0 false [dI],.tmp 5 false [(.own 10000005 5 uI8)]])),(22344386578566275049526571006011320754767878,.unroll),(9241421688590303251,(.carry [.tmp 0 false [(.own 10000008 5 uI8)]])),(2422583247133816455430657,(.carry [.tmp 0 false [dI]])),(635065662736647180892414149121,(.carry [.tmp 0 false [dI],.tmp 5 false [(.own 10000007 5 uI8)]])),(85237070383327046956984839529939863558,.unroll),(9241421688590303745,(.carry [.tmp 6 false [(.own 10000009 5 uI8)],.dead 44])),(2422583247133816584929299,(.carry [.tmp 0 false [(.own 10000011 5 uI8)]])),(635065662736647214839706157569,(.carry [.tmp 0 false [dI]])),(166478653092435647486939930969768449,(.carry [.tmp 0 false [dI],.tmp 5 false [(.own 10000010 5 uI8)]])),(22344386578566886591905987207239157776910342,.unroll),(166478653092435647486973812087717906,(.carry [.tmp 0 false [(.own 10000013 5 uI8)]])),(43641380036263450374825262995922722750977,(.carry [.tmp 0 false [dI]])),(11440325928226245935058193742803166232832115201,(.carry [.tmp 0 false [dI],.tmp 5 false [(.own 10000012 5 uI8)]])),(1535494553666017799372746311942857322977045507578529798,.unroll),(635065662736647214839835656211,(.carry [.tmp 0 false [(.own 10000015 5 uI8)]])),(166478653092435647486973878261776897,(.carry [.tmp 0 false [dI]])),(43641380036263450374825280343055242887681,(.carry [.tmp 0 false [dI],.tmp 5 false [(.own 10000014 5 uI8)]])),(5857446875251837918749797524607935278872569055238,.unroll),(325153619321163373997995856232961,(.carry [.tmp 6 false [(.own 10000027 5 uI8)],.dead 77])),(43641380036263450374825280377002530179078,(.carry [.tmp 7 false [dI],.tmp 6 false [(.own 10000025 5 uI8)],.dead 77])),(85237070383327051513330625736333328897,(.carry [.tmp 6 false [(.own 10000021 5 uI8)],.dead 85])),(206090590349426979839369917189178294398992894888625753888653330,(.carry [.tmp 0 false [(.own 10000017 5 uI8)]])),(11440325928226245935058198299148986455098132486,(.carry [.tmp 8 false [dI],.tmp 6 false [(.own 10000019 5 uI8)],.dead 85])),(54025411716560186203011787571639954806929593437683909627387138540033,(.carry [.tmp 0 false [dI]])),(105518382258906613677757397600859611245874185416751138087352139794,(.carry [.tmp 0 false [(.own 10000020 5 uI8)]])),(14162437529025953452002322041179984312907751342128210805361774045438411265,(.carry [.tmp 0 false [dI],.tmp 5 false [(.own 10000016 5 uI8)]])),(27661010798878815335942035236679741930438442461888810342770839334158849,(.carry [.tmp 0 false [dI]])),(1900850188087797525361508715091499933554119458729399139000707530428112323783952390,.unroll),(7251168014861288167425188885084174268612855060729380298495318906413737312769,(.carry [.tmp 0 false [dI],.tmp 5 false [(.own 10000018 5 uI8)]])),(786173211477001113278846424824441125484439448885443952663,(.carry [.tmp 0 false [(.own 10000023 5 uI8)]])),(973235296300952332985092462126850959089279117844399446512003522254296450108546615302,.unroll),(206090590349426979839369917189178294398992894888625819526889985,(.carry [.tmp 0 false [dI]])),(54025411716560186203011787571639954806929593437683926834057048228353,(.carry [.tmp 0 false [dI],.tmp 5 false [(.own 10000022 5 uI8)]])),(7251168014861288167425188885084151968208768687169646241785370035595830888454,.unroll),(786173211477001113278846424824441125484439448885443953175,(.carry [.tmp 0 false [(.own 10000026 5 uI8)]])),(206090590349426979839369917189178294398992894888625819661107713,(.carry [.tmp 0 false [dI]])),(54025411716560186203011787571639954806929593437683926869241420317185,(.carry [.tmp 0 false [dI],.tmp 5 false [(.own 10000024 5 uI8)]])),(7251168014861288167425188885084151968208768687169646246507736518465476102150,.unroll)]
noncomputable def encR:(Int×(LU×(LU×(Int×(Bool×((List (LU×(Int×Int)))×(Int×(LU×(Int×(List LU))))))))))→Option (LN×Int):=fun (a1,(a2,(a3,(a4,(a5,(a6,(a7,(a8,(a9,a10))))))))) =>
 bindO (dialtoneref22_Formed (a2,(a3,(a4,(a5,(a6,(a7,(a8,(a9,a10))))))))) fun x11 =>
 bif (!x11) then
 some (([]:List Int),(2:Int))
 else
 bindO (dialtoneref22_within (a1,(z0,(1099511627776:Int)))) fun x12 =>
 bif (!x12) then
 some (([]:List Int),(2:Int))
 else
 joinO (joinO (bif (decide (a1<z0)) then
 some (Sum.inl (wI (a1+(4294967296:Int))))
 else
 some (Sum.inl a1)) fun v14 =>
 joinO (bindO (some (wI (Int.tdiv v14 (256:Int)))) fun x17 =>
 bindO (some ((Go.IntKind.wrap .u8 (Int.tmod x17 (256:Int)))::((Go.IntKind.wrap .u8 (Int.tmod v14 (256:Int)))::([]:List Int)))) fun x20 =>
 bindO (some (wI (Int.tdiv x17 (256:Int)))) fun x21 =>
 bindO (some (Int.tmod x21 (256:Int))) fun x22 =>
 bif ((lE x20)&&(decide ((1=0)∨((List.length (tA x20))≠0)))) then
 bif (rO (((Go.IntKind.wrap .u8 x22)::([]:List Int))++(tA x20)) 1) then
 bindO (some (((Go.IntKind.wrap .u8 x22)::([]:List Int))++(tA x20))) fun x24 =>
 bindO (some (wI (Int.tdiv x21 (256:Int)))) fun x25 =>
 bindO (some (Int.tmod x25 (256:Int))) fun x26 =>
 bif ((lE x24)&&(decide ((1=0)∨((List.length (tA x24))≠0)))) then
 bif (rO (((Go.IntKind.wrap .u8 x26)::([]:List Int))++(tA x24)) 1) then
 bindO (some (((Go.IntKind.wrap .u8 x26)::([]:List Int))++(tA x24))) fun x28 =>
 bindO (some (wI (Int.tdiv x25 (256:Int)))) fun x29 =>
 bindO (some (Int.tmod x29 (256:Int))) fun x30 =>
 bif ((lE x28)&&(decide ((1=0)∨((List.length (tA x28))≠0)))) then
 bif (rO (((Go.IntKind.wrap .u8 x30)::([]:List Int))++(tA x28)) 1) then
 bindO (some (((Go.IntKind.wrap .u8 x30)::([]:List Int))++(tA x28))) fun x32 =>
 bindO (some (wI (Int.tdiv x29 (256:Int)))) fun x33 =>
 bindO (some (Int.tmod x33 (256:Int))) fun x34 =>
 bif ((lE x32)&&(decide ((1=0)∨((List.length (tA x32))≠0)))) then
 bif (rO (((Go.IntKind.wrap .u8 x34)::([]:List Int))++(tA x32)) 1) then
 bindO (some (((Go.IntKind.wrap .u8 x34)::([]:List Int))++(tA x32))) fun x36 =>
 bindO (some (wI (Int.tdiv x33 (256:Int)))) fun x37 =>
 bindO (some (Int.tmod x37 (256:Int))) fun x38 =>
 bif ((lE x36)&&(decide ((1=0)∨((List.length (tA x36))≠0)))) then
 bif (rO (((Go.IntKind.wrap .u8 x38)::([]:List Int))++(tA x36)) 1) then
 bindO (some (((Go.IntKind.wrap .u8 x38)::([]:List Int))++(tA x36))) fun x40 =>
 bindO (some (wI (Int.tdiv x37 (256:Int)))) fun x41 =>
 bindO (some (Int.tmod x41 (256:Int))) fun x42 =>
 bif ((lE x40)&&(decide ((1=0)∨((List.length (tA x40))≠0)))) then
 bif (rO (((Go.IntKind.wrap .u8 x42)::([]:List Int))++(tA x40)) 1) then
 bindO (some (((Go.IntKind.wrap .u8 x42)::([]:List Int))++(tA x40))) fun x44 =>
 bif (lE x44) then
 some (Sum.inl ((wI (Int.tdiv x41 (256:Int))),(tA x44)))
 else none
 else none
 else none
 else none
 else none
 else none
 else none
 else none
 else none
 else none
 else none
 else none
 else none) fun (v46,v47) =>
 bif (lE v47) then
 some (Sum.inl (tA v47))
 else none) fun v48 =>
 joinO (joinO (bif (decide ((lI a2)<z0)) then
 some (Sum.inl (wI ((lI a2)+(4294967296:Int))))
 else
 some (Sum.inl (lI a2))) fun v50 =>
 joinO (bindO (some (wI (Int.tdiv v50 (256:Int)))) fun x53 =>
 bindO (some ((Go.IntKind.wrap .u8 (Int.tmod x53 (256:Int)))::((Go.IntKind.wrap .u8 (Int.tmod v50 (256:Int)))::([]:List Int)))) fun x56 =>
 bif (lE x56) then
 some (Sum.inl ((wI (Int.tdiv x53 (256:Int))),(tA x56)))
 else none) fun (v58,v59) =>
 bif (lE v59) then
 some (Sum.inl (tA v59))
 else none) fun v60 =>
 bif (lE v60) then
 bif (rO ((tA v60)++(List.map (fun (x61:UInt8)=>(((UInt8.toNat x61):Nat):Int)) a2)) 1) then
 bindO (some ((tA v60)++(List.map (fun (x63:UInt8)=>(((UInt8.toNat x63):Nat):Int)) a2))) fun x62 =>
 bif ((lE x62)&&(lE v48)) then
 bif (rO ((tA v48)++(tA x62)) 1) then
 bindO (some ((tA v48)++(tA x62))) fun x64 =>
 joinO (joinO (bif (decide ((lI a3)<z0)) then
 some (Sum.inl (wI ((lI a3)+(4294967296:Int))))
 else
 some (Sum.inl (lI a3))) fun v66 =>
 joinO (bindO (some (wI (Int.tdiv v66 (256:Int)))) fun x69 =>
 bindO (some ((Go.IntKind.wrap .u8 (Int.tmod x69 (256:Int)))::((Go.IntKind.wrap .u8 (Int.tmod v66 (256:Int)))::([]:List Int)))) fun x72 =>
 bif (lE x72) then
 some (Sum.inl ((wI (Int.tdiv x69 (256:Int))),(tA x72)))
 else none) fun (v74,v75) =>
 bif (lE v75) then
 some (Sum.inl (tA v75))
 else none) fun v76 =>
 bif (lE v76) then
 bif (rO ((tA v76)++(List.map (fun (x77:UInt8)=>(((UInt8.toNat x77):Nat):Int)) a3)) 1) then
 bindO (some ((tA v76)++(List.map (fun (x79:UInt8)=>(((UInt8.toNat x79):Nat):Int)) a3))) fun x78 =>
 bif ((lE x78)&&(lE x64)) then
 bif (rO ((tA x64)++(tA x78)) 1) then
 bindO (some ((tA x64)++(tA x78))) fun x80 =>
 joinO (joinO (bif (decide (a4<z0)) then
 some (Sum.inl (wI (a4+(4294967296:Int))))
 else
 some (Sum.inl a4)) fun v82 =>
 joinO (bindO (some (wI (Int.tdiv v82 (256:Int)))) fun x85 =>
 bindO (some ((Go.IntKind.wrap .u8 (Int.tmod x85 (256:Int)))::((Go.IntKind.wrap .u8 (Int.tmod v82 (256:Int)))::([]:List Int)))) fun x88 =>
 bindO (some (wI (Int.tdiv x85 (256:Int)))) fun x89 =>
 bindO (some (Int.tmod x89 (256:Int))) fun x90 =>
 bif ((lE x88)&&(decide ((1=0)∨((List.length (tA x88))≠0)))) then
 bif (rO (((Go.IntKind.wrap .u8 x90)::([]:List Int))++(tA x88)) 1) then
 bindO (some (((Go.IntKind.wrap .u8 x90)::([]:List Int))++(tA x88))) fun x92 =>
 bindO (some (wI (Int.tdiv x89 (256:Int)))) fun x93 =>
 bindO (some (Int.tmod x93 (256:Int))) fun x94 =>
 bif ((lE x92)&&(decide ((1=0)∨((List.length (tA x92))≠0)))) then
 bif (rO (((Go.IntKind.wrap .u8 x94)::([]:List Int))++(tA x92)) 1) then
 bindO (some (((Go.IntKind.wrap .u8 x94)::([]:List Int))++(tA x92))) fun x96 =>
 bif (lE x96) then
 some (Sum.inl ((wI (Int.tdiv x93 (256:Int))),(tA x96)))
 else none
 else none
 else none
 else none
 else none) fun (v98,v99) =>
 bif (lE v99) then
 some (Sum.inl (tA v99))
 else none) fun v100 =>
 bif ((lE v100)&&(lE x80)) then
 bif (rO ((tA x80)++(tA v100)) 1) then
 bindO (some ((tA x80)++(tA v100))) fun x101 =>
 joinO (bif a5 then
 bif (lE x101) then
 bif (rO ((tA x101)++(z1::([]:List Int))) 1) then
 bindO (some ((tA x101)++(z1::([]:List Int)))) fun x102 =>
 bif (lE x102) then
 some (Sum.inl (tA x102))
 else none
 else none
 else none
 else
 bif (lE x101) then
 bif (rO ((tA x101)++(z0::([]:List Int))) 1) then
 bindO (some ((tA x101)++(z0::([]:List Int)))) fun x103 =>
 bif (lE x103) then
 some (Sum.inl (tA x103))
 else none
 else none
 else none) fun v104 =>
 joinO (joinO (bif (decide (a7<z0)) then
 some (Sum.inl (wI (a7+(4294967296:Int))))
 else
 some (Sum.inl a7)) fun v106 =>
 joinO (bindO (some (wI (Int.tdiv v106 (256:Int)))) fun x109 =>
 bindO (some ((Go.IntKind.wrap .u8 (Int.tmod x109 (256:Int)))::((Go.IntKind.wrap .u8 (Int.tmod v106 (256:Int)))::([]:List Int)))) fun x112 =>
 bindO (some (wI (Int.tdiv x109 (256:Int)))) fun x113 =>
 bindO (some (Int.tmod x113 (256:Int))) fun x114 =>
 bif ((lE x112)&&(decide ((1=0)∨((List.length (tA x112))≠0)))) then
 bif (rO (((Go.IntKind.wrap .u8 x114)::([]:List Int))++(tA x112)) 1) then
 bindO (some (((Go.IntKind.wrap .u8 x114)::([]:List Int))++(tA x112))) fun x116 =>
 bindO (some (wI (Int.tdiv x113 (256:Int)))) fun x117 =>
 bindO (some (Int.tmod x117 (256:Int))) fun x118 =>
 bif ((lE x116)&&(decide ((1=0)∨((List.length (tA x116))≠0)))) then
 bif (rO (((Go.IntKind.wrap .u8 x118)::([]:List Int))++(tA x116)) 1) then
 bindO (some (((Go.IntKind.wrap .u8 x118)::([]:List Int))++(tA x116))) fun x120 =>
 bif (lE x120) then
 some (Sum.inl ((wI (Int.tdiv x117 (256:Int))),(tA x120)))
 else none
 else none
 else none
 else none
 else none) fun (v122,v123) =>
 bif (lE v123) then
 some (Sum.inl (tA v123))
 else none) fun v124 =>
 bif ((lE v124)&&(lE v104)) then
 bif (rO ((tA v104)++(tA v124)) 1) then
 bindO (some ((tA v104)++(tA v124))) fun x125 =>
 joinO (joinO (bif (decide ((lI a8)<z0)) then
 some (Sum.inl (wI ((lI a8)+(4294967296:Int))))
 else
 some (Sum.inl (lI a8))) fun v127 =>
 joinO (bindO (some (wI (Int.tdiv v127 (256:Int)))) fun x130 =>
 bindO (some ((Go.IntKind.wrap .u8 (Int.tmod x130 (256:Int)))::((Go.IntKind.wrap .u8 (Int.tmod v127 (256:Int)))::([]:List Int)))) fun x133 =>
 bif (lE x133) then
 some (Sum.inl ((wI (Int.tdiv x130 (256:Int))),(tA x133)))
 else none) fun (v135,v136) =>
 bif (lE v136) then
 some (Sum.inl (tA v136))
 else none) fun v137 =>
 bif (lE v137) then
 bif (rO ((tA v137)++(List.map (fun (x138:UInt8)=>(((UInt8.toNat x138):Nat):Int)) a8)) 1) then
 bindO (some ((tA v137)++(List.map (fun (x140:UInt8)=>(((UInt8.toNat x140):Nat):Int)) a8))) fun x139 =>
 bif ((lE x139)&&(lE x125)) then
 bif (rO ((tA x125)++(tA x139)) 1) then
 bindO (some ((tA x125)++(tA x139))) fun x141 =>
 joinO (joinO (bif (decide (a9<z0)) then
 some (Sum.inl (wI (a9+(4294967296:Int))))
 else
 some (Sum.inl a9)) fun v143 =>
 joinO (bindO (some (wI (Int.tdiv v143 (256:Int)))) fun x146 =>
 bindO (some ((Go.IntKind.wrap .u8 (Int.tmod x146 (256:Int)))::((Go.IntKind.wrap .u8 (Int.tmod v143 (256:Int)))::([]:List Int)))) fun x149 =>
 bindO (some (wI (Int.tdiv x146 (256:Int)))) fun x150 =>
 bindO (some (Int.tmod x150 (256:Int))) fun x151 =>
 bif ((lE x149)&&(decide ((1=0)∨((List.length (tA x149))≠0)))) then
 bif (rO (((Go.IntKind.wrap .u8 x151)::([]:List Int))++(tA x149)) 1) then
 bindO (some (((Go.IntKind.wrap .u8 x151)::([]:List Int))++(tA x149))) fun x153 =>
 bindO (some (wI (Int.tdiv x150 (256:Int)))) fun x154 =>
 bindO (some (Int.tmod x154 (256:Int))) fun x155 =>
 bif ((lE x153)&&(decide ((1=0)∨((List.length (tA x153))≠0)))) then
 bif (rO (((Go.IntKind.wrap .u8 x155)::([]:List Int))++(tA x153)) 1) then
 bindO (some (((Go.IntKind.wrap .u8 x155)::([]:List Int))++(tA x153))) fun x157 =>
 bif (lE x157) then
 some (Sum.inl ((wI (Int.tdiv x154 (256:Int))),(tA x157)))
 else none
 else none
 else none
 else none
 else none) fun (v159,v160) =>
 bif (lE v160) then
 some (Sum.inl (tA v160))
 else none) fun v161 =>
 bif ((lE v161)&&(lE x141)) then
 bif (rO ((tA x141)++(tA v161)) 1) then
 bindO (some ((tA x141)++(tA v161))) fun x162 =>
 bindO (some (Go.IntKind.wrap .u8 (lI a6))) fun x163 =>
 bif (lE x162) then
 bif (rO ((tA x162)++(x163::([]:List Int))) 1) then
 bindO (some ((tA x162)++(x163::([]:List Int)))) fun x164 =>
 joinO (bif (lE x164) then
 loopO (fun (v165,v166) =>
 bif (decide (v165<(lI a6))) then
 bif (iR v165 a6) then
 bindO a6[(Int.toNat v165)]? fun x167 =>
 joinO (joinO (bif (decide ((lI x167.1)<z0)) then
 some (Sum.inl (wI ((lI x167.1)+(4294967296:Int))))
 else
 some (Sum.inl (lI x167.1))) fun v169 =>
 joinO (bindO (some (wI (Int.tdiv v169 (256:Int)))) fun x172 =>
 bindO (some ((Go.IntKind.wrap .u8 (Int.tmod x172 (256:Int)))::((Go.IntKind.wrap .u8 (Int.tmod v169 (256:Int)))::([]:List Int)))) fun x175 =>
 bif (lE x175) then
 some (Sum.inl ((wI (Int.tdiv x172 (256:Int))),(tA x175)))
 else none) fun (v177,v178) =>
 bif (lE v178) then
 some (Sum.inl (tA v178))
 else none) fun v179 =>
 bif (lE v179) then
 bif (rO ((tA v179)++(List.map (fun (x180:UInt8)=>(((UInt8.toNat x180):Nat):Int)) x167.1)) 1) then
 bindO (some ((tA v179)++(List.map (fun (x182:UInt8)=>(((UInt8.toNat x182):Nat):Int)) x167.1))) fun x181 =>
 bif ((lE x181)&&(lE v166)) then
 bif (rO ((tA v166)++(tA x181)) 1) then
 bindO (some ((tA v166)++(tA x181))) fun x183 =>
 bif (iR v165 a6) then
 bindO a6[(Int.toNat v165)]? fun x184 =>
 joinO (joinO (bif (decide (x184.2.1<z0)) then
 some (Sum.inl (wI (x184.2.1+(4294967296:Int))))
 else
 some (Sum.inl x184.2.1)) fun v186 =>
 joinO (bindO (some (wI (Int.tdiv v186 (256:Int)))) fun x189 =>
 bindO (some ((Go.IntKind.wrap .u8 (Int.tmod x189 (256:Int)))::((Go.IntKind.wrap .u8 (Int.tmod v186 (256:Int)))::([]:List Int)))) fun x192 =>
 bif (lE x192) then
 some (Sum.inl ((wI (Int.tdiv x189 (256:Int))),(tA x192)))
 else none) fun (v194,v195) =>
 bif (lE v195) then
 some (Sum.inl (tA v195))
 else none) fun v196 =>
 bif ((lE v196)&&(lE x183)) then
 bif (rO ((tA x183)++(tA v196)) 1) then
 bindO (some ((tA x183)++(tA v196))) fun x197 =>
 bif (iR v165 a6) then
 bindO a6[(Int.toNat v165)]? fun x198 =>
 joinO (joinO (bif (decide (x198.2.2<z0)) then
 some (Sum.inl (wI (x198.2.2+(4294967296:Int))))
 else
 some (Sum.inl x198.2.2)) fun v200 =>
 joinO (bindO (some (wI (Int.tdiv v200 (256:Int)))) fun x203 =>
 bindO (some ((Go.IntKind.wrap .u8 (Int.tmod x203 (256:Int)))::((Go.IntKind.wrap .u8 (Int.tmod v200 (256:Int)))::([]:List Int)))) fun x206 =>
 bindO (some (wI (Int.tdiv x203 (256:Int)))) fun x207 =>
 bindO (some (Int.tmod x207 (256:Int))) fun x208 =>
 bif ((lE x206)&&(decide ((1=0)∨((List.length (tA x206))≠0)))) then
 bif (rO (((Go.IntKind.wrap .u8 x208)::([]:List Int))++(tA x206)) 1) then
 bindO (some (((Go.IntKind.wrap .u8 x208)::([]:List Int))++(tA x206))) fun x210 =>
 bindO (some (wI (Int.tdiv x207 (256:Int)))) fun x211 =>
 bindO (some (Int.tmod x211 (256:Int))) fun x212 =>
 bif ((lE x210)&&(decide ((1=0)∨((List.length (tA x210))≠0)))) then
 bif (rO (((Go.IntKind.wrap .u8 x212)::([]:List Int))++(tA x210)) 1) then
 bindO (some (((Go.IntKind.wrap .u8 x212)::([]:List Int))++(tA x210))) fun x214 =>
 bif (lE x214) then
 some (Sum.inl ((wI (Int.tdiv x211 (256:Int))),(tA x214)))
 else none
 else none
 else none
 else none
 else none) fun (v216,v217) =>
 bif (lE v217) then
 some (Sum.inl (tA v217))
 else none) fun v218 =>
 bif ((lE v218)&&(lE x197)) then
 bif (rO ((tA x197)++(tA v218)) 1) then
 bindO (some ((tA x197)++(tA v218))) fun x219 =>
 bif (lE x219) then
 some (Sum.inl ((wI (v165+z1)),(tA x219)))
 else none
 else none
 else none
 else none
 else none
 else none
 else none
 else none
 else none
 else none
 else none
 else none
 else
 outO (bif (lE v166) then
 some (Sum.inl (tA v166))
 else none)) (z0,(tA x164))
 else none) fun v221 =>
 bindO (some (Go.IntKind.wrap .u8 (lI a10))) fun x222 =>
 bif (lE v221) then
 bif (rO ((tA v221)++(x222::([]:List Int))) 1) then
 bindO (some ((tA v221)++(x222::([]:List Int)))) fun x223 =>
 joinO (bif (lE x223) then
 loopO (fun (v224,v225) =>
 bif (decide (v224<(lI a10))) then
 bif (iR v224 a10) then
 bindO a10[(Int.toNat v224)]? fun x226 =>
 joinO (joinO (bif (decide ((lI x226)<z0)) then
 some (Sum.inl (wI ((lI x226)+(4294967296:Int))))
 else
 some (Sum.inl (lI x226))) fun v228 =>
 joinO (bindO (some (wI (Int.tdiv v228 (256:Int)))) fun x231 =>
 bindO (some ((Go.IntKind.wrap .u8 (Int.tmod x231 (256:Int)))::((Go.IntKind.wrap .u8 (Int.tmod v228 (256:Int)))::([]:List Int)))) fun x234 =>
 bif (lE x234) then
 some (Sum.inl ((wI (Int.tdiv x231 (256:Int))),(tA x234)))
 else none) fun (v236,v237) =>
 bif (lE v237) then
 some (Sum.inl (tA v237))
 else none) fun v238 =>
 bif (lE v238) then
 bif (rO ((tA v238)++(List.map (fun (x239:UInt8)=>(((UInt8.toNat x239):Nat):Int)) x226)) 1) then
 bindO (some ((tA v238)++(List.map (fun (x241:UInt8)=>(((UInt8.toNat x241):Nat):Int)) x226))) fun x240 =>
 bif ((lE x240)&&(lE v225)) then
 bif (rO ((tA v225)++(tA x240)) 1) then
 bindO (some ((tA v225)++(tA x240))) fun x242 =>
 bif (lE x242) then
 some (Sum.inl ((wI (v224+z1)),(tA x242)))
 else none
 else none
 else none
 else none
 else none
 else none
 else
 outO (bif (lE v225) then
 some (Sum.inl (tA v225))
 else none)) (z0,(tA x223))
 else none) fun v244 =>
 bif (decide ((lI v244) > (4096:Int))) then
 some (([]:List Int),(4:Int))
 else
 bif (lE v244) then
 some ((tA v244),z0)
 else none
 else none
 else none
 else none
 else none
 else none
 else none
 else none
 else none
 else none
 else none
 else none
 else none
 else none
 else none
 else none
 else none
 else none
 else none
 else none
 else none
 else none
 else none
noncomputable def cons23_encR:List (Nat×CE):=cons3
theorem cons23_encR_ok:ConL Try.prog cons23_encR:=cons3_ok
theorem con23_encR:ConOk Try.prog 23 ⟨[(.tmp 0 false [dI]),(.tmp 1 true [dS,dS,dI,dO,(.dat (.list (.pair .str (.pair uI6 uI6)))),dI,dS,dI,(.dat (.list .str))])],[(.tmp 0 false [dY]),(.tmp 1 false [dE])],encR⟩ :=
 tree_ok (plan:=planOf plan23_encR) (eg:=egNo) KK tabL_ok (conOf_ok cons23_encR_ok) Try.func23 (by kernel_rfl) (by kernel_rfl) 10000 (fun a r h=>Eq.trans (show _=encR a from by kernel_rfl) h)
end Go.Proofs.Ytlaccfegaoaakaa

set_option maxRecDepth 100000
set_option maxHeartbeats 4000000
namespace Go.Proofs.Ytlaccfegaoaakaa
open Go.RowKit
noncomputable def rn2 {γ:Type} (N:Int):Option (List Int ⊕ γ) :=
 (joinO (bif (decide (N<(0:Int))) then
 some (Sum.inl (Go.IntKind.wrap .i64 (N+(4294967296:Int))))
 else
 some (Sum.inl N)) fun v50 =>
 joinO (bindO (some (Go.IntKind.wrap .i64 (Int.tdiv v50 (256:Int)))) fun x53 =>
 bindO (some ((Go.IntKind.wrap .u8 (Int.tmod x53 (256:Int)))::((Go.IntKind.wrap .u8 (Int.tmod v50 (256:Int)))::([]:List Int)))) fun x56 =>
 bif (decide ((List.length x56)≤(List.length x56))) then
 some (Sum.inl ((Go.IntKind.wrap .i64 (Int.tdiv x53 (256:Int))),(List.take (List.length x56) x56)))
 else none) fun (v58,v59) =>
 bif (decide ((List.length v59)≤(List.length v59))) then
 some (Sum.inl (List.take (List.length v59) v59))
 else none)
noncomputable def rn4 {γ:Type} (N:Int):Option (List Int ⊕ γ) :=
 (joinO (bif (decide (N<(0:Int))) then
 some (Sum.inl (Go.IntKind.wrap .i64 (N+(4294967296:Int))))
 else
 some (Sum.inl N)) fun v82 =>
 joinO (bindO (some (Go.IntKind.wrap .i64 (Int.tdiv v82 (256:Int)))) fun x85 =>
 bindO (some ((Go.IntKind.wrap .u8 (Int.tmod x85 (256:Int)))::((Go.IntKind.wrap .u8 (Int.tmod v82 (256:Int)))::([]:List Int)))) fun x88 =>
 bindO (some (Go.IntKind.wrap .i64 (Int.tdiv x85 (256:Int)))) fun x89 =>
 bindO (some (Int.tmod x89 (256:Int))) fun x90 =>
 bif ((decide ((List.length x88)≤(List.length x88)))&&(decide ((1=0)∨((List.length (List.take (List.length x88) x88))≠0)))) then
 bif (decide (((List.length (((Go.IntKind.wrap .u8 x90)::([]:List Int))++(List.take (List.length x88) x88)))*1)≤140737488355328)) then
 bindO (some (((Go.IntKind.wrap .u8 x90)::([]:List Int))++(List.take (List.length x88) x88))) fun x92 =>
 bindO (some (Go.IntKind.wrap .i64 (Int.tdiv x89 (256:Int)))) fun x93 =>
 bindO (some (Int.tmod x93 (256:Int))) fun x94 =>
 bif ((decide ((List.length x92)≤(List.length x92)))&&(decide ((1=0)∨((List.length (List.take (List.length x92) x92))≠0)))) then
 bif (decide (((List.length (((Go.IntKind.wrap .u8 x94)::([]:List Int))++(List.take (List.length x92) x92)))*1)≤140737488355328)) then
 bindO (some (((Go.IntKind.wrap .u8 x94)::([]:List Int))++(List.take (List.length x92) x92))) fun x96 =>
 bif (decide ((List.length x96)≤(List.length x96))) then
 some (Sum.inl ((Go.IntKind.wrap .i64 (Int.tdiv x93 (256:Int))),(List.take (List.length x96) x96)))
 else none
 else none
 else none
 else none
 else none) fun (v98,v99) =>
 bif (decide ((List.length v99)≤(List.length v99))) then
 some (Sum.inl (List.take (List.length v99) v99))
 else none)
noncomputable def rn8 {γ:Type} (N:Int):Option (List Int ⊕ γ) :=
 (joinO (bif (decide (N<(0:Int))) then
 some (Sum.inl (Go.IntKind.wrap .i64 (N+(4294967296:Int))))
 else
 some (Sum.inl N)) fun v14 =>
 joinO (bindO (some (Go.IntKind.wrap .i64 (Int.tdiv v14 (256:Int)))) fun x17 =>
 bindO (some ((Go.IntKind.wrap .u8 (Int.tmod x17 (256:Int)))::((Go.IntKind.wrap .u8 (Int.tmod v14 (256:Int)))::([]:List Int)))) fun x20 =>
 bindO (some (Go.IntKind.wrap .i64 (Int.tdiv x17 (256:Int)))) fun x21 =>
 bindO (some (Int.tmod x21 (256:Int))) fun x22 =>
 bif ((decide ((List.length x20)≤(List.length x20)))&&(decide ((1=0)∨((List.length (List.take (List.length x20) x20))≠0)))) then
 bif (decide (((List.length (((Go.IntKind.wrap .u8 x22)::([]:List Int))++(List.take (List.length x20) x20)))*1)≤140737488355328)) then
 bindO (some (((Go.IntKind.wrap .u8 x22)::([]:List Int))++(List.take (List.length x20) x20))) fun x24 =>
 bindO (some (Go.IntKind.wrap .i64 (Int.tdiv x21 (256:Int)))) fun x25 =>
 bindO (some (Int.tmod x25 (256:Int))) fun x26 =>
 bif ((decide ((List.length x24)≤(List.length x24)))&&(decide ((1=0)∨((List.length (List.take (List.length x24) x24))≠0)))) then
 bif (decide (((List.length (((Go.IntKind.wrap .u8 x26)::([]:List Int))++(List.take (List.length x24) x24)))*1)≤140737488355328)) then
 bindO (some (((Go.IntKind.wrap .u8 x26)::([]:List Int))++(List.take (List.length x24) x24))) fun x28 =>
 bindO (some (Go.IntKind.wrap .i64 (Int.tdiv x25 (256:Int)))) fun x29 =>
 bindO (some (Int.tmod x29 (256:Int))) fun x30 =>
 bif ((decide ((List.length x28)≤(List.length x28)))&&(decide ((1=0)∨((List.length (List.take (List.length x28) x28))≠0)))) then
 bif (decide (((List.length (((Go.IntKind.wrap .u8 x30)::([]:List Int))++(List.take (List.length x28) x28)))*1)≤140737488355328)) then
 bindO (some (((Go.IntKind.wrap .u8 x30)::([]:List Int))++(List.take (List.length x28) x28))) fun x32 =>
 bindO (some (Go.IntKind.wrap .i64 (Int.tdiv x29 (256:Int)))) fun x33 =>
 bindO (some (Int.tmod x33 (256:Int))) fun x34 =>
 bif ((decide ((List.length x32)≤(List.length x32)))&&(decide ((1=0)∨((List.length (List.take (List.length x32) x32))≠0)))) then
 bif (decide (((List.length (((Go.IntKind.wrap .u8 x34)::([]:List Int))++(List.take (List.length x32) x32)))*1)≤140737488355328)) then
 bindO (some (((Go.IntKind.wrap .u8 x34)::([]:List Int))++(List.take (List.length x32) x32))) fun x36 =>
 bindO (some (Go.IntKind.wrap .i64 (Int.tdiv x33 (256:Int)))) fun x37 =>
 bindO (some (Int.tmod x37 (256:Int))) fun x38 =>
 bif ((decide ((List.length x36)≤(List.length x36)))&&(decide ((1=0)∨((List.length (List.take (List.length x36) x36))≠0)))) then
 bif (decide (((List.length (((Go.IntKind.wrap .u8 x38)::([]:List Int))++(List.take (List.length x36) x36)))*1)≤140737488355328)) then
 bindO (some (((Go.IntKind.wrap .u8 x38)::([]:List Int))++(List.take (List.length x36) x36))) fun x40 =>
 bindO (some (Go.IntKind.wrap .i64 (Int.tdiv x37 (256:Int)))) fun x41 =>
 bindO (some (Int.tmod x41 (256:Int))) fun x42 =>
 bif ((decide ((List.length x40)≤(List.length x40)))&&(decide ((1=0)∨((List.length (List.take (List.length x40) x40))≠0)))) then
 bif (decide (((List.length (((Go.IntKind.wrap .u8 x42)::([]:List Int))++(List.take (List.length x40) x40)))*1)≤140737488355328)) then
 bindO (some (((Go.IntKind.wrap .u8 x42)::([]:List Int))++(List.take (List.length x40) x40))) fun x44 =>
 bif (decide ((List.length x44)≤(List.length x44))) then
 some (Sum.inl ((Go.IntKind.wrap .i64 (Int.tdiv x41 (256:Int))),(List.take (List.length x44) x44)))
 else none
 else none
 else none
 else none
 else none
 else none
 else none
 else none
 else none
 else none
 else none
 else none
 else none) fun (v46,v47) =>
 bif (decide ((List.length v47)≤(List.length v47))) then
 some (Sum.inl (List.take (List.length v47) v47))
 else none)
noncomputable def rcE {γ:Type} (a6:List Ct):(Int×List Int)→Option ((Int×List Int) ⊕ (List Int ⊕ γ)) :=
(fun (v165,v166) =>
 bif (decide (v165<(((List.length a6):Nat):Int))) then
 bif (decide (((0:Int)≤v165)∧(v165<(((List.length a6):Nat):Int)))) then
 bindO a6[(Int.toNat v165)]? fun x167 =>
 joinO (rn2 (((List.length x167.1):Nat):Int)) fun v179 =>
 bif (decide ((List.length v179)≤(List.length v179))) then
 bif (decide (((List.length ((List.take (List.length v179) v179)++(List.map (fun (x180:UInt8)=>(((UInt8.toNat x180):Nat):Int)) x167.1)))*1)≤140737488355328)) then
 bindO (some ((List.take (List.length v179) v179)++(List.map (fun (x182:UInt8)=>(((UInt8.toNat x182):Nat):Int)) x167.1))) fun x181 =>
 bif ((decide ((List.length x181)≤(List.length x181)))&&(decide ((List.length v166)≤(List.length v166)))) then
 bif (decide (((List.length ((List.take (List.length v166) v166)++(List.take (List.length x181) x181)))*1)≤140737488355328)) then
 bindO (some ((List.take (List.length v166) v166)++(List.take (List.length x181) x181))) fun x183 =>
 bif (decide (((0:Int)≤v165)∧(v165<(((List.length a6):Nat):Int)))) then
 bindO a6[(Int.toNat v165)]? fun x184 =>
 joinO (rn2 x184.2.1) fun v196 =>
 bif ((decide ((List.length v196)≤(List.length v196)))&&(decide ((List.length x183)≤(List.length x183)))) then
 bif (decide (((List.length ((List.take (List.length x183) x183)++(List.take (List.length v196) v196)))*1)≤140737488355328)) then
 bindO (some ((List.take (List.length x183) x183)++(List.take (List.length v196) v196))) fun x197 =>
 bif (decide (((0:Int)≤v165)∧(v165<(((List.length a6):Nat):Int)))) then
 bindO a6[(Int.toNat v165)]? fun x198 =>
 joinO (rn4 x198.2.2) fun v218 =>
 bif ((decide ((List.length v218)≤(List.length v218)))&&(decide ((List.length x197)≤(List.length x197)))) then
 bif (decide (((List.length ((List.take (List.length x197) x197)++(List.take (List.length v218) v218)))*1)≤140737488355328)) then
 bindO (some ((List.take (List.length x197) x197)++(List.take (List.length v218) v218))) fun x219 =>
 bif (decide ((List.length x219)≤(List.length x219))) then
 some (Sum.inl ((Go.IntKind.wrap .i64 (v165+(1:Int))),(List.take (List.length x219) x219)))
 else none
 else none
 else none
 else none
 else none
 else none
 else none
 else none
 else none
 else none
 else none
 else none
 else
 outO (bif (decide ((List.length v166)≤(List.length v166))) then
 some (Sum.inl (List.take (List.length v166) v166))
 else none))
noncomputable def rpE {γ:Type} (a10:List Tx):(Int×List Int)→Option ((Int×List Int) ⊕ (List Int ⊕ γ)) :=
(fun (v224,v225) =>
 bif (decide (v224<(((List.length a10):Nat):Int))) then
 bif (decide (((0:Int)≤v224)∧(v224<(((List.length a10):Nat):Int)))) then
 bindO a10[(Int.toNat v224)]? fun x226 =>
 joinO (rn2 (((List.length x226):Nat):Int)) fun v238 =>
 bif (decide ((List.length v238)≤(List.length v238))) then
 bif (decide (((List.length ((List.take (List.length v238) v238)++(List.map (fun (x239:UInt8)=>(((UInt8.toNat x239):Nat):Int)) x226)))*1)≤140737488355328)) then
 bindO (some ((List.take (List.length v238) v238)++(List.map (fun (x241:UInt8)=>(((UInt8.toNat x241):Nat):Int)) x226))) fun x240 =>
 bif ((decide ((List.length x240)≤(List.length x240)))&&(decide ((List.length v225)≤(List.length v225)))) then
 bif (decide (((List.length ((List.take (List.length v225) v225)++(List.take (List.length x240) x240)))*1)≤140737488355328)) then
 bindO (some ((List.take (List.length v225) v225)++(List.take (List.length x240) x240))) fun x242 =>
 bif (decide ((List.length x242)≤(List.length x242))) then
 some (Sum.inl ((Go.IntKind.wrap .i64 (v224+(1:Int))),(List.take (List.length x242) x242)))
 else none
 else none
 else none
 else none
 else none
 else none
 else
 outO (bif (decide ((List.length v225)≤(List.length v225))) then
 some (Sum.inl (List.take (List.length v225) v225))
 else none))
theorem encR_eq (a1:Int) (a2 a3:Tx) (a4:Int) (a5:Bool) (a6:List Ct) (a7:Int) (a8:Tx) (a9:Int) (a10:List Tx):encR (a1,(a2,(a3,(a4,(a5,(a6,(a7,(a8,(a9,a10))))))))) =
 bindO (dialtoneref22_Formed (a2,(a3,(a4,(a5,(a6,(a7,(a8,(a9,a10))))))))) fun x11 =>
 bif (!x11) then
  some (([]:List Int),(2:Int))
 else
  bindO (dialtoneref22_within (a1,((0:Int),(1099511627776:Int)))) fun x12 =>
  bif (!x12) then
   some (([]:List Int),(2:Int))
  else
   joinO (rn8 a1) fun v48 =>
   joinO (rn2 (((List.length a2):Nat):Int)) fun v60 =>
   bif (decide ((List.length v60)≤(List.length v60))) then
    bif (decide (((List.length ((List.take (List.length v60) v60)++(List.map (fun (x61:UInt8)=>(((UInt8.toNat x61):Nat):Int)) a2)))*1)≤140737488355328)) then
     bindO (some ((List.take (List.length v60) v60)++(List.map (fun (x63:UInt8)=>(((UInt8.toNat x63):Nat):Int)) a2))) fun x62 =>
     bif ((decide ((List.length x62)≤(List.length x62)))&&(decide ((List.length v48)≤(List.length v48)))) then
      bif (decide (((List.length ((List.take (List.length v48) v48)++(List.take (List.length x62) x62)))*1)≤140737488355328)) then
       bindO (some ((List.take (List.length v48) v48)++(List.take (List.length x62) x62))) fun x64 =>
       joinO (rn2 (((List.length a3):Nat):Int)) fun v76 =>
       bif (decide ((List.length v76)≤(List.length v76))) then
        bif (decide (((List.length ((List.take (List.length v76) v76)++(List.map (fun (x77:UInt8)=>(((UInt8.toNat x77):Nat):Int)) a3)))*1)≤140737488355328)) then
         bindO (some ((List.take (List.length v76) v76)++(List.map (fun (x79:UInt8)=>(((UInt8.toNat x79):Nat):Int)) a3))) fun x78 =>
         bif ((decide ((List.length x78)≤(List.length x78)))&&(decide ((List.length x64)≤(List.length x64)))) then
          bif (decide (((List.length ((List.take (List.length x64) x64)++(List.take (List.length x78) x78)))*1)≤140737488355328)) then
           bindO (some ((List.take (List.length x64) x64)++(List.take (List.length x78) x78))) fun x80 =>
           joinO (rn4 a4) fun v100 =>
           bif ((decide ((List.length v100)≤(List.length v100)))&&(decide ((List.length x80)≤(List.length x80)))) then
            bif (decide (((List.length ((List.take (List.length x80) x80)++(List.take (List.length v100) v100)))*1)≤140737488355328)) then
             bindO (some ((List.take (List.length x80) x80)++(List.take (List.length v100) v100))) fun x101 =>
             joinO (bif a5 then
              bif (decide ((List.length x101)≤(List.length x101))) then
               bif (decide (((List.length ((List.take (List.length x101) x101)++((1:Int)::([]:List Int))))*1)≤140737488355328)) then
                bindO (some ((List.take (List.length x101) x101)++((1:Int)::([]:List Int)))) fun x102 =>
                bif (decide ((List.length x102)≤(List.length x102))) then
                 some (Sum.inl (List.take (List.length x102) x102))
                else none
               else none
              else none
              else
               bif (decide ((List.length x101)≤(List.length x101))) then
                bif (decide (((List.length ((List.take (List.length x101) x101)++((0:Int)::([]:List Int))))*1)≤140737488355328)) then
                 bindO (some ((List.take (List.length x101) x101)++((0:Int)::([]:List Int)))) fun x103 =>
                 bif (decide ((List.length x103)≤(List.length x103))) then
                  some (Sum.inl (List.take (List.length x103) x103))
                 else none
                else none
               else none) fun v104 =>
             joinO (rn4 a7) fun v124 =>
             bif ((decide ((List.length v124)≤(List.length v124)))&&(decide ((List.length v104)≤(List.length v104)))) then
              bif (decide (((List.length ((List.take (List.length v104) v104)++(List.take (List.length v124) v124)))*1)≤140737488355328)) then
               bindO (some ((List.take (List.length v104) v104)++(List.take (List.length v124) v124))) fun x125 =>
               joinO (rn2 (((List.length a8):Nat):Int)) fun v137 =>
               bif (decide ((List.length v137)≤(List.length v137))) then
                bif (decide (((List.length ((List.take (List.length v137) v137)++(List.map (fun (x138:UInt8)=>(((UInt8.toNat x138):Nat):Int)) a8)))*1)≤140737488355328)) then
                 bindO (some ((List.take (List.length v137) v137)++(List.map (fun (x140:UInt8)=>(((UInt8.toNat x140):Nat):Int)) a8))) fun x139 =>
                 bif ((decide ((List.length x139)≤(List.length x139)))&&(decide ((List.length x125)≤(List.length x125)))) then
                  bif (decide (((List.length ((List.take (List.length x125) x125)++(List.take (List.length x139) x139)))*1)≤140737488355328)) then
                   bindO (some ((List.take (List.length x125) x125)++(List.take (List.length x139) x139))) fun x141 =>
                   joinO (rn4 a9) fun v161 =>
                   bif ((decide ((List.length v161)≤(List.length v161)))&&(decide ((List.length x141)≤(List.length x141)))) then
                    bif (decide (((List.length ((List.take (List.length x141) x141)++(List.take (List.length v161) v161)))*1)≤140737488355328)) then
                     bindO (some ((List.take (List.length x141) x141)++(List.take (List.length v161) v161))) fun x162 =>
                     bindO (some (Go.IntKind.wrap .u8 (((List.length a6):Nat):Int))) fun x163 =>
                     bif (decide ((List.length x162)≤(List.length x162))) then
                      bif (decide (((List.length ((List.take (List.length x162) x162)++(x163::([]:List Int))))*1)≤140737488355328)) then
                       bindO (some ((List.take (List.length x162) x162)++(x163::([]:List Int)))) fun x164 =>
                       joinO (bif (decide ((List.length x164)≤(List.length x164))) then
                        loopO (rcE a6) ((0:Int),(List.take (List.length x164) x164))
                        else none) fun v221 =>
                       bindO (some (Go.IntKind.wrap .u8 (((List.length a10):Nat):Int))) fun x222 =>
                       bif (decide ((List.length v221)≤(List.length v221))) then
                        bif (decide (((List.length ((List.take (List.length v221) v221)++(x222::([]:List Int))))*1)≤140737488355328)) then
                         bindO (some ((List.take (List.length v221) v221)++(x222::([]:List Int)))) fun x223 =>
                         joinO (bif (decide ((List.length x223)≤(List.length x223))) then
                          loopO (rpE a10) ((0:Int),(List.take (List.length x223) x223))
                          else none) fun v244 =>
                         bif (decide ((((List.length v244):Nat):Int) > (4096:Int))) then
                          some (([]:List Int),(4:Int))
                         else
                          bif (decide ((List.length v244)≤(List.length v244))) then
                           some ((List.take (List.length v244) v244),(0:Int))
                          else none
                        else none
                       else none
                      else none
                     else none
                    else none
                   else none
                  else none
                 else none
                else none
               else none
              else none
             else none
            else none
           else none
          else none
         else none
        else none
       else none
      else none
     else none
    else none
   else none:=rfl
theorem tm_nn {a:Int} (h:0≤a):Int.tmod a 256=a % 256:=Int.tmod_eq_emod_of_nonneg h
theorem td_nn {a:Int} (h:0≤a):Int.tdiv a 256=a / 256:=Int.tdiv_eq_ediv_of_nonneg h
theorem wu8m (a:Int):IntKind.wrap .u8 (a % 256)=a % 256:=by rw [wr_u8];omega
theorem ne0 {α:Type} (x:α) (l:List α):((1=0)∨((x::l).length≠0)) := .inr (by simp)
section
variable {γ:Type} {N:Int} (h : -1≤N∧N≤1099511627776)
include h
theorem u4_nn:0≤u4 N∧u4 N≤1099511627776:=by unfold u4;split<;>omega
theorem u4_if:(bif decide (N<(0:Int)) then (some (Sum.inl (IntKind.wrap .i64 (N+4294967296))):Option (Int ⊕ (List Int ⊕ γ))) else some (Sum.inl N))=some (.inl (u4 N)):=by
 unfold u4
 by_cases g:N<0
 ·rw [decide_eq_true g,cond_true,wrap_i64' (by omega),if_pos g]
 ·rw [decide_eq_false g,cond_false,if_neg g]
theorem rn2_j:rn2 (γ:=γ) N=some (.inl (be (u4 N) 2)):=by
 have hn:=u4_nn h
 unfold rn2
 rw [u4_if h,joinO_inl]
 generalize u4 N=n at hn
 simp (disch:=(first | omega | (simp only [LNl];omega))) only [↓SDl,SDr,tm_nn,td_nn,wrap_i64',wu8m]
 rfl
theorem rn4_j:rn4 (γ:=γ) N=some (.inl (be (u4 N) 4)):=by
 have hn:=u4_nn h
 unfold rn4
 rw [u4_if h,joinO_inl]
 generalize u4 N=n at hn
 simp (disch:=(first | omega | (simp only [LNl];omega))) only [↓SDl,SDr,tm_nn,td_nn,wrap_i64',wu8m,and_dec,if_pos,ne0,and_self,decide_true,Bool.and_self,List.length_cons,List.length_nil,List.cons_append,List.nil_append]
 rfl
theorem rn8_j:rn8 (γ:=γ) N=some (.inl (be (u4 N) 8)):=by
 have hn:=u4_nn h
 unfold rn8
 rw [u4_if h,joinO_inl]
 generalize u4 N=n at hn
 simp (disch:=(first | omega | (simp only [LNl];omega))) only [↓SDl,SDr,tm_nn,td_nn,wrap_i64',wu8m,and_dec,if_pos,ne0,and_self,decide_true,Bool.and_self,List.length_cons,List.length_nil,List.cons_append,List.nil_append]
 rfl
end
section
variable {γ:Type} {N:Int} (f:List Int→Option γ)
theorem rn2_b (h:0≤N∧N≤1099511627776):joinO (rn2 N) f=f (be N 2):=by
 rw [rn2_j ⟨by omega,h.2⟩,show u4 N=N from if_neg (by omega)];rfl
theorem rn8_b (h:0≤N∧N≤1099511627776):joinO (rn8 N) f=f (be N 8):=by
 rw [rn8_j ⟨by omega,h.2⟩,show u4 N=N from if_neg (by omega)];rfl
theorem rn4_b (h : -1≤N∧N≤1099511627776):joinO (rn4 N) f=f (be (u4 N) 4):=by
 rw [rn4_j h];rfl
end
theorem wu8n {a:Int} (h:0≤a∧a≤255):IntKind.wrap .u8 a=a:=by rw [wr_u8];omega
theorem rcE_j {γ:Type} (l:List Ct) (b:List Int) (hl:l.length≤20) (hc:∀i,i<l.length→CW (l.getD i c0)) (hb:b.length≤100000):loopO (rcE (γ:=γ) l) (0,b)=some (.inl (b++l.flatMap ec)):=by
 refine loopO_from (fun i=>((i:Int),b++(l.take i).flatMap ec)) l.length (by simp) (fun i hi => ?_) ?_
 ·obtain ⟨x,hx,hxb⟩:=get_at c0 hi
  have hcw:=hc i hi
  have ht:=take_snoc l c0 hi
  rw [hx] at hcw ht
  obtain ⟨h1,h2,h3⟩:=hcw
  have hF:((l.take i).flatMap ec).length≤1010*20:=by
   refine Nat.le_trans (flat_len ec _ 1010 fun y hy => ?_) (Nat.mul_le_mul_left _ (by rw [List.length_take];omega))
   obtain ⟨q,hq,rfl⟩:=List.getElem_of_mem hy
   rw [ec_len]
   have hq':q<i∧q<l.length:=by rw [List.length_take] at hq;omega
   have:=(hc q hq'.2).1.2
   rw [getD_get c0 hq'.2] at this
   rw [List.getElem_take]
   omega
  have hfl:(l.take (i+1)).flatMap ec=(l.take i).flatMap ec++ec x:=by rw [ht,List.flatMap_append];simp
  rw [hfl]
  generalize (l.take i).flatMap ec=F at hF ⊢
  have hu:x.1.length≤1000:=by have:=h1.2;omega
  unfold rcE
  simp (disch:=(first | omega | (simp only [List.length_append,List.length_cons,List.length_nil,List.length_map,be_len];omega))) only [↓SDl,SDr,if_pos,if_neg,↓hxb,↓rn2_b,↓rn4_b,wrap_i64',nots,and_dec,and_self,decide_true,Bool.and_self]
  unfold ec et
  simp only [List.append_assoc,map_tb]
 ·unfold rcE
  simp (disch:=(first | omega | (simp only [LNl];omega))) only [↓SDl,SDr,if_neg,List.take_length]
theorem rpE_j {γ:Type} (l:List Tx) (b:List Int) (hl:l.length≤20) (hc:∀i,i<l.length→POK l i) (hb:b.length≤100000):loopO (rpE (γ:=γ) l) (0,b)=some (.inl (b++l.flatMap et)):=by
 refine loopO_from (fun i=>((i:Int),b++(l.take i).flatMap et)) l.length (by simp) (fun i hi => ?_) ?_
 ·obtain ⟨x,hx,hxb⟩:=get_at ([]:Tx) hi
  have hcw:Ln (l.getD i []).length 1000:=hc i hi
  have ht:=take_snoc l [] hi
  rw [hx] at hcw ht
  have hF:((l.take i).flatMap et).length≤1010*20:=by
   refine Nat.le_trans (flat_len et _ 1010 fun y hy => ?_) (Nat.mul_le_mul_left _ (by rw [List.length_take];omega))
   obtain ⟨q,hq,rfl⟩:=List.getElem_of_mem hy
   rw [et_len]
   have hq':q<i∧q<l.length:=by rw [List.length_take] at hq;omega
   have:Ln (l.getD q []).length 1000:=hc q hq'.2
   rw [getD_get [] hq'.2] at this
   rw [List.getElem_take]
   omega
  have hfl:(l.take (i+1)).flatMap et=(l.take i).flatMap et++et x:=by rw [ht,List.flatMap_append];simp
  rw [hfl]
  generalize (l.take i).flatMap et=F at hF ⊢
  have hu:x.length≤1000:=by have:=hcw.2;omega
  unfold rpE
  simp (disch:=(first | omega | (simp only [List.length_append,List.length_cons,List.length_nil,List.length_map,be_len];omega))) only [↓SDl,SDr,if_pos,if_neg,↓hxb,↓rn2_b,wrap_i64',nots,and_dec,and_self,decide_true,Bool.and_self]
  unfold et
  simp only [List.append_assoc,map_tb]
 ·unfold rpE
  simp (disch:=(first | omega | (simp only [LNl];omega))) only [↓SDl,SDr,if_neg,List.take_length]
theorem rcE_b {γ:Type} (l:List Ct) (b:List Int) (f:List Int→Option γ) (hl:l.length≤20) (hc:∀i,i<l.length→CW (l.getD i c0)) (hb:b.length≤100000):joinO (loopO (rcE l) (0,b)) f=f (b++l.flatMap ec):=by rw [rcE_j l b hl hc hb];rfl
theorem rpE_b {γ:Type} (l:List Tx) (b:List Int) (f:List Int→Option γ) (hl:l.length≤20) (hc:∀i,i<l.length→POK l i) (hb:b.length≤100000):joinO (loopO (rpE l) (0,b)) f=f (b++l.flatMap et):=by rw [rpE_j l b hl hc hb];rfl
open Classical in
theorem formR_b {β:Type} (a1 a2:Tx) (a3:Int) (a4:Bool) (a5:List Ct) (a6:Int) (a7:Tx) (a8:Int) (a9:List Tx) (k:Bool→Option β):bindO (dialtoneref22_Formed (a1,(a2,(a3,(a4,(a5,(a6,(a7,(a8,a9))))))))) k=k (decide (FM a1 a2 a3 a4 a5 a6 a7 a8 a9)):=by
 rcases formedR_j a1 a2 a3 a4 a5 a6 a7 a8 a9 with ⟨h,e⟩ | ⟨h,e⟩
 ·obtain ⟨⟨q1,q2⟩,⟨⟨⟨q3,q4⟩,q5⟩,q6,q7⟩,⟨q8,q9⟩,q10⟩:=h
  rw [e,decide_eq_true (show FM a1 a2 a3 a4 a5 a6 a7 a8 a9 from ⟨q1,⟨q2,q3,q9⟩,q4,q6,q7,q8,q5,q10⟩)];rfl
 ·rw [e,decide_eq_false (show ¬FM a1 a2 a3 a4 a5 a6 a7 a8 a9 from fun ⟨q1,⟨q2,q3,q9⟩,q4,q6,q7,q8,q5,q10⟩=>h ⟨⟨q1,q2⟩,⟨⟨⟨q3,q4⟩,q5⟩,q6,q7⟩,⟨q8,q9⟩,q10⟩)];rfl
open Classical in
theorem formR_t {β:Type} {a1 a2:Tx} {a3:Int} {a4:Bool} {a5:List Ct} {a6:Int} {a7:Tx} {a8:Int} {a9:List Tx} (k:Bool→Option β) (h:FM a1 a2 a3 a4 a5 a6 a7 a8 a9):bindO (dialtoneref22_Formed (a1,(a2,(a3,(a4,(a5,(a6,(a7,(a8,a9))))))))) k=k true:=by rw [formR_b,decide_eq_true h]
section
variable {γ:Type} (x v:List Int) (F:List Int→Option γ) (hx:x.length≤100000) (hv:v.length≤1000)
include hx
theorem byte_step (c:Int):(bif decide (List.length x≤List.length x) then bif decide ((List.length (List.take (List.length x) x++(c::[])))*1≤140737488355328) then bindO (some (List.take (List.length x) x++(c::[]))) F else none else none)=F (x++[c]):=by
 simp (disch:=(first | omega | (simp only [LNl];omega))) only [↓SDl,SDr,if_pos]
theorem rc_step (l:List Ct) (hl:l.length≤20) (hc:∀i,i<l.length→CW (l.getD i c0)):joinO (bif decide (List.length x≤List.length x) then loopO (rcE l) ((0:Int),List.take (List.length x) x) else none) F=F (x++l.flatMap ec):=by
 simp (disch:=(first | omega | (simp only [LNl];omega))) only [↓SDl,SDr,if_pos]
 exact rcE_b l x F hl hc hx
theorem rp_step (l:List Tx) (hl:l.length≤20) (hc:∀i,i<l.length→POK l i):joinO (bif decide (List.length x≤List.length x) then loopO (rpE l) ((0:Int),List.take (List.length x) x) else none) F=F (x++l.flatMap et):=by
 simp (disch:=(first | omega | (simp only [LNl];omega))) only [↓SDl,SDr,if_pos]
 exact rpE_b l x F hl hc hx
include hv
theorem num_step:(bif (decide (List.length v≤List.length v)&&decide (List.length x≤List.length x)) then bif decide ((List.length (List.take (List.length x) x++List.take (List.length v) v))*1≤140737488355328) then bindO (some (List.take (List.length x) x++List.take (List.length v) v)) F else none else none)=F (x++v):=by
 simp (disch:=(first | omega | (simp only [LNl];omega))) only [↓SDl,SDr,if_pos]
theorem tx_step (s:Tx) (hs:s.length≤1000):(bif decide (List.length v≤List.length v) then bif decide ((List.length (List.take (List.length v) v++List.map (fun (x:UInt8)=>(((UInt8.toNat x):Nat):Int)) s))*1≤140737488355328) then bindO (some (List.take (List.length v) v++List.map (fun (x:UInt8)=>(((UInt8.toNat x):Nat):Int)) s)) (fun y=>bif (decide (List.length y≤List.length y)&&decide (List.length x≤List.length x)) then bif decide ((List.length (List.take (List.length x) x++List.take (List.length y) y))*1≤140737488355328) then bindO (some (List.take (List.length x) x++List.take (List.length y) y)) F else none else none) else none else none)=F (x++(v++tb s)):=by
 simp (disch:=(first | omega | (simp only [List.length_append,List.length_map];omega))) only [↓SDl,SDr,if_pos]
 rfl
end
theorem encR_j {now:Int} {a1 a2:Tx} {a3:Int} {a4:Bool} {a5:List Ct} {a6:Int} {a7:Tx} {a8:Int} {a9:List Tx} (h:EOK now a1 a2 a3 a4 a5 a6 a7 a8 a9) :
 encR (now,(a1,(a2,(a3,(a4,(a5,(a6,(a7,(a8,a9)))))))))=some (if ((ENC now a1 a2 a3 a4 a5 a6 a7 a8 a9).length:Int) > 4096 then ([],4) else (ENC now a1 a2 a3 a4 a5 a6 a7 a8 a9,0)):=by
 rw [encR_eq]
 obtain ⟨hF,n0,n1⟩:=h
 obtain ⟨⟨f1,f2,f3⟩,⟨f4,f5,f6⟩,f7,f8,f9,f10,f11,f12⟩:=id hF
 have hn:0≤now∧now≤1099511627776:=⟨n0,n1⟩
 have l1:a1.length≤255:=by have:=f1.2;omega
 have l2:a2.length≤255:=by have:=f2.2;omega
 have g5:=flat_ec f5 (fun i hi=>(f11 i hi).1)
 have g9:=flat_et (l:=a9) (by omega) f12
 have hec:∀i,i<a5.length→CW (a5.getD i c0):=fun i hi=>(f11 i hi).1
 have e5:IntKind.wrap .u8 (a5.length:Int)=(a5.length:Int):=wu8n (by omega)
 have e9:IntKind.wrap .u8 (a9.length:Int)=(a9.length:Int):=wu8n (by omega)
 have e3:u4 a3=a3:=if_neg (by omega)
 have e8:u4 a8=a8:=if_neg (by omega)
 have key:∀(X Y:List Int),X=Y→(bif decide (((X.length:Nat):Int) > 4096) then some (([]:List Int),(4:Int)) else bif decide (List.length X≤List.length X) then some (List.take (List.length X) X,0) else none)=some (if ((Y.length:Nat):Int) > 4096 then ([],4) else (Y,0)):=fun X Y e=>by
  subst e
  simp only [↓SDl,SDr]
  split<;>rfl
 rw [formR_t _ hF]
 simp only [Bool.not_true,cond_false]
 rw [withinR_b,decide_eq_true hn]
 simp only [Bool.not_true,cond_false]
 rw [rn8_b _ hn]
 obtain ⟨B0,hB0,mB0⟩:∃B,B=be now 8∧B.length≤1000:=⟨_,rfl,by rw [be_len];omega⟩
 rw [←hB0]
 rw [rn2_b _ (by omega)]
 obtain ⟨V1,hV1,kV1⟩:∃B,B=be (a1.length:Int) 2∧B.length≤1000:=⟨_,rfl,by rw [be_len];omega⟩
 rw [←hV1]
 refine (tx_step B0 V1 _ (by omega) kV1 a1 (by omega)).trans ?_
 obtain ⟨B1,hB1,mB1⟩:∃B,B=B0++(V1++tb a1)∧B.length≤3000:=⟨_,rfl,by simp only [List.length_append,tb_len,List.length_cons,List.length_nil];omega⟩
 rw [←hB1]
 rw [rn2_b _ (by omega)]
 obtain ⟨V2,hV2,kV2⟩:∃B,B=be (a2.length:Int) 2∧B.length≤1000:=⟨_,rfl,by rw [be_len];omega⟩
 rw [←hV2]
 refine (tx_step B1 V2 _ (by omega) kV2 a2 (by omega)).trans ?_
 obtain ⟨B2,hB2,mB2⟩:∃B,B=B1++(V2++tb a2)∧B.length≤6000:=⟨_,rfl,by simp only [List.length_append,tb_len,List.length_cons,List.length_nil];omega⟩
 rw [←hB2]
 rw [rn4_b _ (by omega),e3]
 obtain ⟨V3,hV3,kV3⟩:∃B,B=be a3 4∧B.length≤1000:=⟨_,rfl,by rw [be_len];omega⟩
 rw [←hV3]
 refine (num_step B2 V3 _ (by omega) kV3).trans ?_
 obtain ⟨B3,hB3,mB3⟩:∃B,B=B2++V3∧B.length≤7000:=⟨_,rfl,by simp only [List.length_append,tb_len,List.length_cons,List.length_nil];omega⟩
 rw [←hB3]
 have hst:∀ {γ:Type},(bif a4 then (bif decide (List.length B3≤List.length B3) then bif decide ((List.length (List.take (List.length B3) B3++((1:Int)::[])))*1≤140737488355328) then bindO (some (List.take (List.length B3) B3++((1:Int)::[]))) (fun x102=>bif decide (List.length x102≤List.length x102) then some (Sum.inl (List.take (List.length x102) x102)) else none) else none else none) else (bif decide (List.length B3≤List.length B3) then bif decide ((List.length (List.take (List.length B3) B3++((0:Int)::[])))*1≤140737488355328) then bindO (some (List.take (List.length B3) B3++((0:Int)::[]))) (fun x103=>bif decide (List.length x103≤List.length x103) then some (Sum.inl (List.take (List.length x103) x103)) else none) else none else none):Option (List Int ⊕ γ))=some (.inl (B3++[if a4=true then 1 else 0])):=fun {γ}=>by
  cases a4 with
  | true=>rw [cond_true,byte_step B3 _ (by omega)];simp only [↓SDl,SDr]
  | false=>rw [cond_false,byte_step B3 _ (by omega)];simp only [↓SDl,SDr,Bool.false_eq_true]
 refine joinO_eq hst ?_
 obtain ⟨B4,hB4,mB4⟩:∃B,B=B3++[if a4=true then (1:Int) else 0]∧B.length≤8000:=⟨_,rfl,by simp only [List.length_append,tb_len,List.length_cons,List.length_nil];omega⟩
 rw [←hB4]
 rw [rn4_b _ (by omega)]
 obtain ⟨V5,hV5,kV5⟩:∃B,B=be (u4 a6) 4∧B.length≤1000:=⟨_,rfl,by rw [be_len];omega⟩
 rw [←hV5]
 refine (num_step B4 V5 _ (by omega) kV5).trans ?_
 obtain ⟨B5,hB5,mB5⟩:∃B,B=B4++V5∧B.length≤9000:=⟨_,rfl,by simp only [List.length_append,tb_len,List.length_cons,List.length_nil];omega⟩
 rw [←hB5]
 rw [rn2_b _ (by omega)]
 obtain ⟨V6,hV6,kV6⟩:∃B,B=be (a7.length:Int) 2∧B.length≤1000:=⟨_,rfl,by rw [be_len];omega⟩
 rw [←hV6]
 refine (tx_step B5 V6 _ (by omega) kV6 a7 (by omega)).trans ?_
 obtain ⟨B6,hB6,mB6⟩:∃B,B=B5++(V6++tb a7)∧B.length≤12000:=⟨_,rfl,by simp only [List.length_append,tb_len,List.length_cons,List.length_nil];omega⟩
 rw [←hB6]
 rw [rn4_b _ (by omega),e8]
 obtain ⟨V7,hV7,kV7⟩:∃B,B=be a8 4∧B.length≤1000:=⟨_,rfl,by rw [be_len];omega⟩
 rw [←hV7]
 refine (num_step B6 V7 _ (by omega) kV7).trans ?_
 obtain ⟨B7,hB7,mB7⟩:∃B,B=B6++V7∧B.length≤13000:=⟨_,rfl,by simp only [List.length_append,tb_len,List.length_cons,List.length_nil];omega⟩
 rw [←hB7]
 rw [bindO_some,e5]
 refine (byte_step B7 _ (by omega) _).trans ?_
 obtain ⟨B8,hB8,mB8⟩:∃B,B=B7++[(a5.length:Int)]∧B.length≤14000:=⟨_,rfl,by simp only [List.length_append,tb_len,List.length_cons,List.length_nil];omega⟩
 rw [←hB8]
 refine (rc_step B8 _ (by omega) a5 f5 hec).trans ?_
 obtain ⟨B9,hB9,mB9⟩:∃B,B=B8++a5.flatMap ec∧B.length≤40000:=⟨_,rfl,by simp only [List.length_append,tb_len,List.length_cons,List.length_nil];omega⟩
 rw [←hB9]
 rw [bindO_some,e9]
 refine (byte_step B9 _ (by omega) _).trans ?_
 obtain ⟨C0,hC0,mC0⟩:∃B,B=B9++[(a9.length:Int)]∧B.length≤41000:=⟨_,rfl,by simp only [List.length_append,tb_len,List.length_cons,List.length_nil];omega⟩
 rw [←hC0]
 refine (rp_step C0 _ (by omega) a9 (by omega) f12).trans ?_
 refine key _ _ ?_
 subst hC0 hB9 hB8 hB7 hV7 hB6 hV6 hB5 hV5 hB4 hB3 hV3 hB2 hV2 hB1 hV1 hB0
 unfold ENC et
 simp only [List.append_assoc]
theorem encR_no {now:Int} {a1 a2:Tx} {a3:Int} {a4:Bool} {a5:List Ct} {a6:Int} {a7:Tx} {a8:Int} {a9:List Tx} (h:¬EOK now a1 a2 a3 a4 a5 a6 a7 a8 a9) :
 encR (now,(a1,(a2,(a3,(a4,(a5,(a6,(a7,(a8,a9)))))))))=some ([],2):=by
 rw [encR_eq]
 by_cases hF:FM a1 a2 a3 a4 a5 a6 a7 a8 a9
 ·have h0:¬(0≤now∧now≤1099511627776):=fun g=>h ⟨hF,g⟩
  simp only [↓SDl,SDr,↓formR_b,↓withinR_b,hF,h0,decide_true,decide_false]
 ·simp only [↓SDl,SDr,↓formR_b,hF,decide_false]
end Go.Proofs.Ytlaccfegaoaakaa

set_option maxRecDepth 100000
set_option maxHeartbeats 4000000
namespace Go.Proofs.Ytlaccfegaoaakaa
open Go.RowKit
abbrev RS:=List Int×Int
abbrev Rg9:=Tx×(Tx×(Int×(Bool×(List Ct×(Int×(Tx×(Int×List Tx)))))))
noncomputable def dt {γ:Type} (N:Int) (R:List Int) (E:Int):Option ((List Int×RS) ⊕ γ) :=
 (bif (decide (E≠(0:Int))) then
 some (Sum.inl (([]:List Int),(R,(6:Int))))
 else
 bif (decide ((((List.length R):Nat):Int)<(Go.IntKind.wrap .i64 N))) then
 some (Sum.inl (([]:List Int),(R,(6:Int))))
 else
 bif ((decide (((0:Int)≤(Go.IntKind.wrap .i64 N))∧((Go.IntKind.wrap .i64 N)≤(((List.length R):Nat):Int))))&&(decide (((0:Int)≤(Go.IntKind.wrap .i64 N))∧((Go.IntKind.wrap .i64 N)≤(((Int.toNat (Go.IntKind.wrap .i64 N)):Nat):Int))))) then
 bif (decide (((0:Int)≤(Go.IntKind.wrap .i64 N))∧((Go.IntKind.wrap .i64 N)≤(((List.length R):Nat):Int)))) then
 some (Sum.inl ((List.take (Int.toNat (Go.IntKind.wrap .i64 N)) R),((List.drop (Int.toNat (Go.IntKind.wrap .i64 N)) R),E)))
 else none
 else none)
def num (k:Nat) (r:List Int) (e:Int):Int×RS:=if e≠0∨r.length<k then (0,(r,6)) else (val (r.take k),(r.drop k,e))
section
variable {γ:Type} {R:List Int} {E:Int} (hR:By R) (hl:R.length≤100000)
include hR hl
end
end Go.Proofs.Ytlaccfegaoaakaa

set_option maxRecDepth 100000
namespace Go.Proofs.Ytlaccfegaoaakaa
open Go.RowKit
abbrev RC:=List Int×(Int×Int)
structure AC where
 now:Int
 aor:List Int
 cid:List Int
 sq:Int
 st:Int
 ex:Int
 ins:List Int
 fl:Int
 cs:List RC
 ps:List (List Int)
 rest:List Int
def rawt (t:List Int):List Int:=be (t.length:Int) 2++t
def rawc (x:RC):List Int:=rawt x.1++(be x.2.1 2++be x.2.2 4)
def raw (a:AC):List Int:=be a.now 8++(rawt a.aor++(rawt a.cid++(be a.sq 4++(be a.st 1++(be a.ex 4++(rawt a.ins++(be a.fl 4++(be (a.cs.length:Int) 1++(a.cs.flatMap rawc++(be (a.ps.length:Int) 1++(a.ps.flatMap rawt++a.rest)))))))))))
abbrev RCok (x:RC):Prop:=x.1.length≤65535∧By x.1∧(0≤x.2.1∧x.2.1<65536)∧(0≤x.2.2∧x.2.2<4294967296)
abbrev RTok (t:List Int):Prop:=t.length≤65535∧By t
def ACok (a:AC):Prop:=(0≤a.now∧a.now<18446744073709551616)∧RTok a.aor∧RTok a.cid∧(0≤a.sq∧a.sq<4294967296)∧(0≤a.st∧a.st<256)∧(0≤a.ex∧a.ex<4294967296)∧RTok a.ins∧(0≤a.fl∧a.fl<4294967296)∧a.cs.length≤255∧(∀x∈a.cs,RCok x)∧a.ps.length≤255∧(∀x∈a.ps,RTok x)
end Go.Proofs.Ytlaccfegaoaakaa

set_option maxRecDepth 100000
set_option maxHeartbeats 4000000
namespace Go.Proofs.Ytlaccfegaoaakaa
open Go.RowKit
abbrev Rok (r:List Int):Prop:=By r∧r.length≤6000
theorem Rok.drop {r:List Int} (h:Rok r) (n:Nat):Rok (r.drop n):=⟨fun x hx=>h.1 x (List.mem_of_mem_drop hx),by rw [List.length_drop];have:=h.2;omega⟩
end Go.Proofs.Ytlaccfegaoaakaa

set_option maxRecDepth 100000
set_option maxHeartbeats 4000000
namespace Go.Proofs.Ytlaccfegaoaakaa
open Go.RowKit
def zR:Rg9:=([],([],(0,(false,([],(0,([],(0,[]))))))))
abbrev FMr (r:Rg9):Prop:=FM r.1 r.2.1 r.2.2.1 r.2.2.2.1 r.2.2.2.2.1 r.2.2.2.2.2.1 r.2.2.2.2.2.2.1 r.2.2.2.2.2.2.2.1 r.2.2.2.2.2.2.2.2
end Go.Proofs.Ytlaccfegaoaakaa

set_option maxRecDepth 100000
set_option maxHeartbeats 4000000
namespace Go.Proofs.Ytlaccfegaoaakaa
open Go.RowKit
noncomputable def strB (a1 a2:List Tx):Int→Option (Int ⊕ (Unit ⊕ Bool)) :=
(fun v3 =>
 bif (decide (v3<(((List.length a1):Nat):Int))) then
 bif (decide (((0:Int)≤v3)∧(v3<(((List.length a1):Nat):Int)))) then
 bindO a1[(Int.toNat v3)]? fun x4 =>
 bif (decide (((0:Int)≤v3)∧(v3<(((List.length a2):Nat):Int)))) then
 bindO a2[(Int.toNat v3)]? fun x5 =>
 bif (decide (x4≠x5)) then
 outO (outO (some Bool.false))
 else
 some (Sum.inl (Go.IntKind.wrap .i64 (v3+(1:Int))))
 else none
 else none
 else
 outO (some (Sum.inl ())))
theorem strings_eq (a1 a2:List Tx):dialtoneref22_strings (a1,a2) =
 bif (decide ((((List.length a1):Nat):Int)≠(((List.length a2):Nat):Int))) then
  some Bool.false
 else
  joinO (loopO (strB a1 a2) (0:Int)) fun _ =>
  some Bool.true:=rfl
theorem strings_refl (l:List Tx) (h:l.length≤1000):dialtoneref22_strings (l,l)=some true:=by
 rw [strings_eq]
 have e:loopO (strB l l) (0:Int)=some (.inl ()):=by
  refine loopO_from (fun i=>(i:Int)) l.length rfl (fun i hi => ?_) ?_
  ·obtain ⟨x,hx,hxb⟩:=get_at ([]:Tx) hi
   have hn:((i:Int)+1)=((i+1:Nat):Int):=rfl
   unfold strB
   simp (disch:=(first | omega | (simp only [LNl];omega))) only [↓SDl,SDr,if_pos,if_neg,↓hxb,wrap_i64',hn,ne_eq,not_true_eq_false,decide_false]
  ·unfold strB
   simp (disch:=(first | omega | (simp only [LNl];omega))) only [↓SDl,SDr,if_neg]
 simp only [↓SDl,SDr,ne_eq,not_true_eq_false,decide_false,e]
def actOf (now:Int) (a1 a2:Tx) (a3:Int) (a4:Bool) (a5:List Ct) (a6:Int) (a7:Tx) (a8:Int) (a9:List Tx):AC :=
 ⟨now,tb a1,tb a2,a3,if a4=true then 1 else 0,u4 a6,tb a7,a8,a5.map fun x=>(tb x.1,(x.2.1,u4 x.2.2)),a9.map tb,[]⟩
theorem rawt_et (s:Tx):rawt (tb s)=et s:=by unfold rawt et;rw [tb_len]
theorem rawc_ec (x:Ct):rawc (tb x.1,(x.2.1,u4 x.2.2))=ec x:=by
 unfold rawc ec
 simp only [rawt_et,List.append_assoc]
theorem enc_raw {now:Int} {a1 a2:Tx} {a3:Int} {a4:Bool} {a5:List Ct} {a6:Int} {a7:Tx} {a8:Int} {a9:List Tx} (h5:a5.length≤255) (h9:a9.length≤255):ENC now a1 a2 a3 a4 a5 a6 a7 a8 a9=raw (actOf now a1 a2 a3 a4 a5 a6 a7 a8 a9):=by
 have e1:be (if a4=true then (1:Int) else 0) 1=[if a4=true then (1:Int) else 0]:=be_1 (by split<;>omega)
 have e5:be (a5.length:Int) 1=[(a5.length:Int)]:=be_1 (by omega)
 have e9:be (a9.length:Int) 1=[(a9.length:Int)]:=be_1 (by omega)
 have f5:(a5.map fun x=>(tb x.1,(x.2.1,u4 x.2.2))).flatMap rawc=a5.flatMap ec:=by
  rw [List.flatMap_map]
  exact congrArg (fun f=>a5.flatMap f) (funext rawc_ec)
 have f9:(a9.map tb).flatMap rawt=a9.flatMap et:=by
  rw [List.flatMap_map]
  exact congrArg (fun f=>a9.flatMap f) (funext rawt_et)
 unfold ENC raw actOf
 simp only [List.length_map,e1,e5,e9,f5,f9,rawt_et,List.append_assoc,List.append_nil]
theorem u4_rng {n:Int} (h:NO n):0≤u4 n∧u4 n<4294967296:=by
 unfold u4
 split<;>omega
theorem by_app {a b:List Int} (h:By a) (k:By b):By (a++b):=fun x hx=>(List.mem_append.1 hx).elim (h x) (k x)
theorem by_flat {α:Type} {l:List α} {f:α→List Int} (h:∀a∈l,By (f a)):By (l.flatMap f):=fun x hx=>by
 obtain ⟨a,ha,hx⟩:=List.mem_flatMap.1 hx
 exact h a ha x hx
theorem rawt_by {t:List Int} (h:By t):By (rawt t):=by_app (be_by _ _) h
theorem raw_by {a:AC} (hk:ACok a) (hr:a.rest=[]):By (raw a):=by
 obtain ⟨h0,h1,h2,h3,h4,h5,h6,h7,h8,h9,g0,g1⟩:=hk
 unfold raw
 rw [hr]
 exact by_app (be_by _ _) (by_app (rawt_by h1.2) (by_app (rawt_by h2.2) (by_app (be_by _ _) (by_app (be_by _ _) (by_app (be_by _ _) (by_app (rawt_by h6.2) (by_app (be_by _ _) (by_app (be_by _ _) (by_app (by_flat fun x hx=>by_app (rawt_by (h9 x hx).2.1) (by_app (be_by _ _) (be_by _ _))) (by_app (be_by _ _) (by_app (by_flat fun x hx=>rawt_by (g1 x hx).2) (fun x hx=>by cases hx))))))))))))
section
variable {now:Int} {a1 a2:Tx} {a3:Int} {a4:Bool} {a5:List Ct} {a6:Int} {a7:Tx} {a8:Int} {a9:List Tx} (h:EOK now a1 a2 a3 a4 a5 a6 a7 a8 a9)
include h
theorem act_ok:ACok (actOf now a1 a2 a3 a4 a5 a6 a7 a8 a9):=by
 obtain ⟨⟨⟨⟨_,u1⟩,⟨_,u2⟩,u3⟩,⟨u6,u5,u9⟩,_,u7,u8,_,uc,up⟩,n0,n1⟩:=h
 have v6:=u4_rng u6
 have hs:0≤(if a4=true then (1:Int) else 0)∧(if a4=true then (1:Int) else 0)<256:=by split<;>omega
 unfold actOf
 refine ⟨⟨n0,by show now<_;omega⟩,⟨?_,tb_by _⟩,⟨?_,tb_by _⟩,⟨u3.1,?_⟩,hs,v6,⟨?_,tb_by _⟩,⟨u8.1,?_⟩,?_,fun x hx => ?_,?_,fun x hx => ?_⟩
 ·show (tb a1).length≤_;rw [tb_len];omega
 ·show (tb a2).length≤_;rw [tb_len];omega
 ·show a3<_;omega
 ·show (tb a7).length≤_;rw [tb_len];omega
 ·show a8<_;omega
 ·show (a5.map _).length≤_;rw [List.length_map];omega
 ·obtain ⟨y,hy,rfl⟩:=List.mem_map.1 hx
  obtain ⟨i,hi,rfl⟩:=List.getElem_of_mem hy
  obtain ⟨⟨⟨_,w1⟩,⟨w2,w3⟩,w4⟩,_⟩:=uc i hi
  rw [getD_get c0 hi] at w1 w2 w3 w4
  refine ⟨?_,tb_by _,⟨w2,?_⟩,u4_rng w4⟩
  ·show (tb _).length≤_;rw [tb_len];omega
  ·exact Int.lt_of_le_of_lt w3 (by decide)
 ·show (a9.map _).length≤_;rw [List.length_map];omega
 ·obtain ⟨y,hy,rfl⟩:=List.mem_map.1 hx
  obtain ⟨i,hi,rfl⟩:=List.getElem_of_mem hy
  have w:=(up i hi).2
  rw [getD_get _ hi] at w
  exact ⟨by rw [tb_len];omega,tb_by _⟩
end
end Go.Proofs.Ytlaccfegaoaakaa
