import Derived.Test.YtlaccfegaoaakaaB4p
set_option linter.unusedSectionVars false
set_option linter.unusedSimpArgs false
set_option linter.unusedVariables false
set_option maxRecDepth 100000
set_option maxHeartbeats 4000000
namespace Go.Proofs.Ytlaccfegaoaakaa
open Go.RowKit
section
variable {V:Bnd→Prop} {c:Bnd→Bnd→Int} (hc:∀x y,V x→V y→registrar_Lookup_1 (x,y)=some (c x y)) (W:Weak V (fun x y=>c x y<0))
include hc W
theorem sm_one1 (h:(List Bnd×(Int×(Int×Int)))→Option (List Bnd)) (A Y B:List Bnd) (x:Bnd) (hY:Y≠[]) (hl:(A++[x]++Y++B).length≤1000000) (hV:∀y∈A++[x]++Y++B,V y) (sY:Srt (fun x y=>c x y<0) Y) {a m b:Int} (ha:a=(A.length:Int)) (hm:m=((A.length+1:Nat):Int)) (hb:b=((A.length+1+Y.length:Nat):Int)) :
 ∃Z,slices_symMergeCmpFunc_api_Binding_B h (A++[x]++Y++B,(a,(m,b)))=some (A++Z++B)∧Z.Perm ([x]++Y)∧Srt (fun x y=>c x y<0) Z:=by
 have hlen:=hl
 simp only [List.length_append,List.length_cons,List.length_nil] at hlen
 have hx:V x:=hV x (by simp)
 obtain ⟨r,q1,q2,q3,q4,q5⟩:=smA_s hc (δ:=Unit ⊕ List Bnd) (A++[x]++Y++B) hl hV (a:=a) (m:=m) (b:=b) (by omega) (by simp only [List.length_append,List.length_cons,List.length_nil];omega) (by omega) (by omega) (by simp only [List.length_append,List.length_cons,List.length_nil];omega)
 obtain ⟨Y1,Y2,hYY,l1⟩:=split_at Y (k:=(r-m).toNat) (by omega)
 have l2:Y1.length+Y2.length=Y.length:=by rw [hYY,List.length_append]
 have ga:(A++[x]++Y++B).getD a.toNat dB=x:=by
  rw [show A++[x]++Y++B=A++x::(Y++B) by simp];exact gA A x _ (by omega)
 rw [ga] at q4 q5
 have c1:∀y∈Y1,¬c x y<0:=by
  by_cases h0:Y1=[]
  ·rw [h0];intro y hy;cases hy
  ·obtain ⟨Y1',z,hz⟩:=last_of h0
   have lz:Y1'.length+1=Y1.length:=by rw [hz];simp
   have gz:(A++[x]++Y++B).getD (r-1).toNat dB=z:=by
    rw [show A++[x]++Y++B=(A++[x]++Y1')++z::(Y2++B) by rw [hYY,hz];simp]
    exact gA _ z _ (by simp only [List.length_append,List.length_cons,List.length_nil];omega)
   have hzV:V z:=hV z (by rw [hYY,hz];simp)
   have hzx:c z x<0:=by
    rcases q4 with g | g
    ·omega
    ·rw [gz] at g;exact g
   rw [hz]
   refine srt_last W ?_ (fun y hy=>hV y ?_) hx (W.asym z x hzV hx hzx)
   ·rw [←hz];exact (List.pairwise_append.1 (hYY▸sY)).1
   ·rw [hYY,hz];simp at hy ⊢;rcases hy with g | g<;>simp [g]
 have c2:∀y∈Y2,¬c y x<0:=by
  cases hw:Y2 with
  | nil=>intro y hy;cases hy
  | cons w Y2' =>
    have gw:(A++[x]++Y++B).getD r.toNat dB=w:=by
     rw [show A++[x]++Y++B=(A++[x]++Y1)++w::(Y2'++B) by rw [hYY,hw];simp]
     exact gA _ w _ (by simp only [List.length_append,List.length_cons,List.length_nil];omega)
    have hwx:¬c w x<0:=by
     rcases q5 with g | g
     ·rw [hw,List.length_cons] at l2;omega
     ·rw [gw] at g;exact g
    refine srt_first W ?_ (fun y hy=>hV y ?_) hx hwx
    ·rw [←hw];exact (List.pairwise_append.1 (hYY▸sY)).2.1
    ·rw [hYY,hw];simp at hy ⊢;rcases hy with g | g<;>simp [g]
 refine ⟨Y1++x::Y2,?_,?_,?_⟩
 ·have hs:=smC_s (A++[x]++Y++B) A Y1 (Y2++B) x (by rw [hYY];simp) hl (a:=a) (r:=r) ha (by omega)
  have e1:IntKind.wrap .i64 (m-a)=1:=by rw [wrap_i64' (by omega)];omega
  have hd:A++x::(Y1++(Y2++B))=A++[x]++Y++B:=by rw [hYY];simp
  rw [hd] at hs
  rw [sm_eq,e1]
  refine joinO_eqr ?_
  rw [show (decide ((1:Int)=1))=true from rfl,cond_true,q1,joinO_inl,hs]
  simp
 ·rw [hYY];exact List.perm_middle
 ·refine srt_app (List.pairwise_append.1 (hYY▸sY)).1 (List.pairwise_cons.2 ⟨fun y hy=>c2 y hy,(List.pairwise_append.1 (hYY▸sY)).2.1⟩) fun y hy w hw => ?_
  rcases List.mem_cons.1 hw with rfl | hw
  ·exact c1 y hy
  ·exact (List.pairwise_append.1 (hYY▸sY)).2.2 y hy w hw
theorem sm_one2 (h:(List Bnd×(Int×(Int×Int)))→Option (List Bnd)) (A X B:List Bnd) (y:Bnd) (hX:2≤X.length) (hl:(A++X++[y]++B).length≤1000000) (hV:∀z∈A++X++[y]++B,V z) (sX:Srt (fun x y=>c x y<0) X) {a m b:Int} (ha:a=(A.length:Int)) (hm:m=((A.length+X.length:Nat):Int)) (hb:b=((A.length+X.length+1:Nat):Int)) :
 ∃Z,slices_symMergeCmpFunc_api_Binding_B h (A++X++[y]++B,(a,(m,b)))=some (A++Z++B)∧Z.Perm (X++[y])∧Srt (fun x y=>c x y<0) Z:=by
 have hlen:=hl
 simp only [List.length_append,List.length_cons,List.length_nil] at hlen
 have hy:V y:=hV y (by simp)
 obtain ⟨r,q1,q2,q3,q4,q5⟩:=smD_s hc (δ:=Unit ⊕ List Bnd) (A++X++[y]++B) hl hV (a:=a) (m:=m) (by omega) (by omega) (by simp only [List.length_append,List.length_cons,List.length_nil];omega)
 obtain ⟨X1,X2,hXX,l1⟩:=split_at X (k:=(r-a).toNat) (by omega)
 have l2:X1.length+X2.length=X.length:=by rw [hXX,List.length_append]
 have gm:(A++X++[y]++B).getD m.toNat dB=y:=by
  rw [show A++X++[y]++B=(A++X)++y::B by simp];exact gA _ y _ (by simp only [List.length_append];omega)
 rw [gm] at q4 q5
 have c1:∀z∈X1,¬c y z<0:=by
  by_cases h0:X1=[]
  ·rw [h0];intro z hz;cases hz
  ·obtain ⟨X1',z,hz⟩:=last_of h0
   have lz:X1'.length+1=X1.length:=by rw [hz];simp
   have gz:(A++X++[y]++B).getD (r-1).toNat dB=z:=by
    rw [show A++X++[y]++B=(A++X1')++z::(X2++[y]++B) by rw [hXX,hz];simp]
    exact gA _ z _ (by simp only [List.length_append];omega)
   have hyz:¬c y z<0:=by
    rcases q4 with g | g
    ·omega
    ·rw [gz] at g;exact g
   rw [hz]
   refine srt_last W ?_ (fun q hq=>hV q ?_) hy hyz
   ·rw [←hz];exact (List.pairwise_append.1 (hXX▸sX)).1
   ·rw [hXX,hz];simp at hq ⊢;rcases hq with g | g<;>simp [g]
 have c2:∀z∈X2,¬c z y<0:=by
  cases hw:X2 with
  | nil=>intro z hz;cases hz
  | cons w X2' =>
    have gw:(A++X++[y]++B).getD r.toNat dB=w:=by
     rw [show A++X++[y]++B=(A++X1)++w::(X2'++[y]++B) by rw [hXX,hw];simp]
     exact gA _ w _ (by simp only [List.length_append];omega)
    have hwV:V w:=hV w (by rw [hXX,hw];simp)
    have hyw:c y w<0:=by
     rcases q5 with g | g
     ·rw [hw,List.length_cons] at l2;omega
     ·rw [gw] at g;exact Classical.not_not.1 g
    refine srt_first W ?_ (fun q hq=>hV q ?_) hy (W.asym y w hy hwV hyw)
    ·rw [←hw];exact (List.pairwise_append.1 (hXX▸sX)).2.1
    ·rw [hXX,hw];simp at hq ⊢;rcases hq with g | g<;>simp [g]
 refine ⟨X1++y::X2,?_,?_,?_⟩
 ·have hs:=smE_s (A++X++[y]++B) (A++X1) X2 B y (by rw [hXX];simp) hl (m:=m) (r:=r) (by rw [List.length_append];omega) (by rw [List.length_append];omega)
  have e1:IntKind.wrap .i64 (b-m)=1:=by rw [wrap_i64' (by omega)];omega
  have e0:¬IntKind.wrap .i64 (m-a)=1:=by rw [wrap_i64' (by omega)];omega
  have hd:A++X1++X2++y::B=A++X++[y]++B:=by rw [hXX];simp
  rw [hd] at hs
  rw [sm_eq,e1]
  refine joinO_eq (a:=()) (by rw [decide_eq_false e0,cond_false]) ?_
  refine joinO_eqr ?_
  rw [show (decide ((1:Int)=1))=true from rfl,cond_true,q1,joinO_inl,hs]
  simp
 ·rw [hXX]
  refine List.perm_middle.trans ?_
  exact (List.perm_append_comm (l₁:=[y]) (l₂:=X1++X2))
 ·refine srt_app (List.pairwise_append.1 (hXX▸sX)).1 (List.pairwise_cons.2 ⟨fun z hz=>c2 z hz,(List.pairwise_append.1 (hXX▸sX)).2.1⟩) fun z hz w hw => ?_
  rcases List.mem_cons.1 hw with rfl | hw
  ·exact c1 z hz
  ·exact (List.pairwise_append.1 (hXX▸sX)).2.2 z hz w hw
theorem sm_spec:∀(k:Nat) (A X Y B:List Bnd),X.length+Y.length≤k→X≠[]→Y≠[]→(A++X++Y++B).length≤1000000→(∀y∈A++X++Y++B,V y)→Srt (fun x y=>c x y<0) X→Srt (fun x y=>c x y<0) Y→∀ {a m b:Int},a=(A.length:Int)→m=((A.length+X.length:Nat):Int)→b=((A.length+X.length+Y.length:Nat):Int) →
 ∃Z,slices_symMergeCmpFunc_api_Binding_N k (A++X++Y++B,(a,(m,b)))=some (A++Z++B)∧Z.Perm (X++Y)∧Srt (fun x y=>c x y<0) Z
 | 0,A,X,Y,B,hk,hX,hY,hl,hV,sX,sY,a,m,b,ha,hm,hb=>by cases X with | nil=>exact (hX rfl).elim | cons _ _=>simp at hk
 | k+1,A,X,Y,B,hk,hX,hY,hl,hV,sX,sY,a,m,b,ha,hm,hb=>by
   have hx0:0<X.length:=List.length_pos_iff.2 hX
   have hy0:0<Y.length:=List.length_pos_iff.2 hY
   show ∃Z,slices_symMergeCmpFunc_api_Binding_B (slices_symMergeCmpFunc_api_Binding_N k) (A++X++Y++B,(a,(m,b)))=some (A++Z++B)∧Z.Perm (X++Y)∧Srt (fun x y=>c x y<0) Z
   by_cases h1:X.length=1
   ·obtain ⟨x,rfl⟩:=List.length_eq_one_iff.1 h1
    exact sm_one1 hc W _ A Y B x hY hl hV sY ha (by rw [hm];rfl) (by rw [hb];rfl)
   by_cases h2:Y.length=1
   ·obtain ⟨y,rfl⟩:=List.length_eq_one_iff.1 h2
    exact sm_one2 hc W _ A X B y (by omega) hl hV sX ha hm (by rw [hb];rfl)
   have hlen:=hl
   simp only [List.length_append] at hlen
   obtain ⟨mid,hmid⟩:∃mid,mid=(a+b) / 2:=⟨_,rfl⟩
   obtain ⟨n,hn⟩:∃n,n=mid+m:=⟨_,rfl⟩
   obtain ⟨lo,hi,hlh⟩:∃lo hi:Int,(m > mid∧hi=mid∧lo=n-b)∨(¬m > mid∧hi=m∧lo=a):=by
    by_cases g:m > mid
    ·exact ⟨_,_,.inl ⟨g,rfl,rfl⟩⟩
    ·exact ⟨_,_,.inr ⟨g,rfl,rfl⟩⟩
   obtain ⟨s,q1,q2,q3,q4,q5⟩:=smF_s hc (δ:=List Bnd) (A++X++Y++B) hl hV (n:=n) (lo0:=lo) (hi0:=hi) (by omega) (by omega) (by simp only [List.length_append];omega) (by simp only [List.length_append];omega) (by omega) (by omega)
   have hs1:a≤s∧s≤m∧m≤n-s∧n-s≤b:=by omega
   obtain ⟨X1,X2,hXX,l1⟩:=split_at X (k:=(s-a).toNat) (by omega)
   obtain ⟨Y1,Y2,hYY,l3⟩:=split_at Y (k:=(n-s-m).toNat) (by omega)
   have l2:X1.length+X2.length=X.length:=by rw [hXX,List.length_append]
   have l4:Y1.length+Y2.length=Y.length:=by rw [hYY,List.length_append]
   have sX':=hXX▸sX
   have sY':=hYY▸sY
   have hV':∀y∈A++X1++X2++Y1++Y2++B,V y:=fun y hy=>hV y (by rw [hXX,hYY];simpa using hy)
   have c1:∀x∈X1,∀y∈Y2,¬c y x<0:=by
    by_cases h0:X1=[]
    ·rw [h0];intro x hx;cases hx
    cases hw:Y2 with
    | nil=>intro x _ y hy;cases hy
    | cons w Y2' =>
      obtain ⟨X1',z,hz⟩:=last_of h0
      have lz:X1'.length+1=X1.length:=by rw [hz];simp
      have lw:Y2.length=Y2'.length+1:=by rw [hw];rfl
      have gz:(A++X++Y++B).getD (s-1).toNat dB=z:=by
       rw [show A++X++Y++B=(A++X1')++z::(X2++Y++B) by rw [hXX,hz];simp]
       exact gA _ z _ (by simp only [List.length_append];omega)
      have gw:(A++X++Y++B).getD (n-1-(s-1)).toNat dB=w:=by
       rw [show A++X++Y++B=(A++X++Y1)++w::(Y2'++B) by rw [hYY,hw];simp]
       exact gA _ w _ (by simp only [List.length_append];omega)
      have hwz:¬c w z<0:=by
       rcases q4 with g | g
       ·omega
       ·rw [gz,gw] at g;exact g
      have hwV:V w:=hV' w (by rw [hw];simp)
      have k1:=srt_last W (a:=X1') (z:=z) (by rw [←hz];exact (List.pairwise_append.1 sX').1) (fun q hq=>hV' q (by rw [hz];simp at hq ⊢;rcases hq with g | g<;>simp [g])) hwV hwz
      intro x hx y hy
      refine srt_first W (by rw [←hw];exact (List.pairwise_append.1 sY').2.1) (fun q hq=>hV' q (by rw [hw];simp at hq ⊢;rcases hq with g | g<;>simp [g])) (hV' x (by simp [hx])) (k1 x (by rw [←hz];exact hx)) y hy
   have c2:∀y∈Y1,∀x∈X2,¬c x y<0:=by
    by_cases h0:Y1=[]
    ·rw [h0];intro x hx;cases hx
    cases hw:X2 with
    | nil=>intro y _ x hx;cases hx
    | cons w X2' =>
      obtain ⟨Y1',z,hz⟩:=last_of h0
      have lz:Y1'.length+1=Y1.length:=by rw [hz];simp
      have lw:X2.length=X2'.length+1:=by rw [hw];rfl
      have gz:(A++X++Y++B).getD (n-1-s).toNat dB=z:=by
       rw [show A++X++Y++B=(A++X++Y1')++z::(Y2++B) by rw [hYY,hz];simp]
       exact gA _ z _ (by simp only [List.length_append];omega)
      have gw:(A++X++Y++B).getD s.toNat dB=w:=by
       rw [show A++X++Y++B=(A++X1)++w::(X2'++Y++B) by rw [hXX,hw];simp]
       exact gA _ w _ (by simp only [List.length_append];omega)
      have hzV:V z:=hV' z (by rw [hz];simp)
      have hwV:V w:=hV' w (by rw [hw];simp)
      have hzw:c z w<0:=by
       rcases q5 with g | g
       ·omega
       ·rw [gz,gw] at g;exact Classical.not_not.1 g
      have k1:=srt_last W (a:=Y1') (z:=z) (by rw [←hz];exact (List.pairwise_append.1 sY').1) (fun q hq=>hV' q (by rw [hz];simp at hq ⊢;rcases hq with g | g<;>simp [g])) hwV (W.asym z w hzV hwV hzw)
      intro y hy x hx
      refine srt_first W (by rw [←hw];exact (List.pairwise_append.1 sX').2.1) (fun q hq=>hV' q (by rw [hw];simp at hq ⊢;rcases hq with g | g<;>simp [g])) (hV' y (by simp [hy])) (k1 y (by rw [←hz];exact hy)) x hx
   -- turned
   obtain ⟨D1,hD1⟩:∃D1,D1=A++X1++Y1++(X2++Y2++B):=⟨_,rfl⟩
   have lD1:D1.length=(A++X++Y++B).length:=by rw [hD1];simp only [List.length_append];omega
   -- the left half
   have left:∃Z1,Z1.Perm (X1++Y1)∧Srt (fun x y=>c x y<0) Z1∧(a<s→s<mid→slices_symMergeCmpFunc_api_Binding_N k (D1,(a,(s,mid)))=some (A++Z1++(X2++Y2++B)))∧(¬(a<s∧s<mid)→D1=A++Z1++(X2++Y2++B)):=by
    by_cases g:a<s∧s<mid
    ·obtain ⟨Z1,p1,p2,p3⟩:=sm_spec k A X1 Y1 (X2++Y2++B) (by omega) (by rintro rfl;simp at l1;omega) (by rintro rfl;simp at l3;omega) (by simp only [List.length_append];omega) (fun y hy=>hV' y (by simp at hy ⊢;rcases hy with g | g | g | g | g | g<;>simp [g])) (List.pairwise_append.1 sX').1 (List.pairwise_append.1 sY').1 (a:=a) (m:=s) (b:=mid) ha (by omega) (by omega)
     exact ⟨Z1,p2,p3,fun _ _=>by rw [hD1];exact p1,fun k=>(k g).elim⟩
    ·refine ⟨X1++Y1,List.Perm.refl _,?_,fun g1 g2=>(g ⟨g1,g2⟩).elim,fun _=>by rw [hD1];simp⟩
     by_cases g1:a<s
     ·have:Y1=[]:=List.length_eq_zero_iff.1 (by omega)
      rw [this,List.append_nil];exact (List.pairwise_append.1 sX').1
     ·have:X1=[]:=List.length_eq_zero_iff.1 (by omega)
      rw [this,List.nil_append];exact (List.pairwise_append.1 sY').1
   obtain ⟨Z1,p1,p2,p3,p4⟩:=left
   have lZ1:Z1.length=X1.length+Y1.length:=by rw [p1.length_eq,List.length_append]
   obtain ⟨D2,hD2⟩:∃D2,D2=A++Z1++(X2++Y2++B):=⟨_,rfl⟩
   have lD2:D2.length=(A++X++Y++B).length:=by rw [hD2];simp only [List.length_append];omega
   have right:∃Z2,Z2.Perm (X2++Y2)∧Srt (fun x y=>c x y<0) Z2∧(mid<n-s→n-s<b→slices_symMergeCmpFunc_api_Binding_N k (D2,(mid,(n-s,b)))=some (A++Z1++Z2++B))∧(¬(mid<n-s∧n-s<b)→D2=A++Z1++Z2++B):=by
    by_cases g:mid<n-s∧n-s<b
    ·obtain ⟨Z2,r1,r2,r3⟩:=sm_spec k (A++Z1) X2 Y2 B (by omega) (by rintro rfl;simp at l2;omega) (by rintro rfl;simp at l4;omega) (by simp only [List.length_append];omega) (fun y hy=>by
      have:y∈A∨y∈Z1∨y∈X2∨y∈Y2∨y∈B:=by simpa [or_assoc] using hy
      rcases this with g | g | g | g | g
      ·exact hV' y (by simp [g])
      ·have:=p1.mem_iff.1 g
       exact hV' y (by simp at this ⊢;rcases this with g | g<;>simp [g])
      ·exact hV' y (by simp [g])
      ·exact hV' y (by simp [g])
      ·exact hV' y (by simp [g])) (List.pairwise_append.1 sX').2.1 (List.pairwise_append.1 sY').2.1 (a:=mid) (m:=n-s) (b:=b) (by rw [List.length_append];omega) (by rw [List.length_append];omega) (by rw [List.length_append];omega)
     exact ⟨Z2,r2,r3,fun _ _=>by rw [hD2,show A++Z1++(X2++Y2++B)=A++Z1++X2++Y2++B by simp];exact r1,fun k=>(k g).elim⟩
    ·refine ⟨X2++Y2,List.Perm.refl _,?_,fun g1 g2=>(g ⟨g1,g2⟩).elim,fun _=>by rw [hD2];simp⟩
     by_cases g1:mid<n-s
     ·have:Y2=[]:=List.length_eq_zero_iff.1 (by omega)
      rw [this,List.append_nil];exact (List.pairwise_append.1 sX').2.1
     ·have:X2=[]:=List.length_eq_zero_iff.1 (by omega)
      rw [this,List.nil_append];exact (List.pairwise_append.1 sY').2.1
   obtain ⟨Z2,r1,r2,r3,r4⟩:=right
   obtain ⟨m1,m2⟩:=merge_parts W sX' sY' p1 r1 p2 r2 c1 c2
   refine ⟨Z1++Z2,?_,by rw [hXX,hYY];exact m1,m2⟩
   have e1:¬IntKind.wrap .i64 (m-a)=1:=by rw [wrap_i64' (by omega)];omega
   have e2:¬IntKind.wrap .i64 (b-m)=1:=by rw [wrap_i64' (by omega)];omega
   have e3:Int.fdiv (IntKind.wrap .u64 (IntKind.wrap .i64 (a+b))) 2=mid:=by rw [wrap_i64' (by omega),half_e (by omega) (by omega),hmid]
   have e4:IntKind.wrap .i64 mid=mid:=wrap_i64' (by omega)
   have e5:IntKind.wrap .i64 (mid+m)=n:=by rw [wrap_i64' (by omega),hn]
   have e6:IntKind.wrap .i64 (n-s)=n-s:=wrap_i64' (by omega)
   rw [sm_eq]
   rw [show A++(Z1++Z2)++B=A++Z1++Z2++B by simp]
   refine joinO_eq (a:=()) (by rw [decide_eq_false e1,cond_false]) ?_
   refine joinO_eq (a:=()) (by rw [decide_eq_false e2,cond_false]) ?_
   rw [e3,bindO_some,e4,e5,bindO_some]
   refine joinO_eq (a:=(hi,lo)) ?_ ?_
   ·rcases hlh with ⟨g,rfl,rfl⟩ | ⟨g,rfl,rfl⟩
    ·rw [decide_eq_true g,cond_true,wrap_i64' (by omega)]
    ·rw [decide_eq_false g,cond_false]
   refine joinO_eq (a:=s) q1 ?_
   rw [e6,bindO_some]
   refine joinO_eq (a:=D1) ?_ ?_
   ·by_cases g:s<m∧m<n-s
    ·have hr:=rot_spec (A++X1) X2 Y1 (Y2++B) (by rintro rfl;simp at l2;omega) (by rintro rfl;simp at l3;omega) (by simp only [List.length_append];omega) (a:=s) (m:=m) (b:=n-s) (by rw [List.length_append];omega) (by rw [List.length_append];omega) (by rw [List.length_append];omega)
     have hd:A++X1++X2++Y1++(Y2++B)=A++X++Y++B:=by rw [hXX,hYY];simp
     have hd2:A++X1++Y1++X2++(Y2++B)=D1:=by rw [hD1];simp
     rw [hd,hd2] at hr
     simp (disch:=(first | omega | (simp only [LNl];omega))) only [↓SDl,SDr,if_pos,g.1,g.2,hr]
    ·have hd:A++X++Y++B=D1:=by
      by_cases g1:s<m
      ·have:Y1=[]:=List.length_eq_zero_iff.1 (by omega)
       rw [hD1,hXX,hYY,this];simp
      ·have:X2=[]:=List.length_eq_zero_iff.1 (by omega)
       rw [hD1,hXX,hYY,this];simp
     rw [hd]
     by_cases g1:s<m
     ·have g2:¬m<n-s:=fun k=>g ⟨g1,k⟩
      simp (disch:=(first | omega | (simp only [LNl];omega))) only [↓SDl,SDr,g1,g2,if_pos,if_neg]
     ·simp (disch:=(first | omega | (simp only [LNl];omega))) only [↓SDl,SDr,g1,if_neg]
   refine joinO_eq (a:=D2) ?_ ?_
   ·by_cases g1:a<s
    ·by_cases g2:s<mid
     ·have hr:=p3 g1 g2
      rw [←hD2] at hr
      simp (disch:=(first | omega | (simp only [LNl];omega))) only [↓SDl,SDr,if_pos,g1,g2,hr,lD1]
     ·have hr:=p4 (fun k=>g2 k.2)
      rw [←hD2] at hr
      simp (disch:=(first | omega | (simp only [LNl];omega))) only [↓SDl,SDr,g1,g2,if_pos,if_neg,hr]
    ·have hr:=p4 (fun k=>g1 k.1)
     rw [←hD2] at hr
     simp (disch:=(first | omega | (simp only [LNl];omega))) only [↓SDl,SDr,g1,if_neg,hr]
   ·by_cases g1:mid<n-s
    ·by_cases g2:n-s<b
     ·have hr:=r3 g1 g2
      simp (disch:=(first | omega | (simp only [LNl];omega))) only [↓SDl,SDr,if_pos,g1,g2,hr,lD2]
     ·have hr:=r4 (fun k=>g2 k.2)
      simp (disch:=(first | omega | (simp only [LNl];omega))) only [↓SDl,SDr,g1,g2,if_pos,if_neg,hr]
    ·have hr:=r4 (fun k=>g1 k.1)
     simp (disch:=(first | omega | (simp only [LNl];omega))) only [↓SDl,SDr,g1,if_neg,hr]
end
end Go.Proofs.Ytlaccfegaoaakaa
