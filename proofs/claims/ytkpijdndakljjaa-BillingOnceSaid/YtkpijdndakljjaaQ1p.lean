import Derived.Test.YtkpijdndakljjaaV6p
import Derived.Test.YtkpijdndakljjaaZrp
import Derived.Test.YtkpijdndakljjaaFp
import Derived.Test.YtkpijdndakljjaaXBp
set_option linter.unusedSimpArgs false
set_option linter.unusedVariables false
noncomputable section
namespace Go.Proofs.Ytkpijdndakljjaa
open Go.RowKit
set_option maxRecDepth 100000
theorem IJ {p:Pr} {C:Qh} {T:Ty} {q:Nat->Bool} {N:Nat} {Z:SL->Prop} {Q:Exit->SL->Prop}:∀(xs ys:List Code) (s:SL),mW p C T iY q N Z (xs++ys) Q s=mW p C T iY q N (fun s'=>mW p C T iY q N Z ys Q s') xs Q s
 | [],ys,s=>rfl
 | x::xs,ys,s=>by
   rw [List.cons_append,mW,mW];have:(fun s'=>mW p C T iY q N Z (xs++ys) Q s')=fun s'=>mW p C T iY q N (fun s'=>mW p C T iY q N Z ys Q s') xs Q s':=funext fun s'=>IJ xs ys s';rw [this]
def bT:((List Ra×Int)×(List UInt8×(Int×Int)))->Option (Int×Int) :=
 fun ((rs,fr),(num,(a,b))) =>
 ah (aW (rs,fr)) fun v =>
 bif !v then some ((0:Int),(2:Int)) else
 ah (aU (a,((0:Int),(281474976710656:Int)))) fun x =>
 bif !x then some ((0:Int),(3:Int)) else
 ah (aU (b,(a,(281474976710656:Int)))) fun y =>
 bif !y then some ((0:Int),(3:Int)) else
 ah (bW (a,b)) fun se =>
 bif decide (se > 1000000) then some ((0:Int),(4:Int)) else
 ah (gX ((rs,fr),num)) fun (ix,ok) =>
 bif !ok then some ((0:Int),(8:Int)) else
 bif decide (0<=ix/\ix<((rs.length:Nat):Int)) then
 ah (jL (rs.getD ix.toNat ([],(0,(0,(0,[])))),(fr,se))) fun np =>
 bif decide (np=0) then some ((0:Int),(0:Int)) else
 bif decide (0<=np/\np<=4000000000000000000) then
 ah (EP (rs.getD ix.toNat ([],(0,(0,(0,[]))))).2.2.2.2 (rs.getD ix.toNat ([],(0,(0,(0,[]))))).2.1 (sZ (IntKind.wrap .i64 (a+IntKind.wrap .i64 (1000*fr))) (rs.getD ix.toNat ([],(0,(0,(0,[]))))).2.2.1 (rs.getD ix.toNat ([],(0,(0,(0,[]))))).2.2.2.1) np.toNat) fun s =>
 some (s,(0:Int))
 else none
 else none
theorem qU {α β:Type} {x:Option α} {f:α->Option β} {r:β} (h:ah x f=some r):∃a,x=some a/\f a=some r:=by
 cases x with
 | none=>cases h
 | some a=>exact ⟨a,rfl,h⟩
theorem alF {rs:List Ra} {fr:Int} {num:List UInt8} {a b:Int} {r:Int×Int} (hG:bT ((rs,fr),(num,(a,b)))=some r) :
 fB Try.prog iY 77 [.agg [.d (.dl (aI UR rs) rs.length none),.d (.val (.int .i64 fr))],.d (.val (.string ⟨num.toArray⟩)),.d (.val (.int .i64 a)),.d (.val (.int .i64 b))] [] (.tup [.d (.val (.int .i64 r.1)),.d (.val (.int .u8 r.2))]) []:=by
 unfold bT at hG;obtain ⟨v,hV,hG⟩:=qU hG;cases v with
 | false=>cases hG;exact ahM rfl rfl rfl hV
 | true =>
 obtain ⟨x,h1,hG⟩:=qU hG;cases x with
 | false=>cases hG;exact ahN rfl rfl rfl hV h1
 | true =>
 obtain ⟨y,h2,hG⟩:=qU hG;cases y with
 | false=>cases hG;exact ahO rfl rfl rfl hV h1 h2
 | true =>
 obtain ⟨se,h3,hG⟩:=qU hG;by_cases h4:se > 1000000
 ·simp only [Bool.not_true,cond_false] at hG;rw [decide_eq_true h4] at hG;cases hG;exact ahP rfl rfl rfl hV h1 h2 h3 h4
 simp only [Bool.not_true,cond_false] at hG;rw [decide_eq_false h4] at hG;obtain ⟨⟨ix,ok⟩,hF,hG⟩:=qU hG;cases ok with
 | false=>cases hG;exact ahQ rfl rfl rfl hV h1 h2 h3 (by omega) hF
 | true =>
 by_cases h5:¬(0<=ix/\ix<((rs.length:Nat):Int))
 ·simp only [Bool.not_true,cond_false] at hG;rw [decide_eq_false h5] at hG;cases hG
 rw [Classical.not_not] at h5;simp only [Bool.not_true,cond_false] at hG;rw [decide_eq_true h5] at hG;obtain ⟨i,hi⟩:∃i:Nat,ix=(i:Int):=⟨ix.toNat,by omega⟩
 obtain ⟨np,hPi,hG⟩:=qU hG;rw [hi,Int.toNat_natCast] at hG hPi;by_cases h6:np=0
 ·skip
  rw [decide_eq_true h6] at hG;cases hG;exact ahR rfl rfl rfl hV h1 h2 h3 (by omega) hF hi (by omega) rfl rfl rfl rfl rfl rfl rfl hPi h6
 rw [decide_eq_false h6] at hG;by_cases h7:¬(0<=np/\np<=4000000000000000000)
 ·rw [decide_eq_false h7] at hG;cases hG
 rw [Classical.not_not] at h7;simp only [cond_false] at hG;rw [decide_eq_true h7] at hG;obtain ⟨s,hsum,hG⟩:=qU hG;cases hG;obtain ⟨n,hn⟩:∃n:Nat,np=(n:Int):=⟨np.toNat,by omega⟩
 rw [hn,Int.toNat_natCast] at hsum;intro E w vs hE hw hs hrel;have hlen:=gq _ _ hrel;have hvs:vs.size=4:=by rw [<-Array.length_toList];exact hlen
 refine callsIn_wide.1 (callsIn_of_wp_marks (n:=9) Try.func77 (c:=BX) rfl trivial ?_ rfl);have hS:sU iY 87 E {tmps:=vs++Array.replicate (87-vs.size) undef,defers:=[]} w (⟨87,jw 0 [.agg [.d (.dl (aI UR rs) rs.length none),.d (.val (.int .i64 fr))],.d (.val (.string ⟨num.toArray⟩)),.d (.val (.int .i64 a)),.d (.val (.int .i64 b))],[]⟩:SL).S:=by
  refine ⟨hw,hE,hs,?_,rfl,fun t => ?_⟩
  ·simp only [Array.size_append,Array.size_replicate];omega
  ·show Rel _ (match look t (jw 0 _) with | some x=>x | none => .junk) _;rw [mY];simp only [Nat.zero_le,if_true,Nat.sub_zero];generalize hargs:[AV.agg [.d (.dl (aI UR rs) rs.length none),.d (.val (.int .i64 fr))],.d (.val (.string ⟨num.toArray⟩)),.d (.val (.int .i64 a)),.d (.val (.int .i64 b))]=args at *
   cases hx:args[t]? with
   | none=>simp only;rw [Rel];trivial
   | some x =>
     obtain ⟨u,k1,k2⟩:=rQ _ _ t x hrel hx;have ht:t<vs.size:=by
      have:=(List.getElem?_eq_some_iff.1 k1).1;simpa using this
     rw [Array.getD_eq_getD_getElem?,Array.getElem?_append_left ht];have k1':vs[t]? = some u:=by simpa using k1
     rw [k1'];exact k2
 rw [<-LY 11 BX];have hpre:=alv (pl:=[]) (at0:=IntKind.wrap .i64 (a+IntKind.wrap .i64 (1000*fr))) (hp:=rfl) (F:=aS Try.prog) (C:=yV Try.prog iY 87 (aJ [])) rfl rfl rfl hV h1 h2 h3 (by omega) hF hi (by omega) rfl rfl rfl rfl rfl rfl rfl hPi h6 rfl rfl rfl;have hpc:alu 11 BX=(spine 11 BX).1++[alC]:=by
  unfold alu;rw [Zi]
 rw [hpc,IJ] at hpre;refine wpIn_wide.2 (EK KK (E0:=E) (w0:=w) hE (fun s' E' a' w' hZ hS' hA' => ?_) (fun e s' E' a' w' _ hq _ _=>hq.elim) _ _ hpre E _ w hS (dA.refl _ _));rw [Zi];refine (wpIn_wide (n:=9)).1 (wpIn_seq (wpIn_seq (wpIn_wide.2 ?_)));unfold mW at hZ;rw [iI] at hZ;refine wp_mono (je KK.hq KK.hdp KK.hm KK.hT alC _ s' hZ E w E' a' w' hE hS' hA') fun e a2 w2 ⟨_,E2,⟨sl,h1,h2⟩,hS2,hA2⟩ => ?_;subst h1;cases e with
 | normal =>
   unfold aaw mW at h2;obtain ⟨E3,hS3,hA3⟩:=h2 E w E2 a2 w2 hE hS2 hA2;exact ahS hE rfl rfl hn (by omega) hsum hS3 hA3
 | _=>exact h2.elim
theorem aoC:aV Try.prog 77 ⟨[(.tmp 0 true [(.dat (.list UR)),(.dat (.int .i64))]),(.tmp 1 false [(.dat .str)]),(.tmp 2 false [(.dat (.int .i64))]),(.tmp 3 false [(.dat (.int .i64))])],[(.tmp 0 false [(.dat (.int .i64))]),(.tmp 1 false [(.dat (.int .u8))])],bT⟩ :=
 aV.mk (by kernel_rfl) rfl rfl (fun _ _ h=>alF h)
set_option maxRecDepth 1000000
set_option maxHeartbeats 0
def alG:List (Nat×PL):=[]
def aZ:(Int×(Int×Int))->Option Bool:=fun (a1,(a2,a3)) =>
 bif (decide (a1>=a2)) then
 some (decide (a1<=a3))
 else
 some false
def alH:List (Nat×CE):=[]
theorem abk:dZ Try.prog alH:=trivial
def UW:CE:=⟨[(.tmp 0 false [dI]),(.tmp 1 false [dI]),(.tmp 2 false [dI])],[(.tmp 0 false [dO])],aZ⟩
theorem Mc:aV Try.prog 41 UW :=nT alG fC abk Try.func41
def alI:List (Nat×PL):=[(134480385,(.carry [.tmp 3 false [dI]])),(35253225785350,(.carry [.tmp 3 false [dI]]))]
def eF:(List iT)->Option Int:=fun a1 =>
 aA (ay (fun v2 =>
 bif (decide (v2<(a1.length:Int))) then
 bif (decide ((0<=v2)/\(v2<(a1.length:Int)))) then
 ah a1[v2.toNat]? fun x3 =>
 bif (decide (x3.2.2.2.2.2.2.1=0)) then
 some (Sum.inl (IntKind.wrap .i64 (v2+(1:Int))))
 else
 au (some (Sum.inl v2))
 else none
 else
 au (some (Sum.inl v2))) (0:Int)) fun v5 =>
 some v5
def alJ:List (Nat×CE):=[]
theorem abl:dZ Try.prog alJ:=trivial
def ahT:CE:=⟨[(.tmp 0 false [(.dat (.list nZ))])],[(.tmp 0 false [dI])],eF⟩
theorem aeO:aV Try.prog 43 ahT :=nT alI fC abl Try.func43
def alK:List (Nat×PL):=[(262657,(.carry [])),(134480385,(.carry []))]
def kK:((iT)×Int)->Option Bool:=fun ((a1,(a2,(a3,(a4,(a5,(a6,(a7,(a8,(a9,a10))))))))),a11) =>
 aA (ah (aZ ((a1.length:Int),((1:Int),(200:Int)))) fun x12 =>
 bif (!x12) then
 au (some false)
 else
 bif (decide ((a2.length:Int) > 200)) then
 au (some false)
 else
 bif (decide ((a3.length:Int) > 200)) then
 au (some false)
 else
 some (Sum.inl ())) fun _ =>
 aA (ah (aZ (a4,((0:Int),a11))) fun x13 =>
 bif (!x13) then
 au (some false)
 else
 bif (decide (a5≠(-1:Int))) then
 ah (aZ (a5,(a4,a11))) fun x14 =>
 bif (!x14) then
 au (some false)
 else
 some (Sum.inl ())
 else
 some (Sum.inl ())) fun _ =>
 ah (aZ (a6,((dM a4 a5),a11))) fun x15 =>
 bif (!x15) then
 some false
 else
 bif (decide (a7=0)) then
 bif (decide (a8=0)) then
 bif (decide (a9=0)) then
 some (!a10)
 else
 some false
 else
 some false
 else
 bif (decide (a5≠(-1:Int))) then
 bif (decide (a9>=0)) then
 ah (bW (a5,a6)) fun x16 =>
 some (decide (a8=x16))
 else
 some false
 else
 some false
def alL:CE:=⟨[(.tmp 0 false [dI]),(.tmp 1 false [dI])],[(.tmp 0 false [dI])],bW⟩
def alM:List (Nat×CE):=[(76,alL),(41,UW)]
theorem abm:dZ Try.prog alM:=⟨UH,Mc,trivial⟩
def aoD:CE:=⟨[(.tmp 0 true [dS,dS,dS,dI,dI,dI,dI,dI,dI,dO]),(.tmp 1 false [dI])],[(.tmp 0 false [dO])],kK⟩
theorem aoE:aV Try.prog 55 aoD :=nT alK fC abm Try.func55
def alN:List (Nat×PL):=[(262657,(.carry [])),(18049651735527937,(.carry [.drop 4])),(2422583247133816450713606,(.carry [.tmp 31 false [dI],.tmp 4 false [dI]]))]
def dP:(zl)->Option Bool:=fun (a1,(a2,(a3,(a4,(a5,a6))))) =>
 aA (ah (gB (a1,(a2,a3))) fun x7 =>
 bif (!x7) then
 au (some false)
 else
 ah (aZ (a6,((0:Int),(1099511627776:Int)))) fun x8 =>
 bif (!x8) then
 au (some false)
 else
 ah (aZ (a5,((0:Int),(1048576:Int)))) fun x9 =>
 bif (!x9) then
 au (some false)
 else
 some (Sum.inl ())) fun _ =>
 ah (eF a4) fun x10 =>
 bif (decide (x10 > 256)) then
 some false
 else
 aA (ay (fun (v11,v12) =>
 bif (decide (v11<(a4.length:Int))) then
 bif (decide ((0<=v11)/\(v11<(a4.length:Int)))) then
 ah a4[v11.toNat]? fun x13 =>
 ah (kK ((x13.1,(x13.2.1,(x13.2.2.1,(x13.2.2.2.1,(x13.2.2.2.2.1,(x13.2.2.2.2.2.1,(x13.2.2.2.2.2.2.1,(x13.2.2.2.2.2.2.2.1,(x13.2.2.2.2.2.2.2.2.1,x13.2.2.2.2.2.2.2.2.2))))))))),a6)) fun x14 =>
 bif (!x14) then
 au (au (some false))
 else
 bif (decide (v11<x10)) then
 bif (decide (v11 > 0)) then
 ah (some (IntKind.wrap .i64 (v11-(1:Int)))) fun x15 =>
 bif (decide ((0<=x15)/\(x15<(a4.length:Int)))) then
 ah a4[x15.toNat]? fun x16 =>
 bif (!(Go.Op.bytesLess x16.1 x13.1)) then
 au (au (some false))
 else
 some (Sum.inl ((IntKind.wrap .i64 (v11+(1:Int))),v12))
 else none
 else
 some (Sum.inl ((IntKind.wrap .i64 (v11+(1:Int))),v12))
 else
 ah (aZ (x13.2.2.2.2.2.2.1,((IntKind.wrap .i64 (v12+(1:Int))),a5))) fun x20 =>
 bif (!x20) then
 au (au (some false))
 else
 some (Sum.inl ((IntKind.wrap .i64 (v11+(1:Int))),x13.2.2.2.2.2.2.1))
 else none
 else
 au (some (Sum.inl ()))) ((0:Int),(0:Int))) fun _ =>
 some true
def aoF:CE:=⟨[(.tmp 0 true [dY,dI,dI])],[(.tmp 0 false [dO])],gB⟩
def alO:List (Nat×CE):=[(54,aoF),(41,UW),(43,ahT),(55,aoD)]
theorem abn:dZ Try.prog alO:=⟨aeD,Mc,aeO,aoE,trivial⟩
def Xi:CE:=⟨[(.tmp 0 true [dY,dI,dI,(.dat (.list nZ)),dI,dI])],[(.tmp 0 false [dO])],dP⟩
theorem PI:aV Try.prog 12 Xi :=nT alN fC abn Try.func12
def alP:List (Nat×PL):=[(134479891,(.carry [.tmp 0 false [dI]])),(18049585431970305,(.carry [.drop 6,.tmp 5 false [dI]])),(4731590523478423373830,(.carry [.tmp 6 false [dI],.tmp 5 false [dI]]))]
def jc:((List iT)×LU)->Option (Int×Bool):=fun (a1,a2) =>
 aA (aA (ay (fun (v3,v4) =>
 bif (decide (v4<v3)) then
 ah (some (Int.fdiv (IntKind.wrap .u64 (IntKind.wrap .i64 (v4+v3))) (2:Int))) fun x7 =>
 bif (decide ((0<=(IntKind.wrap .i64 x7))/\((IntKind.wrap .i64 x7)<(a1.length:Int)))) then
 ah a1[(Int.toNat (IntKind.wrap .i64 x7))]? fun x9 =>
 bif (!(!(Go.Op.bytesLess x9.1 a2))) then
 some (Sum.inl (v3,(IntKind.wrap .i64 ((IntKind.wrap .i64 x7)+(1:Int)))))
 else
 some (Sum.inl ((IntKind.wrap .i64 x7),v4))
 else none
 else
 au (some (Sum.inl v4))) ((a1.length:Int),(0:Int))) fun v11 =>
 some (Sum.inl v11)) fun v12 =>
 bif (decide (v12<(a1.length:Int))) then
 bif (decide ((0<=v12)/\(v12<(a1.length:Int)))) then
 ah a1[v12.toNat]? fun x13 =>
 some (v12,(decide (x13.1=a2)))
 else none
 else
 some (v12,false)
def alQ:List (Nat×CE):=[]
theorem abo:dZ Try.prog alQ:=trivial
def aeP:CE:=⟨[(.tmp 0 false [(.dat (.list nZ))]),(.tmp 1 false [dS])],[(.tmp 0 false [dI]),(.tmp 1 false [dO])],jc⟩
theorem Zj:aV Try.prog 79 aeP :=nT alP fC abo Try.func79
def alR:List (Nat×PL):=[]
def jd:((zl)×LU)->Option (Int×Bool):=fun ((a1,(a2,(a3,(a4,(a5,a6))))),a7) =>
 ah (eF a4) fun x8 =>
 bif (decide ((0<=x8)/\(x8<=(a4.length:Int)))) then
 ah (jc ((List.take x8.toNat a4),a7)) fun (x11,x12) =>
 some (x11,x12)
 else none
def alS:List (Nat×CE):=[(43,ahT),(79,aeP)]
theorem abp:dZ Try.prog alS:=⟨aeO,Zj,trivial⟩
def ahU:CE:=⟨[(.tmp 0 true [dY,dI,dI,(.dat (.list nZ)),dI,dI]),(.tmp 1 false [dS])],[(.tmp 0 false [dI]),(.tmp 1 false [dO])],jd⟩
theorem aeQ:aV Try.prog 42 ahU :=nT alR fC abp Try.func42
def alT:List (Nat×PL):=[(134480385,(.carry [.tmp 5 false [(.own 10000006 5 vP)]])),(18049651601311750,(.carry [.tmp 13 false [dI],.tmp 5 false [(.own 10000005 5 vP)]])),(68853957121,(.carry [.tmp 5 false [(.own 10000003 5 vP)],.dead 10000006])),(2422583229119624904966657,(.carry [.tmp 8 false [dI],.tmp 5 false [(.own 10000004 5 vP)],.tmp 7 false [dI],.dead 10000005])),(9241421688456087558,(.carry [.tmp 32 false [dI],.tmp 5 false [(.own 10000001 5 vP)],.dead 10000006])),(85237069749509028565965992133042374662,(.carry [.tmp 8 false [dI],.tmp 5 false [(.own 10000002 5 vP)],.dead 10000005]))]
def fJ:(LN×(List LU))->Option LN:=fun (a1,a2) =>
 aA (ay (fun (v3,v4) =>
 bif (decide (v3<(a1.length:Int))) then
 aA (bif (decide ((0<=v3)/\(v3<(a1.length:Int)))) then
 ah a1[v3.toNat]? fun x5 =>
 bif (decide (v4.length<=v4.length)) then
 ay (fun (v6,v7) =>
 bif (decide (v6>=0)) then
 bif (decide (0<=v6)) then
 ah (some (Int.fdiv (IntKind.wrap .u64 x5) ((2:Int) ^ (Min.min v6.toNat 64)))) fun x9 =>
 bif (decide (v7.length<=v7.length)) then
 bif (decide (((List.length ((v7.take v7.length)++((IntKind.wrap .u8 x9)::([]:List Int))))*1)<=140737488355328)) then
 ah (some ((v7.take v7.length)++((IntKind.wrap .u8 x9)::([]:List Int)))) fun x11 =>
 bif (decide (x11.length<=x11.length)) then
 some (Sum.inl ((IntKind.wrap .i64 (v6-(8:Int))),(x11.take x11.length)))
 else none
 else none
 else none
 else none
 else
 au (bif (decide (v7.length<=v7.length)) then
 some (Sum.inl (v6,((v7.take v7.length),x5)))
 else none)) ((56:Int),(v4.take v4.length))
 else none
 else none) fun (v13,(v14,v15)) =>
 bif (decide (v14.length<=v14.length)) then
 some (Sum.inl ((IntKind.wrap .i64 (v3+(1:Int))),(v14.take v14.length)))
 else none
 else
 au (bif (decide (v4.length<=v4.length)) then
 some (Sum.inl (v4.take v4.length))
 else none)) ((0:Int),([]:List Int))) fun v17 =>
 aA (bif (decide (v17.length<=v17.length)) then
 ay (fun (v18,v19) =>
 bif (decide (v18<(a2.length:Int))) then
 bif (decide ((0<=v18)/\(v18<(a2.length:Int)))) then
 ah a2[v18.toNat]? fun x20 =>
 ah (some (Int.fdiv (x20.length:Int) (256:Int))) fun x21 =>
 ah (some (IntKind.wrap .u8 (x20.length:Int))) fun x23 =>
 bif (decide (v19.length<=v19.length)) then
 bif (decide (((List.length ((v19.take v19.length)++((IntKind.wrap .u8 x21)::(x23::([]:List Int)))))*1)<=140737488355328)) then
 ah (some ((v19.take v19.length)++((IntKind.wrap .u8 x21)::(x23::([]:List Int))))) fun x24 =>
 bif (decide (x24.length<=x24.length)) then
 bif (decide (((List.length ((x24.take x24.length)++(List.map (fun (x25:UInt8)=>(((UInt8.toNat x25):Nat):Int)) x20)))*1)<=140737488355328)) then
 ah (some ((x24.take x24.length)++(List.map (fun (x27:UInt8)=>(((UInt8.toNat x27):Nat):Int)) x20))) fun x26 =>
 bif (decide (x26.length<=x26.length)) then
 some (Sum.inl ((IntKind.wrap .i64 (v18+(1:Int))),(x26.take x26.length)))
 else none
 else none
 else none
 else none
 else none
 else none
 else
 au (bif (decide (v19.length<=v19.length)) then
 some (Sum.inl (v19.take v19.length))
 else none)) ((0:Int),(v17.take v17.length))
 else none) fun v29 =>
 bif (decide (v29.length<=v29.length)) then
 some (v29.take v29.length)
 else none
def alU:List (Nat×CE):=[]
theorem abq:dZ Try.prog alU:=trivial
def aeR:CE:=⟨[(.tmp 0 false [(.dat (.list dH))]),(.tmp 1 false [(.dat (.list .str))])],[(.tmp 0 false [dY])],fJ⟩
theorem Zk:aV Try.prog 45 aeR :=nT alT fC abq Try.func45
def alV:List (Nat×PL):=[]
def bY:((LN×(Int×Int))×(Int×LN))->Option ((LN×(Int×Int))×Int):=fun ((a1,(a2,a3)),(a4,a5)) =>
 bif (decide (a3>=1048576)) then
 some ((([]:List Int),((0:Int),(0:Int))),(10:Int))
 else
 ah (kX ((a1,(a2,a3)),(a4,a5))) fun ((x7,(x8,x9)),x10) =>
 some ((x7,(x8,x9)),x10)
def aoG:CE:=⟨[(.tmp 0 true [dY,dI,dI]),(.tmp 1 true [Gv,dY])],[(.tmp 0 true [dY,dI,dI]),(.tmp 1 false [Gv])],kX⟩
def alW:List (Nat×CE):=[(30,aoG)]
theorem abr:dZ Try.prog alW:=⟨aeE,trivial⟩
def aeS:CE:=⟨[(.tmp 0 true [dY,dI,dI]),(.tmp 1 false [Gv]),(.tmp 2 false [dY])],[(.tmp 0 true [dY,dI,dI]),(.tmp 1 false [Gv])],bY⟩
theorem Zl:aV Try.prog 44 aeS :=nT alV fC abr Try.func44
def alX:List (Nat×PL):=[]
def oL:(Int×(LU×(LU×LU)))->Option (iT):=fun (a1,(a2,(a3,a4))) =>
 some (a2,(a3,(a4,(a1,((-1:Int),(a1,((0:Int),((0:Int),((0:Int),false)))))))))
def alY:List (Nat×CE):=[]
theorem abt:dZ Try.prog alY:=trivial
def alZ:CE:=⟨[(.tmp 0 false [dI]),(.tmp 1 false [dS]),(.tmp 2 false [dS]),(.tmp 3 false [dS])],[(.tmp 0 true [dS,dS,dS,dI,dI,dI,dI,dI,dI,dO])],oL⟩
theorem ajz:aV Try.prog 48 alZ :=nT alX fC abt Try.func48
def al0:List (Nat×PL):=[(262657,(.carry []))]
def mJ:((zl)×(iT))->Option ((zl)×Int):=fun ((a1,(a2,(a3,(a4,(a5,a6))))),(a7,(a8,(a9,(a10,(a11,(a12,(a13,(a14,(a15,a16)))))))))) =>
 aA (ah (dP (a1,(a2,(a3,(a4,(a5,a6)))))) fun x17 =>
 bif (!x17) then
 au (some ((([]:List Int),((0:Int),((0:Int),(([]:List iT),((0:Int),(0:Int)))))),(2:Int)))
 else
 ah (aZ (a10,(a6,(1099511627776:Int)))) fun x18 =>
 bif (!x18) then
 au (some ((([]:List Int),((0:Int),((0:Int),(([]:List iT),((0:Int),(0:Int)))))),(2:Int)))
 else
 ah (aZ ((a7.length:Int),((1:Int),(200:Int)))) fun x19 =>
 bif (!x19) then
 au (some ((([]:List Int),((0:Int),((0:Int),(([]:List iT),((0:Int),(0:Int)))))),(2:Int)))
 else
 bif (decide ((a8.length:Int) > 200)) then
 au (some ((([]:List Int),((0:Int),((0:Int),(([]:List iT),((0:Int),(0:Int)))))),(2:Int)))
 else
 bif (decide ((a9.length:Int) > 200)) then
 au (some ((([]:List Int),((0:Int),((0:Int),(([]:List iT),((0:Int),(0:Int)))))),(2:Int)))
 else
 some (Sum.inl ())) fun _ =>
 ah (jd ((a1,(a2,(a3,(a4,(a5,a6))))),a7)) fun (x21,x22) =>
 bif x22 then
 some ((([]:List Int),((0:Int),((0:Int),(([]:List iT),((0:Int),(0:Int)))))),(7:Int))
 else
 ah (eF a4) fun x23 =>
 bif (decide (x23>=256)) then
 some ((([]:List Int),((0:Int),((0:Int),(([]:List iT),((0:Int),(0:Int)))))),(10:Int))
 else
 ah (fJ ((a10::([]:List Int)),(a7::(a8::(a9::([]:List LU)))))) fun x24 =>
 ah (bY ((a1,(a2,a3)),((1:Int),x24))) fun ((x26,(x27,x28)),x29) =>
 bif (decide (x29≠0)) then
 some ((([]:List Int),((0:Int),((0:Int),(([]:List iT),((0:Int),(0:Int)))))),x29)
 else
 ah (jZ a4) fun x30 =>
 ah (oL (a10,(a7,(a8,a9)))) fun (x32,(x33,(x34,(x35,(x36,(x37,(x38,(x39,(x40,x41))))))))) =>
 bif ((decide (x30.length=x30.length))&&true) then
 ah (Q5 (x30,(x21,((x32,(x33,(x34,(x35,(x36,(x37,(x38,(x39,(x40,x41)))))))))::([]:List iT))))) fun x42 =>
 bif (decide (x42.length<=x42.length)) then
 some ((x26,(x27,(x28,((x42.take x42.length),(a5,a10))))),(0:Int))
 else none
 else none
def nN:CE:=⟨[.tmp 0 false [.dat (.list pV)]],[.tmp 0 false [.own 1 29 pV]],jZ⟩
def lW:CE:=⟨[.tmp 0 false [.own 20000001 29 pV]],[.tmp 0 false [.own 20000002 29 pV]],jZ⟩
def Md:CE:=⟨[.tmp 0 false [.own 20000001 29 pV],.tmp 1 false [.dat dH],.tmp 2 false [.own 20000002 29 pV]],[.tmp 0 false [.own 20000003 29 pV],.dead 20000001],Q5⟩
def al1:List (Nat×CE):=[(47,nN),(1000000047,lW),(1000000046,Md),(41,UW),(43,ahT),(12,Xi),(42,ahU),(45,aeR),(44,aeS),(48,alZ)]
theorem abu:dZ Try.prog al1:=⟨sJ,qp,YL,Mc,aeO,PI,aeQ,Zk,Zl,ajz,trivial⟩
def al2:CE:=⟨[(.tmp 0 true [dY,dI,dI,(.dat (.list nZ)),dI,dI]),(.tmp 1 true [dS,dS,dS,dI,dI,dI,dI,dI,dI,dO])],[(.tmp 0 true [dY,dI,dI,(.dat (.list nZ)),dI,dI]),(.tmp 1 false [Gv])],mJ⟩
theorem ajA:aV Try.prog 10 al2 :=nT al0 fC abu Try.func10
def al3:List (Nat×PL):=[]
def kQ:((zl)×(Int×(LU×Int)))->Option ((zl)×Int):=fun ((a1,(a2,(a3,(a4,(a5,a6))))),(a7,(a8,a9))) =>
 ah (dP (a1,(a2,(a3,(a4,(a5,a6)))))) fun x10 =>
 bif (!x10) then
 some ((([]:List Int),((0:Int),((0:Int),(([]:List iT),((0:Int),(0:Int)))))),(2:Int))
 else
 ah (aZ (a9,(a6,(1099511627776:Int)))) fun x11 =>
 bif (!x11) then
 some ((([]:List Int),((0:Int),((0:Int),(([]:List iT),((0:Int),(0:Int)))))),(2:Int))
 else
 ah (jd ((a1,(a2,(a3,(a4,(a5,a6))))),a8)) fun (x13,x14) =>
 bif (!x14) then
 some ((([]:List Int),((0:Int),((0:Int),(([]:List iT),((0:Int),(0:Int)))))),(8:Int))
 else
 bif (decide (a7=2)) then
 bif (decide ((0<=x13)/\(x13<(a4.length:Int)))) then
 ah a4[x13.toNat]? fun x15 =>
 bif (decide (x15.2.2.2.2.1≠(-1:Int))) then
 some ((([]:List Int),((0:Int),((0:Int),(([]:List iT),((0:Int),(0:Int)))))),(9:Int))
 else
 ah (fJ ((a9::([]:List Int)),(a8::([]:List LU)))) fun x16 =>
 ah (bY ((a1,(a2,a3)),(a7,x16))) fun ((x18,(x19,x20)),x21) =>
 bif (decide (x21≠0)) then
 some ((([]:List Int),((0:Int),((0:Int),(([]:List iT),((0:Int),(0:Int)))))),x21)
 else
 ah (jZ a4) fun x22 =>
 bif (decide ((0<=x13)/\(x13<(x22.length:Int)))) then
 ah x22[x13.toNat]? fun x23 =>
 bif (decide (a7=2)) then
 bif (decide ((0<=x13)/\(x13<(x22.length:Int)))) then
 ah (List.set x22 x13.toNat (x23.1,(x23.2.1,(x23.2.2.1,(x23.2.2.2.1,(x23.2.2.2.2.1,(a9,(x23.2.2.2.2.2.2.1,(x23.2.2.2.2.2.2.2.1,(x23.2.2.2.2.2.2.2.2.1,x23.2.2.2.2.2.2.2.2.2))))))))))[x13.toNat]? fun x24 =>
 bif (decide (x22.length<=(List.length (List.set (List.set x22 x13.toNat (x23.1,(x23.2.1,(x23.2.2.1,(x23.2.2.2.1,(x23.2.2.2.2.1,(a9,(x23.2.2.2.2.2.2.1,(x23.2.2.2.2.2.2.2.1,(x23.2.2.2.2.2.2.2.2.1,x23.2.2.2.2.2.2.2.2.2)))))))))) x13.toNat (x24.1,(x24.2.1,(x24.2.2.1,(x24.2.2.2.1,(a9,(x24.2.2.2.2.2.1,(x24.2.2.2.2.2.2.1,(x24.2.2.2.2.2.2.2.1,(x24.2.2.2.2.2.2.2.2.1,x24.2.2.2.2.2.2.2.2.2))))))))))))) then
 some ((x18,(x19,(x20,((List.take x22.length (List.set (List.set x22 x13.toNat (x23.1,(x23.2.1,(x23.2.2.1,(x23.2.2.2.1,(x23.2.2.2.2.1,(a9,(x23.2.2.2.2.2.2.1,(x23.2.2.2.2.2.2.2.1,(x23.2.2.2.2.2.2.2.2.1,x23.2.2.2.2.2.2.2.2.2)))))))))) x13.toNat (x24.1,(x24.2.1,(x24.2.2.1,(x24.2.2.2.1,(a9,(x24.2.2.2.2.2.1,(x24.2.2.2.2.2.2.1,(x24.2.2.2.2.2.2.2.1,(x24.2.2.2.2.2.2.2.2.1,x24.2.2.2.2.2.2.2.2.2))))))))))),(a5,a9))))),(0:Int))
 else none
 else none
 else
 bif (decide (x22.length<=(List.length (List.set x22 x13.toNat (x23.1,(x23.2.1,(x23.2.2.1,(x23.2.2.2.1,(x23.2.2.2.2.1,(a9,(x23.2.2.2.2.2.2.1,(x23.2.2.2.2.2.2.2.1,(x23.2.2.2.2.2.2.2.2.1,x23.2.2.2.2.2.2.2.2.2))))))))))))) then
 some ((x18,(x19,(x20,((List.take x22.length (List.set x22 x13.toNat (x23.1,(x23.2.1,(x23.2.2.1,(x23.2.2.2.1,(x23.2.2.2.2.1,(a9,(x23.2.2.2.2.2.2.1,(x23.2.2.2.2.2.2.2.1,(x23.2.2.2.2.2.2.2.2.1,x23.2.2.2.2.2.2.2.2.2))))))))))),(a5,a9))))),(0:Int))
 else none
 else none
 else none
 else
 ah (fJ ((a9::([]:List Int)),(a8::([]:List LU)))) fun x25 =>
 ah (bY ((a1,(a2,a3)),(a7,x25))) fun ((x27,(x28,x29)),x30) =>
 bif (decide (x30≠0)) then
 some ((([]:List Int),((0:Int),((0:Int),(([]:List iT),((0:Int),(0:Int)))))),x30)
 else
 ah (jZ a4) fun x31 =>
 bif (decide ((0<=x13)/\(x13<(x31.length:Int)))) then
 ah x31[x13.toNat]? fun x32 =>
 bif (decide (a7=2)) then
 bif (decide ((0<=x13)/\(x13<(x31.length:Int)))) then
 ah (List.set x31 x13.toNat (x32.1,(x32.2.1,(x32.2.2.1,(x32.2.2.2.1,(x32.2.2.2.2.1,(a9,(x32.2.2.2.2.2.2.1,(x32.2.2.2.2.2.2.2.1,(x32.2.2.2.2.2.2.2.2.1,x32.2.2.2.2.2.2.2.2.2))))))))))[x13.toNat]? fun x33 =>
 bif (decide (x31.length<=(List.length (List.set (List.set x31 x13.toNat (x32.1,(x32.2.1,(x32.2.2.1,(x32.2.2.2.1,(x32.2.2.2.2.1,(a9,(x32.2.2.2.2.2.2.1,(x32.2.2.2.2.2.2.2.1,(x32.2.2.2.2.2.2.2.2.1,x32.2.2.2.2.2.2.2.2.2)))))))))) x13.toNat (x33.1,(x33.2.1,(x33.2.2.1,(x33.2.2.2.1,(a9,(x33.2.2.2.2.2.1,(x33.2.2.2.2.2.2.1,(x33.2.2.2.2.2.2.2.1,(x33.2.2.2.2.2.2.2.2.1,x33.2.2.2.2.2.2.2.2.2))))))))))))) then
 some ((x27,(x28,(x29,((List.take x31.length (List.set (List.set x31 x13.toNat (x32.1,(x32.2.1,(x32.2.2.1,(x32.2.2.2.1,(x32.2.2.2.2.1,(a9,(x32.2.2.2.2.2.2.1,(x32.2.2.2.2.2.2.2.1,(x32.2.2.2.2.2.2.2.2.1,x32.2.2.2.2.2.2.2.2.2)))))))))) x13.toNat (x33.1,(x33.2.1,(x33.2.2.1,(x33.2.2.2.1,(a9,(x33.2.2.2.2.2.1,(x33.2.2.2.2.2.2.1,(x33.2.2.2.2.2.2.2.1,(x33.2.2.2.2.2.2.2.2.1,x33.2.2.2.2.2.2.2.2.2))))))))))),(a5,a9))))),(0:Int))
 else none
 else none
 else
 bif (decide (x31.length<=(List.length (List.set x31 x13.toNat (x32.1,(x32.2.1,(x32.2.2.1,(x32.2.2.2.1,(x32.2.2.2.2.1,(a9,(x32.2.2.2.2.2.2.1,(x32.2.2.2.2.2.2.2.1,(x32.2.2.2.2.2.2.2.2.1,x32.2.2.2.2.2.2.2.2.2))))))))))))) then
 some ((x27,(x28,(x29,((List.take x31.length (List.set x31 x13.toNat (x32.1,(x32.2.1,(x32.2.2.1,(x32.2.2.2.1,(x32.2.2.2.2.1,(a9,(x32.2.2.2.2.2.2.1,(x32.2.2.2.2.2.2.2.1,(x32.2.2.2.2.2.2.2.2.1,x32.2.2.2.2.2.2.2.2.2))))))))))),(a5,a9))))),(0:Int))
 else none
 else none
def al4:List (Nat×CE):=[(47,nN),(1000000047,lW),(41,UW),(12,Xi),(42,ahU),(45,aeR),(44,aeS)]
theorem abv:dZ Try.prog al4:=⟨sJ,qp,Mc,PI,aeQ,Zk,Zl,trivial⟩
def al5:CE:=⟨[(.tmp 0 true [dY,dI,dI,(.dat (.list nZ)),dI,dI]),(.tmp 1 false [Gv]),(.tmp 2 false [dS]),(.tmp 3 false [dI])],[(.tmp 0 true [dY,dI,dI,(.dat (.list nZ)),dI,dI]),(.tmp 1 false [Gv])],kQ⟩
theorem ajB:aV Try.prog 60 al5 :=nT al3 fC abv Try.func60
def al6:List (Nat×PL):=[]
def nO:((zl)×(LU×Int))->Option ((zl)×Int):=fun ((a1,(a2,(a3,(a4,(a5,a6))))),(a7,a8)) =>
 ah (kQ ((a1,(a2,(a3,(a4,(a5,a6))))),((2:Int),(a7,a8)))) fun ((x10,(x11,(x12,(x13,(x14,x15))))),x16) =>
 some ((x10,(x11,(x12,(x13,(x14,x15))))),x16)
def al7:List (Nat×CE):=[(60,al5)]
theorem abw:dZ Try.prog al7:=⟨ajB,trivial⟩
def al8:CE:=⟨[(.tmp 0 true [dY,dI,dI,(.dat (.list nZ)),dI,dI]),(.tmp 1 false [dS]),(.tmp 2 false [dI])],[(.tmp 0 true [dY,dI,dI,(.dat (.list nZ)),dI,dI]),(.tmp 1 false [Gv])],nO⟩
theorem ajC:aV Try.prog 15 al8 :=nT al6 fC abw Try.func15
def al9:List (Nat×PL):=[]
def yN:((zl)×(LU×Int))->Option ((zl)×Int):=fun ((a1,(a2,(a3,(a4,(a5,a6))))),(a7,a8)) =>
 ah (kQ ((a1,(a2,(a3,(a4,(a5,a6))))),((3:Int),(a7,a8)))) fun ((x10,(x11,(x12,(x13,(x14,x15))))),x16) =>
 some ((x10,(x11,(x12,(x13,(x14,x15))))),x16)
def ama:List (Nat×CE):=[(60,al5)]
theorem abx:dZ Try.prog ama:=⟨ajB,trivial⟩
def aoH:CE:=⟨[(.tmp 0 true [dY,dI,dI,(.dat (.list nZ)),dI,dI]),(.tmp 1 false [dS]),(.tmp 2 false [dI])],[(.tmp 0 true [dY,dI,dI,(.dat (.list nZ)),dI,dI]),(.tmp 1 false [Gv])],yN⟩
theorem aoI:aV Try.prog 17 aoH :=nT al9 fC abx Try.func17
def amb:List (Nat×PL):=[(35253226045953,(.carry [.tmp 11 false [(.own 10000001 29 nZ)],.mix 9 [dS,dS,dS,dI,dI,dI,dI,dI,dI,dO],.mix 0 [dY,dI,dI,(.dat (.list nZ)),dI,dI],.dead 20]))]
def ji:((zl)×(((List (LU×(Int×(Int×(Int×(List ((Int×(Int×Int))×(Int×Int))))))))×Int)×(Int×Int)))->Option ((zl)×Int):=fun ((a1,(a2,(a3,(a4,(a5,a6))))),((a7,a8),(a9,a10))) =>
 bif (decide ((0<=a9)/\(a9<(a4.length:Int)))) then
 ah a4[a9.toNat]? fun x11 =>
 ah (jZ a4) fun x12 =>
 bif (decide (x12.length=x12.length)) then
 ah (N7 (x12,(a9,(IntKind.wrap .i64 (a9+(1:Int)))))) fun x14 =>
 aA (bif (decide (x11.2.2.2.2.1≠(-1:Int))) then
 bif (decide (a5>=1048576)) then
 au (some ((([]:List Int),((0:Int),((0:Int),(([]:List iT),((0:Int),(0:Int)))))),(10:Int)))
 else
 ah (some (IntKind.wrap .i64 (a5+(1:Int)))) fun x15 =>
 ah (bW (x11.2.2.2.2.1,a10)) fun x16 =>
 ah (bT ((a7,a8),(x11.2.2.1,(x11.2.2.2.2.1,a10)))) fun (x18,x19) =>
 bif (decide (x19=0)) then
 bif (decide (x14.length<=x14.length)) then
 bif (decide (((List.length ((x14.take x14.length)++((x11.1,(x11.2.1,(x11.2.2.1,(x11.2.2.2.1,(x11.2.2.2.2.1,(a10,(x15,(x16,(x18,x11.2.2.2.2.2.2.2.2.2)))))))))::([]:List iT))))*104)<=140737488355328)) then
 ah (some ((x14.take x14.length)++((x11.1,(x11.2.1,(x11.2.2.1,(x11.2.2.2.1,(x11.2.2.2.2.1,(a10,(x15,(x16,(x18,x11.2.2.2.2.2.2.2.2.2)))))))))::([]:List iT)))) fun x20 =>
 bif (decide (x20.length<=x20.length)) then
 some (Sum.inl ((x20.take x20.length),((x11.1,(x11.2.1,(x11.2.2.1,(x11.2.2.2.1,(x11.2.2.2.2.1,(a10,(x15,(x16,(x18,x11.2.2.2.2.2.2.2.2.2))))))))),(a1,(a2,(a3,(a4,(x15,a6))))))))
 else none
 else none
 else none
 else
 bif (decide (x14.length<=x14.length)) then
 bif (decide (((List.length ((x14.take x14.length)++((x11.1,(x11.2.1,(x11.2.2.1,(x11.2.2.2.1,(x11.2.2.2.2.1,(a10,(x15,(x16,(x11.2.2.2.2.2.2.2.2.1,x11.2.2.2.2.2.2.2.2.2)))))))))::([]:List iT))))*104)<=140737488355328)) then
 ah (some ((x14.take x14.length)++((x11.1,(x11.2.1,(x11.2.2.1,(x11.2.2.2.1,(x11.2.2.2.2.1,(a10,(x15,(x16,(x11.2.2.2.2.2.2.2.2.1,x11.2.2.2.2.2.2.2.2.2)))))))))::([]:List iT)))) fun x21 =>
 bif (decide (x21.length<=x21.length)) then
 some (Sum.inl ((x21.take x21.length),((x11.1,(x11.2.1,(x11.2.2.1,(x11.2.2.2.1,(x11.2.2.2.2.1,(a10,(x15,(x16,(x11.2.2.2.2.2.2.2.2.1,x11.2.2.2.2.2.2.2.2.2))))))))),(a1,(a2,(a3,(a4,(x15,a6))))))))
 else none
 else none
 else none
 else
 bif (decide (x14.length<=x14.length)) then
 some (Sum.inl ((x14.take x14.length),((x11.1,(x11.2.1,(x11.2.2.1,(x11.2.2.2.1,(x11.2.2.2.2.1,(a10,(x11.2.2.2.2.2.2.1,(x11.2.2.2.2.2.2.2.1,(x11.2.2.2.2.2.2.2.2.1,x11.2.2.2.2.2.2.2.2.2))))))))),(a1,(a2,(a3,(a4,(a5,a6))))))))
 else none) fun (v22,((v23,(v24,(v25,(v26,(v27,(v28,(v29,(v30,(v31,v32))))))))),(v33,(v34,(v35,(v36,(v37,v38))))))) =>
 ah (fJ ((a10::(v29::(v30::(v31::([]:List Int))))),(v23::([]:List LU)))) fun x39 =>
 ah (bY ((v33,(v34,v35)),((4:Int),x39))) fun ((x41,(x42,x43)),x44) =>
 bif (decide (x44≠0)) then
 some ((([]:List Int),((0:Int),((0:Int),(([]:List iT),((0:Int),(0:Int)))))),x44)
 else
 bif (decide (v22.length<=v22.length)) then
 some ((x41,(x42,(x43,((v22.take v22.length),(v37,v38))))),(0:Int))
 else none
 else none
 else none
def Me:CE:=⟨[.tmp 0 false [.own 20000001 29 pV],.tmp 1 false [.dat dH],.tmp 2 false [.dat dH]],[.tmp 0 false [.own 20000003 29 pV],.dead 20000001],N7⟩
def aqS:CE:=⟨[(.tmp 0 true [(.dat (.list UR)),dI]),(.tmp 1 false [dS]),(.tmp 2 false [dI]),(.tmp 3 false [dI])],[(.tmp 0 false [dI]),(.tmp 1 false [Gv])],bT⟩
def amc:List (Nat×CE):=[(76,alL),(47,nN),(1000000047,lW),(1000000088,Me),(77,aqS),(45,aeR),(44,aeS)]
theorem aby:dZ Try.prog amc:=⟨UH,sJ,qp,YM,aoC,Zk,Zl,trivial⟩
def amd:CE:=⟨[(.tmp 0 true [dY,dI,dI,(.dat (.list nZ)),dI,dI]),(.tmp 1 true [(.dat (.list (.pair .str (.pair dH (.pair dH (.pair dH (.list (.pair (.pair vP (.pair dH dH)) (.pair dH dH))))))))),dI]),(.tmp 2 false [dI]),(.tmp 3 false [dI])],[(.tmp 0 true [dY,dI,dI,(.dat (.list nZ)),dI,dI]),(.tmp 1 false [Gv])],ji⟩
theorem ajD:aV Try.prog 62 amd :=nT amb fC aby Try.func62
def ame:List (Nat×PL):=[(262657,(.carry []))]
def nP:((zl)×(((List (LU×(Int×(Int×(Int×(List ((Int×(Int×Int))×(Int×Int))))))))×Int)×(LU×Int)))->Option ((zl)×Int):=fun ((a1,(a2,(a3,(a4,(a5,a6))))),((a7,a8),(a9,a10))) =>
 aA (ah (dP (a1,(a2,(a3,(a4,(a5,a6)))))) fun x11 =>
 bif (!x11) then
 au (some ((([]:List Int),((0:Int),((0:Int),(([]:List iT),((0:Int),(0:Int)))))),(2:Int)))
 else
 ah (aZ (a10,(a6,(1099511627776:Int)))) fun x12 =>
 bif (!x12) then
 au (some ((([]:List Int),((0:Int),((0:Int),(([]:List iT),((0:Int),(0:Int)))))),(2:Int)))
 else
 ah (aW (a7,a8)) fun x13 =>
 bif (!x13) then
 au (some ((([]:List Int),((0:Int),((0:Int),(([]:List iT),((0:Int),(0:Int)))))),(2:Int)))
 else
 some (Sum.inl ())) fun _ =>
 ah (jd ((a1,(a2,(a3,(a4,(a5,a6))))),a9)) fun (x15,x16) =>
 bif (!x16) then
 some ((([]:List Int),((0:Int),((0:Int),(([]:List iT),((0:Int),(0:Int)))))),(8:Int))
 else
 ah (ji ((a1,(a2,(a3,(a4,(a5,a6))))),((a7,a8),(x15,a10)))) fun ((x18,(x19,(x20,(x21,(x22,x23))))),x24) =>
 bif (decide (x24≠0)) then
 some ((([]:List Int),((0:Int),((0:Int),(([]:List iT),((0:Int),(0:Int)))))),x24)
 else
 some ((x18,(x19,(x20,(x21,(x22,a10))))),(0:Int))
def aoJ:CE:=⟨[(.tmp 0 true [(.dat (.list (.pair .str (.pair dH (.pair dH (.pair dH (.list (.pair (.pair vP (.pair dH dH)) (.pair dH dH))))))))),dI])],[(.tmp 0 false [dO])],aW⟩
def amf:List (Nat×CE):=[(61,aoJ),(41,UW),(12,Xi),(42,ahU),(62,amd)]
theorem abz:dZ Try.prog amf:=⟨Y0,Mc,PI,aeQ,ajD,trivial⟩
def ahV:CE:=⟨[(.tmp 0 true [dY,dI,dI,(.dat (.list nZ)),dI,dI]),(.tmp 1 true [(.dat (.list (.pair .str (.pair dH (.pair dH (.pair dH (.list (.pair (.pair vP (.pair dH dH)) (.pair dH dH))))))))),dI]),(.tmp 2 false [dS]),(.tmp 3 false [dI])],[(.tmp 0 true [dY,dI,dI,(.dat (.list nZ)),dI,dI]),(.tmp 1 false [Gv])],nP⟩
theorem aeT:aV Try.prog 20 ahV :=nT ame fC abz Try.func20
def amg:List (Nat×PL):=[(134480385,(.carry [])),(18049651601311750,(.carry [.tmp 23 false [dI]]))]
def eY:(zl)->Option ((iT)×Bool):=fun (a1,(a2,(a3,(a4,(a5,a6))))) =>
 ah (dP (a1,(a2,(a3,(a4,(a5,a6)))))) fun x7 =>
 bif (!x7) then
 some ((([]:List UInt8),(([]:List UInt8),(([]:List UInt8),((0:Int),((0:Int),((0:Int),((0:Int),((0:Int),((0:Int),false))))))))),false)
 else
 bif (decide (a2≠(a1.length:Int))) then
 some ((([]:List UInt8),(([]:List UInt8),(([]:List UInt8),((0:Int),((0:Int),((0:Int),((0:Int),((0:Int),((0:Int),false))))))))),false)
 else
 aA (ay (fun v8 =>
 bif (decide (v8<(a4.length:Int))) then
 bif (decide ((0<=v8)/\(v8<(a4.length:Int)))) then
 ah a4[v8.toNat]? fun x9 =>
 bif (decide (x9.2.2.2.2.2.2.1≠0)) then
 bif (!x9.2.2.2.2.2.2.2.2.2) then
 au (au (some ((x9.1,(x9.2.1,(x9.2.2.1,(x9.2.2.2.1,(x9.2.2.2.2.1,(x9.2.2.2.2.2.1,(x9.2.2.2.2.2.2.1,(x9.2.2.2.2.2.2.2.1,(x9.2.2.2.2.2.2.2.2.1,x9.2.2.2.2.2.2.2.2.2))))))))),true)))
 else
 some (Sum.inl (IntKind.wrap .i64 (v8+(1:Int))))
 else
 some (Sum.inl (IntKind.wrap .i64 (v8+(1:Int))))
 else none
 else
 au (some (Sum.inl ()))) (0:Int)) fun _ =>
 some ((([]:List UInt8),(([]:List UInt8),(([]:List UInt8),((0:Int),((0:Int),((0:Int),((0:Int),((0:Int),((0:Int),false))))))))),false)
def amh:List (Nat×CE):=[(12,Xi)]
theorem abA:dZ Try.prog amh:=⟨PI,trivial⟩
def ahW:CE:=⟨[(.tmp 0 true [dY,dI,dI,(.dat (.list nZ)),dI,dI])],[(.tmp 0 true [dS,dS,dS,dI,dI,dI,dI,dI,dI,dO]),(.tmp 1 false [dO])],eY⟩
theorem aeU:aV Try.prog 24 ahW :=nT amg fC abA Try.func24
def ami:List (Nat×PL):=[(68853956627,(.carry [.tmp 0 false [dI]])),(18049651606028801,(.carry [])),(2422583229752736638830598,(.carry [.tmp 8 false [dI]]))]
def mM:((zl)×Int)->Option ((zl)×Int):=fun ((a1,(a2,(a3,(a4,(a5,a6))))),a7) =>
 ah (dP (a1,(a2,(a3,(a4,(a5,a6)))))) fun x8 =>
 bif (!x8) then
 some ((([]:List Int),((0:Int),((0:Int),(([]:List iT),((0:Int),(0:Int)))))),(2:Int))
 else
 aA (aA (ay (fun v9 =>
 bif (decide (v9<(a4.length:Int))) then
 bif (decide ((0<=v9)/\(v9<(a4.length:Int)))) then
 ah a4[v9.toNat]? fun x10 =>
 bif (decide (x10.2.2.2.2.2.2.1≠0)) then
 bif (decide (x10.2.2.2.2.2.2.1=a7)) then
 au (au (some (Sum.inl v9)))
 else
 some (Sum.inl (IntKind.wrap .i64 (v9+(1:Int))))
 else
 some (Sum.inl (IntKind.wrap .i64 (v9+(1:Int))))
 else none
 else
 au (some (Sum.inl ()))) (0:Int)) fun _ =>
 some (Sum.inl (-1:Int))) fun v13 =>
 bif (decide (v13<0)) then
 some ((([]:List Int),((0:Int),((0:Int),(([]:List iT),((0:Int),(0:Int)))))),(8:Int))
 else
 bif (decide ((0<=v13)/\(v13<(a4.length:Int)))) then
 ah a4[v13.toNat]? fun x14 =>
 bif x14.2.2.2.2.2.2.2.2.2 then
 some ((([]:List Int),((0:Int),((0:Int),(([]:List iT),((0:Int),(0:Int)))))),(9:Int))
 else
 ah (fJ ((a7::([]:List Int)),([]:List LU))) fun x15 =>
 ah (bY ((a1,(a2,a3)),((5:Int),x15))) fun ((x17,(x18,x19)),x20) =>
 bif (decide (x20≠0)) then
 some ((([]:List Int),((0:Int),((0:Int),(([]:List iT),((0:Int),(0:Int)))))),x20)
 else
 ah (jZ a4) fun x21 =>
 bif (decide ((0<=v13)/\(v13<(x21.length:Int)))) then
 ah x21[v13.toNat]? fun x22 =>
 bif (decide (x21.length<=(List.length (List.set x21 v13.toNat (x22.1,(x22.2.1,(x22.2.2.1,(x22.2.2.2.1,(x22.2.2.2.2.1,(x22.2.2.2.2.2.1,(x22.2.2.2.2.2.2.1,(x22.2.2.2.2.2.2.2.1,(x22.2.2.2.2.2.2.2.2.1,true))))))))))))) then
 some ((x17,(x18,(x19,((List.take x21.length (List.set x21 v13.toNat (x22.1,(x22.2.1,(x22.2.2.1,(x22.2.2.2.1,(x22.2.2.2.2.1,(x22.2.2.2.2.2.1,(x22.2.2.2.2.2.2.1,(x22.2.2.2.2.2.2.2.1,(x22.2.2.2.2.2.2.2.2.1,true))))))))))),(a5,a6))))),(0:Int))
 else none
 else none
 else none
def amj:List (Nat×CE):=[(47,nN),(1000000047,lW),(12,Xi),(45,aeR),(44,aeS)]
theorem abB:dZ Try.prog amj:=⟨sJ,qp,PI,Zk,Zl,trivial⟩
def amk:CE:=⟨[(.tmp 0 true [dY,dI,dI,(.dat (.list nZ)),dI,dI]),(.tmp 1 false [dI])],[(.tmp 0 true [dY,dI,dI,(.dat (.list nZ)),dI,dI]),(.tmp 1 false [Gv])],mM⟩
theorem ajE:aV Try.prog 22 amk :=nT ami fC abB Try.func22
def aml:List (Nat×PL):=[]
def jG:(zl)->Option (zl):=fun (a1,(a2,(a3,(a4,(a5,a6))))) =>
 ah (dP (a1,(a2,(a3,(a4,(a5,a6)))))) fun x7 =>
 bif (!x7) then
 some (([]:List Int),((0:Int),((0:Int),(([]:List iT),((0:Int),(0:Int))))))
 else
 ah (kJ (a1,(a2,a3))) fun (x9,(x10,x11)) =>
 ah (jZ a4) fun x12 =>
 bif (decide (x12.length<=x12.length)) then
 some (x9,(x10,(x11,((x12.take x12.length),(a5,a6)))))
 else none
def aoK:CE:=⟨[(.tmp 0 true [dY,dI,dI])],[(.tmp 0 true [dY,dI,dI])],kJ⟩
def amm:List (Nat×CE):=[(68,aoK),(47,nN),(1000000047,lW),(12,Xi)]
theorem abC:dZ Try.prog amm:=⟨aeF,sJ,qp,PI,trivial⟩
def ahX:CE:=⟨[(.tmp 0 true [dY,dI,dI,(.dat (.list nZ)),dI,dI])],[(.tmp 0 true [dY,dI,dI,(.dat (.list nZ)),dI,dI])],jG⟩
theorem aeV:aV Try.prog 26 ahX :=nT aml fC abC Try.func26
def jk:(((List Int)×(Int×Int))×(Int×(List Int)))->Option (((List Int)×(Int×Int))×Int):=fun ((a1,(a2,a3)),(a4,a5)) =>
 ah (fD (a1,(a2,a3))) fun x6 =>
 bif (!x6) then
 some ((([]:List Int),((0:Int),(0:Int))),(2:Int))
 else
 bif (decide (a3=1048576)) then
 some ((([]:List Int),((0:Int),(0:Int))),(10:Int))
 else
 ah (jg (a3,(a4,a5))) fun (x8,x9) =>
 bif (decide (x9≠0)) then
 some ((([]:List Int),((0:Int),(0:Int))),x9)
 else
 bif (decide ((a1.length*1)<=140737488355328)) then
 bif (decide (a1.length<=a1.length)) then
 bif (decide (((List.length ((a1.take a1.length)++x8))*1)<=140737488355328)) then
 ah (some ((a1.take a1.length)++x8)) fun x11 =>
 bif (decide (x11.length<=x11.length)) then
 some (((x11.take x11.length),(a2,(IntKind.wrap .i64 (a3+(1:Int))))),(0:Int))
 else none
 else none
 else none
 else none
def lG:((iT)×Int)->Option Bool:=fun ((a1,(a2,(a3,(a4,(a5,(a6,(a7,(a8,(a9,a10))))))))),a11) =>
 aA (bif (decide (a1=([]:List UInt8))) then
 au (some false)
 else
 bif (decide ((a1.length:Int) > 200)) then
 au (some false)
 else
 bif (decide ((a2.length:Int) > 200)) then
 au (some false)
 else
 bif (decide ((a3.length:Int) > 200)) then
 au (some false)
 else
 bif (decide (a4<0)) then
 au (some false)
 else
 bif (decide (a4 > a11)) then
 au (some false)
 else
 bif (decide (a6<a4)) then
 au (some false)
 else
 bif (decide (a6 > a11)) then
 au (some false)
 else
 some (Sum.inl ())) fun _ =>
 aA (bif (decide (a5≠(-1:Int))) then
 bif (decide (a5<a4)) then
 au (some false)
 else
 bif (decide (a5 > a6)) then
 au (some false)
 else
 some (Sum.inl ())
 else
 some (Sum.inl ())) fun _ =>
 bif (decide (a7=0)) then
 bif (decide (a8=0)) then
 bif (decide (a9=0)) then
 some (!a10)
 else
 some false
 else
 some false
 else
 bif (decide (a5≠(-1:Int))) then
 bif (decide (a9>=0)) then
 ah (bK (a5,a6)) fun x12 =>
 some (decide (a8=x12))
 else
 some false
 else
 some false
def dQ:(zl)->Option Int:=fun (a1,(a2,(a3,(a4,(a5,a6))))) =>
 aA (ay (fun v7 =>
 bif (decide (v7<(a4.length:Int))) then
 bif (decide ((0<=v7)/\(v7<(a4.length:Int)))) then
 ah a4[v7.toNat]? fun x8 =>
 bif (decide (x8.2.2.2.2.2.2.1=0)) then
 some (Sum.inl (IntKind.wrap .i64 (v7+(1:Int))))
 else
 au (some (Sum.inl v7))
 else none
 else
 au (some (Sum.inl v7))) (0:Int)) fun v10 =>
 some v10
def iF:(zl)->Option Bool:=fun (a1,(a2,(a3,(a4,(a5,a6))))) =>
 aA (ah (fD (a1,(a2,a3))) fun x7 =>
 bif (!x7) then
 au (some false)
 else
 bif (decide (a6<0)) then
 au (some false)
 else
 bif (decide (a6 > 1099511627776)) then
 au (some false)
 else
 bif (decide (a5<0)) then
 au (some false)
 else
 bif (decide (a5 > 1048576)) then
 au (some false)
 else
 some (Sum.inl ())) fun _ =>
 ah (dQ (a1,(a2,(a3,(a4,(a5,a6)))))) fun x8 =>
 aA (ay (fun (v9,v10) =>
 bif (decide (v9<(a4.length:Int))) then
 bif (decide ((0<=v9)/\(v9<(a4.length:Int)))) then
 ah a4[v9.toNat]? fun x11 =>
 ah (lG ((x11.1,(x11.2.1,(x11.2.2.1,(x11.2.2.2.1,(x11.2.2.2.2.1,(x11.2.2.2.2.2.1,(x11.2.2.2.2.2.2.1,(x11.2.2.2.2.2.2.2.1,(x11.2.2.2.2.2.2.2.2.1,x11.2.2.2.2.2.2.2.2.2))))))))),a6)) fun x12 =>
 bif (!x12) then
 au (au (some false))
 else
 bif (decide (v9<x8)) then
 bif (decide (v9 > 0)) then
 ah (some (IntKind.wrap .i64 (v9-(1:Int)))) fun x13 =>
 bif (decide ((0<=x13)/\(x13<(a4.length:Int)))) then
 ah a4[x13.toNat]? fun x14 =>
 bif (!(Go.Op.bytesLess x14.1 x11.1)) then
 au (au (some false))
 else
 some (Sum.inl ((IntKind.wrap .i64 (v9+(1:Int))),v10))
 else none
 else
 some (Sum.inl ((IntKind.wrap .i64 (v9+(1:Int))),v10))
 else
 bif (decide (x11.2.2.2.2.2.2.1<=v10)) then
 au (au (some false))
 else
 bif (decide (x11.2.2.2.2.2.2.1 > a5)) then
 au (au (some false))
 else
 some (Sum.inl ((IntKind.wrap .i64 (v9+(1:Int))),x11.2.2.2.2.2.2.1))
 else none
 else
 au (some (Sum.inl ()))) ((0:Int),(0:Int))) fun _ =>
 some (decide (x8<=256))
def kL:Int->Option LN:=fun a1 =>
 aA (ay (fun (v2,(v3,v4)) =>
 bif (decide (v2>=0)) then
 bif (decide ((0<=v2)/\(v2<8))) then
 ah v4[v2.toNat]? fun x7 =>
 some (Sum.inl ((IntKind.wrap .i64 (v2-(1:Int))),((IntKind.wrap .i64 (Int.tdiv v3 (256:Int))),(List.set v4 v2.toNat (IntKind.wrap .u8 (Int.tmod v3 (256:Int)))))))
 else none
 else
 au (some (Sum.inl v4))) ((7:Int),(a1,(List.replicate 8 (0:Int))))) fun v10 =>
 bif (decide (8<=v10.length)) then
 some (List.take 8 v10)
 else none
def cZ:(LN×(List LU))->Option LN:=fun (a1,a2) =>
 aA (ay (fun (v3,v4) =>
 bif (decide (v3<(a1.length:Int))) then
 bif (decide ((0<=v3)/\(v3<(a1.length:Int)))) then
 ah a1[v3.toNat]? fun x5 =>
 ah (kL x5) fun x6 =>
 bif (decide (v4.length<=v4.length)) then
 bif (decide (((List.length ((v4.take v4.length)++x6))*1)<=140737488355328)) then
 ah (some ((v4.take v4.length)++x6)) fun x7 =>
 bif (decide (x7.length<=x7.length)) then
 some (Sum.inl ((IntKind.wrap .i64 (v3+(1:Int))),(x7.take x7.length)))
 else none
 else none
 else none
 else none
 else
 au (bif (decide (v4.length<=v4.length)) then
 some (Sum.inl (v4.take v4.length))
 else none)) ((0:Int),([]:List Int))) fun v9 =>
 aA (bif (decide (v9.length<=v9.length)) then
 ay (fun (v10,v11) =>
 bif (decide (v10<(a2.length:Int))) then
 bif (decide ((0<=v10)/\(v10<(a2.length:Int)))) then
 ah a2[v10.toNat]? fun x12 =>
 ah (some (IntKind.wrap .i64 (Int.tdiv (x12.length:Int) (256:Int)))) fun x13 =>
 bif (decide ((0<=v10)/\(v10<(a2.length:Int)))) then
 ah a2[v10.toNat]? fun x15 =>
 ah (some (Int.tmod (x15.length:Int) (256:Int))) fun x16 =>
 bif (decide (v11.length<=v11.length)) then
 bif (decide (((List.length ((v11.take v11.length)++((IntKind.wrap .u8 x13)::((IntKind.wrap .u8 x16)::([]:List Int)))))*1)<=140737488355328)) then
 ah (some ((v11.take v11.length)++((IntKind.wrap .u8 x13)::((IntKind.wrap .u8 x16)::([]:List Int))))) fun x18 =>
 bif (decide ((0<=v10)/\(v10<(a2.length:Int)))) then
 ah a2[v10.toNat]? fun x19 =>
 bif (decide (x19.length<=140737488355328)) then
 bif (decide (x18.length<=x18.length)) then
 bif (decide (((List.length ((x18.take x18.length)++(List.map (fun (x20:UInt8)=>(((UInt8.toNat x20):Nat):Int)) x19)))*1)<=140737488355328)) then
 ah (some ((x18.take x18.length)++(List.map (fun (x22:UInt8)=>(((UInt8.toNat x22):Nat):Int)) x19))) fun x21 =>
 bif (decide (x21.length<=x21.length)) then
 some (Sum.inl ((IntKind.wrap .i64 (v10+(1:Int))),(x21.take x21.length)))
 else none
 else none
 else none
 else none
 else none
 else none
 else none
 else none
 else none
 else
 au (bif (decide (v11.length<=v11.length)) then
 some (Sum.inl (v11.take v11.length))
 else none)) ((0:Int),(v9.take v9.length))
 else none) fun v24 =>
 bif (decide (v24.length<=v24.length)) then
 some (v24.take v24.length)
 else none
def vG:((zl)×LU)->Option Int:=fun ((a1,(a2,(a3,(a4,(a5,a6))))),a7) =>
 aA (ay (fun v8 =>
 ah (dQ (a1,(a2,(a3,(a4,(a5,a6)))))) fun x9 =>
 bif (decide (v8<x9)) then
 bif (decide ((0<=v8)/\(v8<(a4.length:Int)))) then
 ah a4[v8.toNat]? fun x10 =>
 bif (decide (x10.1=a7)) then
 au (au (some v8))
 else
 some (Sum.inl (IntKind.wrap .i64 (v8+(1:Int))))
 else none
 else
 au (some (Sum.inl ()))) (0:Int)) fun _ =>
 some (-1:Int)
def dK:((zl)×Int)->Option Int:=fun ((a1,(a2,(a3,(a4,(a5,a6))))),a7) =>
 aA (ay (fun v8 =>
 bif (decide (v8<(a4.length:Int))) then
 bif (decide (a7 > 0)) then
 bif (decide ((0<=v8)/\(v8<(a4.length:Int)))) then
 ah a4[v8.toNat]? fun x9 =>
 bif (decide (x9.2.2.2.2.2.2.1=a7)) then
 au (au (some v8))
 else
 some (Sum.inl (IntKind.wrap .i64 (v8+(1:Int))))
 else none
 else
 some (Sum.inl (IntKind.wrap .i64 (v8+(1:Int))))
 else
 au (some (Sum.inl ()))) (0:Int)) fun _ =>
 some (-1:Int)
def lH:((List iT)×(iT))->Option (List iT):=fun (a1,(a2,(a3,(a4,(a5,(a6,(a7,(a8,(a9,(a10,a11)))))))))) =>
 aA (ay (fun v12 =>
 bif (decide (v12<(a1.length:Int))) then
 bif (decide ((0<=v12)/\(v12<(a1.length:Int)))) then
 ah a1[v12.toNat]? fun x13 =>
 bif (decide (x13.2.2.2.2.2.2.1=0)) then
 bif (decide ((0<=v12)/\(v12<(a1.length:Int)))) then
 ah a1[v12.toNat]? fun x14 =>
 bif (Go.Op.bytesLess x14.1 a2) then
 some (Sum.inl (IntKind.wrap .i64 (v12+(1:Int))))
 else
 au (some (Sum.inl v12))
 else none
 else
 au (some (Sum.inl v12))
 else none
 else
 au (some (Sum.inl v12))) (0:Int)) fun v16 =>
 bif (decide ((0<=v16)/\(v16<=(a1.length:Int)))) then
 ah (some (List.take v16.toNat a1)) fun x17 =>
 bif (decide ((x17.length*104)<=140737488355328)) then
 bif (decide (x17.length<=x17.length)) then
 bif (decide (((List.length ((x17.take x17.length)++((a2,(a3,(a4,(a5,(a6,(a7,(a8,(a9,(a10,a11)))))))))::([]:List iT))))*104)<=140737488355328)) then
 ah (some ((x17.take x17.length)++((a2,(a3,(a4,(a5,(a6,(a7,(a8,(a9,(a10,a11)))))))))::([]:List iT)))) fun x19 =>
 bif (decide ((0<=v16)/\(v16<=(a1.length:Int)))) then
 ah (some (List.drop v16.toNat a1)) fun x20 =>
 bif (decide (x19.length<=x19.length)) then
 bif (decide (((List.length ((x19.take x19.length)++x20))*104)<=140737488355328)) then
 ah (some ((x19.take x19.length)++x20)) fun x21 =>
 bif (decide (x21.length<=x21.length)) then
 some (x21.take x21.length)
 else none
 else none
 else none
 else none
 else none
 else none
 else none
 else none
def xO:(Int×(Int×(Int×(Int×(Int×(LU×(LU×LU)))))))->Option (Int×LN):=fun (a1,(a2,(a3,(a4,(a5,(a6,(a7,a8))))))) =>
 bif (decide (a1=1)) then
 ah (cZ ((a2::([]:List Int)),(a6::(a7::(a8::([]:List LU)))))) fun x9 =>
 some ((1:Int),x9)
 else
 bif (decide (a1=4)) then
 ah (cZ ((a2::(a3::(a4::(a5::([]:List Int))))),(a6::([]:List LU)))) fun x10 =>
 some ((4:Int),x10)
 else
 bif (decide (a1=5)) then
 ah (cZ ((a3::([]:List Int)),([]:List LU))) fun x11 =>
 some ((5:Int),x11)
 else
 ah (cZ ((a2::([]:List Int)),(a6::([]:List LU)))) fun x12 =>
 some (a1,x12)
def jl:((zl)×(Int×(Int×(Int×(Int×(Int×(LU×(LU×LU))))))))->Option ((zl)×Bool):=fun ((a1,(a2,(a3,(a4,(a5,a6))))),(a7,(a8,(a9,(a10,(a11,(a12,(a13,a14)))))))) =>
 bif (decide (a7=5)) then
 ah (dK ((a1,(a2,(a3,(a4,(a5,a6))))),a9)) fun x15 =>
 bif (decide (x15<0)) then
 some ((a1,(a2,(a3,(a4,(a5,a6))))),false)
 else
 bif (decide ((0<=x15)/\(x15<(a4.length:Int)))) then
 ah a4[x15.toNat]? fun x16 =>
 bif x16.2.2.2.2.2.2.2.2.2 then
 some ((a1,(a2,(a3,(a4,(a5,a6))))),false)
 else
 bif (decide ((a4.length*104)<=140737488355328)) then
 bif (decide ((0<=x15)/\(x15<(a4.length:Int)))) then
 ah a4[x15.toNat]? fun x18 =>
 bif (decide (a4.length<=(List.length (List.set a4 x15.toNat (x18.1,(x18.2.1,(x18.2.2.1,(x18.2.2.2.1,(x18.2.2.2.2.1,(x18.2.2.2.2.2.1,(x18.2.2.2.2.2.2.1,(x18.2.2.2.2.2.2.2.1,(x18.2.2.2.2.2.2.2.2.1,true))))))))))))) then
 some ((a1,(a2,(a3,((List.take a4.length (List.set a4 x15.toNat (x18.1,(x18.2.1,(x18.2.2.1,(x18.2.2.2.1,(x18.2.2.2.2.1,(x18.2.2.2.2.2.1,(x18.2.2.2.2.2.2.1,(x18.2.2.2.2.2.2.2.1,(x18.2.2.2.2.2.2.2.2.1,true))))))))))),(a5,a6))))),true)
 else none
 else none
 else none
 else none
 else
 ah (vG ((a1,(a2,(a3,(a4,(a5,(dM a6 a8)))))),a12)) fun x19 =>
 bif (decide (a7=1)) then
 aA (bif (decide (x19>=0)) then
 au (some ((a1,(a2,(a3,(a4,(a5,(dM a6 a8)))))),false))
 else
 ah (dQ (a1,(a2,(a3,(a4,(a5,(dM a6 a8))))))) fun x20 =>
 bif (decide (x20>=256)) then
 au (some ((a1,(a2,(a3,(a4,(a5,(dM a6 a8)))))),false))
 else
 bif (decide (a12=([]:List UInt8))) then
 au (some ((a1,(a2,(a3,(a4,(a5,(dM a6 a8)))))),false))
 else
 bif (decide ((a12.length:Int) > 200)) then
 au (some ((a1,(a2,(a3,(a4,(a5,(dM a6 a8)))))),false))
 else
 bif (decide ((a13.length:Int) > 200)) then
 au (some ((a1,(a2,(a3,(a4,(a5,(dM a6 a8)))))),false))
 else
 bif (decide ((a14.length:Int) > 200)) then
 au (some ((a1,(a2,(a3,(a4,(a5,(dM a6 a8)))))),false))
 else
 some (Sum.inl ())) fun _ =>
 ah (lH (a4,(a12,(a13,(a14,(a8,((-1:Int),(a8,((0:Int),((0:Int),((0:Int),false))))))))))) fun x21 =>
 some ((a1,(a2,(a3,(x21,(a5,(dM a6 a8)))))),true)
 else
 aA (bif (decide (x19<0)) then
 au (some ((a1,(a2,(a3,(a4,(a5,(dM a6 a8)))))),false))
 else
 bif (decide ((0<=x19)/\(x19<(a4.length:Int)))) then
 ah a4[x19.toNat]? fun x22 =>
 bif (decide (a8<x22.2.2.2.2.2.1)) then
 au (some ((a1,(a2,(a3,(a4,(a5,(dM a6 a8)))))),false))
 else
 bif (decide (a7=2)) then
 bif (decide ((0<=x19)/\(x19<(a4.length:Int)))) then
 ah a4[x19.toNat]? fun x23 =>
 bif (decide (x23.2.2.2.2.1>=0)) then
 au (some ((a1,(a2,(a3,(a4,(a5,(dM a6 a8)))))),false))
 else
 some (Sum.inl ())
 else none
 else
 some (Sum.inl ())
 else none) fun _ =>
 bif (decide ((0<=x19)/\(x19<(a4.length:Int)))) then
 ah a4[x19.toNat]? fun x24 =>
 bif (decide ((0<=x19)/\(x19<=(a4.length:Int)))) then
 ah (some (List.take x19.toNat a4)) fun x25 =>
 bif (decide ((x25.length*104)<=140737488355328)) then
 ah (some (IntKind.wrap .i64 (x19+(1:Int)))) fun x27 =>
 bif (decide ((0<=x27)/\(x27<=(a4.length:Int)))) then
 ah (some (List.drop x27.toNat a4)) fun x28 =>
 bif (decide (x25.length<=x25.length)) then
 bif (decide (((List.length ((x25.take x25.length)++x28))*104)<=140737488355328)) then
 ah (some ((x25.take x25.length)++x28)) fun x29 =>
 aA (bif (decide (a7=2)) then
 some (Sum.inl (x24.1,(x24.2.1,(x24.2.2.1,(x24.2.2.2.1,(a8,(a8,(x24.2.2.2.2.2.2.1,(x24.2.2.2.2.2.2.2.1,(x24.2.2.2.2.2.2.2.2.1,x24.2.2.2.2.2.2.2.2.2))))))))))
 else
 some (Sum.inl (x24.1,(x24.2.1,(x24.2.2.1,(x24.2.2.2.1,(x24.2.2.2.2.1,(a8,(x24.2.2.2.2.2.2.1,(x24.2.2.2.2.2.2.2.1,(x24.2.2.2.2.2.2.2.2.1,x24.2.2.2.2.2.2.2.2.2))))))))))) fun (v30,(v31,(v32,(v33,(v34,(v35,(v36,(v37,(v38,v39))))))))) =>
 bif (decide (a7<4)) then
 bif (decide (x29.length<=x29.length)) then
 ah (lH ((x29.take x29.length),(v30,(v31,(v32,(v33,(v34,(v35,(v36,(v37,(v38,v39))))))))))) fun x40 =>
 some ((a1,(a2,(a3,(x40,(a5,(dM a6 a8)))))),true)
 else none
 else
 bif (decide (a9=0)) then
 bif (decide (x29.length<=x29.length)) then
 some ((a1,(a2,(a3,((x29.take x29.length),(a5,(dM a6 a8)))))),(decide (v34=(-1:Int))))
 else none
 else
 aA (bif (decide (v34=(-1:Int))) then
 au (some ((a1,(a2,(a3,(a4,(a5,(dM a6 a8)))))),false))
 else
 bif (decide (a9≠(IntKind.wrap .i64 (a5+(1:Int))))) then
 au (some ((a1,(a2,(a3,(a4,(a5,(dM a6 a8)))))),false))
 else
 bif (decide (a9 > 1048576)) then
 au (some ((a1,(a2,(a3,(a4,(a5,(dM a6 a8)))))),false))
 else
 ah (bK (v34,v35)) fun x42 =>
 bif (decide (a10≠x42)) then
 au (some ((a1,(a2,(a3,(a4,(a5,(dM a6 a8)))))),false))
 else
 some (Sum.inl ())) fun _ =>
 bif (decide (x29.length<=x29.length)) then
 bif (decide (((List.length ((x29.take x29.length)++((v30,(v31,(v32,(v33,(v34,(v35,(a9,(a10,(a11,v39)))))))))::([]:List iT))))*104)<=140737488355328)) then
 ah (some ((x29.take x29.length)++((v30,(v31,(v32,(v33,(v34,(v35,(a9,(a10,(a11,v39)))))))))::([]:List iT)))) fun x43 =>
 bif (decide (x43.length<=x43.length)) then
 some ((a1,(a2,(a3,((x43.take x43.length),(a9,(dM a6 a8)))))),true)
 else none
 else none
 else none
 else none
 else none
 else none
 else none
 else none
 else none
def lJ:(zl)->Option Bool:=fun (a1,(a2,(a3,(a4,(a5,a6))))) =>
 some (decide (a3>=1048576))
def lK:((zl)×(Int×(Int×(Int×(Int×(Int×(LU×(LU×LU))))))))->Option (zl):=fun ((a1,(a2,(a3,(a4,(a5,a6))))),(a7,(a8,(a9,(a10,(a11,(a12,(a13,a14)))))))) =>
 ah (jl ((a1,(a2,(a3,(a4,(a5,a6))))),(a7,(a8,(a9,(a10,(a11,(a12,(a13,a14))))))))) fun ((x16,(x17,(x18,(x19,(x20,x21))))),x22) =>
 ah (xO (a7,(a8,(a9,(a10,(a11,(a12,(a13,a14)))))))) fun (x24,x25) =>
 ah (jk ((a1,(a2,a3)),(x24,x25))) fun ((x27,(x28,x29)),x30) =>
 some (x27,(x28,(x29,(x19,(x20,x21)))))
def vH:(zl)->Option ((iT)×Bool):=fun (a1,(a2,(a3,(a4,(a5,a6))))) =>
 ah (iF (a1,(a2,(a3,(a4,(a5,a6)))))) fun x7 =>
 bif (!x7) then
 some ((([]:List UInt8),(([]:List UInt8),(([]:List UInt8),((0:Int),((0:Int),((0:Int),((0:Int),((0:Int),((0:Int),false))))))))),false)
 else
 bif (decide (a2≠(a1.length:Int))) then
 some ((([]:List UInt8),(([]:List UInt8),(([]:List UInt8),((0:Int),((0:Int),((0:Int),((0:Int),((0:Int),((0:Int),false))))))))),false)
 else
 aA (ah (dQ (a1,(a2,(a3,(a4,(a5,a6)))))) fun x8 =>
 ay (fun v9 =>
 bif (decide (v9<(a4.length:Int))) then
 bif (decide ((0<=v9)/\(v9<(a4.length:Int)))) then
 ah a4[v9.toNat]? fun x10 =>
 bif (!x10.2.2.2.2.2.2.2.2.2) then
 bif (decide ((0<=v9)/\(v9<(a4.length:Int)))) then
 ah a4[v9.toNat]? fun x11 =>
 au (au (some ((x11.1,(x11.2.1,(x11.2.2.1,(x11.2.2.2.1,(x11.2.2.2.2.1,(x11.2.2.2.2.2.1,(x11.2.2.2.2.2.2.1,(x11.2.2.2.2.2.2.2.1,(x11.2.2.2.2.2.2.2.2.1,x11.2.2.2.2.2.2.2.2.2))))))))),true)))
 else none
 else
 some (Sum.inl (IntKind.wrap .i64 (v9+(1:Int))))
 else none
 else
 au (some (Sum.inl ()))) x8) fun _ =>
 some ((([]:List UInt8),(([]:List UInt8),(([]:List UInt8),((0:Int),((0:Int),((0:Int),((0:Int),((0:Int),((0:Int),false))))))))),false)
def tK:((zl)×Int)->Option ((zl)×Int):=fun ((a1,(a2,(a3,(a4,(a5,a6))))),a7) =>
 ah (iF (a1,(a2,(a3,(a4,(a5,a6)))))) fun x8 =>
 bif (!x8) then
 some ((([]:List Int),((0:Int),((0:Int),(([]:List iT),((0:Int),(0:Int)))))),(2:Int))
 else
 ah (dK ((a1,(a2,(a3,(a4,(a5,a6))))),a7)) fun x9 =>
 bif (decide (x9<0)) then
 some ((([]:List Int),((0:Int),((0:Int),(([]:List iT),((0:Int),(0:Int)))))),(8:Int))
 else
 bif (decide ((0<=x9)/\(x9<(a4.length:Int)))) then
 ah a4[x9.toNat]? fun x10 =>
 bif x10.2.2.2.2.2.2.2.2.2 then
 some ((([]:List Int),((0:Int),((0:Int),(([]:List iT),((0:Int),(0:Int)))))),(9:Int))
 else
 ah (lJ (a1,(a2,(a3,(a4,(a5,a6)))))) fun x11 =>
 bif x11 then
 some ((([]:List Int),((0:Int),((0:Int),(([]:List iT),((0:Int),(0:Int)))))),(10:Int))
 else
 ah (lK ((a1,(a2,(a3,(a4,(a5,a6))))),((5:Int),((0:Int),(a7,((0:Int),((0:Int),(([]:List UInt8),(([]:List UInt8),([]:List UInt8)))))))))) fun (x13,(x14,(x15,(x16,(x17,x18))))) =>
 some ((x13,(x14,(x15,(x16,(x17,x18))))),(0:Int))
 else none
def amn:List (Nat×PL):=[]
def gY:PUnit->Option ((List (LU×(Int×(Int×(Int×(List ((Int×(Int×Int))×(Int×Int))))))))×Int):=fun _ =>
 some (((([]:List UInt8),((0:Int),((1:Int),((1:Int),((((127:Int),((0:Int),(1440:Int))),((1000:Int),(1000:Int)))::([]:List ((Int×(Int×Int))×(Int×Int))))))))::([]:List (LU×(Int×(Int×(Int×(List ((Int×(Int×Int))×(Int×Int))))))))),(0:Int))
def amo:List (Nat×CE):=[]
theorem abD:dZ Try.prog amo:=trivial
def ahY:CE:=⟨[],[(.tmp 0 true [(.dat (.list (.pair .str (.pair dH (.pair dH (.pair dH (.list (.pair (.pair vP (.pair dH dH)) (.pair dH dH))))))))),dI])],gY⟩
theorem aeW:aV Try.prog 28 ahY :=nT amn fC abD Try.func28
theorem Xj {α β:Type} {l:List α} {v:Int} (d:α) (f:α->Option β) (h:0<=v/\v<(l.length:Int)):ah l[Int.toNat v]? f=f (l.getD v.toNat d):=by rw [Gy d (by omega)];rfl
theorem get_at {α:Type} {l:List α} {i:Nat} (d:α) (h:i<l.length):∃x,l.getD i d=x/\∀ {β:Type} (f:α->Option β),ah l[Int.toNat (i:Int)]? f=f x:=⟨_,rfl,fun f=>Xj d f (by omega)⟩
def Is (o:Option Bool) (P:Prop):Prop:=(P/\o=some true)\/(¬P/\o=some false)
theorem Is.t {P:Prop} (h:P):Is (some true) P := .inl ⟨h,rfl⟩
theorem Is.f {P:Prop} (h:¬P):Is (some false) P := .inr ⟨h,rfl⟩
theorem Is.d {P Q:Prop} [Decidable Q] (h:Q↔P):Is (some (decide Q)) P:=by
 by_cases k:Q
 ·exact .inl ⟨h.1 k,by rw [decide_eq_true k]⟩
 ·exact .inr ⟨fun p=>k (h.2 p),by rw [decide_eq_false k]⟩
theorem Is.eq {o o':Option Bool} {P:Prop} (h:Is o P) (k:Is o' P):o=o':=by
 rcases h with ⟨h,e⟩ | ⟨h,e⟩<;>rcases k with ⟨k,e'⟩ | ⟨k,e'⟩
 ·rw [e,e']
 ·exact (k h).elim
 ·exact (h k).elim
 ·rw [e,e']
theorem Is.iff {o:Option Bool} {P Q:Prop} (h:Is o P) (k:P↔Q):Is o Q:=by
 rcases h with ⟨h,e⟩ | ⟨h,e⟩
 ·exact .inl ⟨k.1 h,e⟩
 ·exact .inr ⟨fun q=>h (k.2 q),e⟩
theorem Is.some {o:Option Bool} {P:Prop} (h:Is o P):∃b,o=Option.some b:=by
 rcases h with ⟨_,e⟩ | ⟨_,e⟩<;>exact ⟨_,e⟩
theorem Ak {β:Type} {body:Int->Option (Int ⊕ β)} (n:Nat) (ok:Nat->Prop) (r0 r1:β) (h1:∀i:Nat,i<n->ok i->body (i:Int)=some (.inl ((i+1:Nat):Int))) (h2:∀i:Nat,i<n->¬ok i->body (i:Int)=some (.inr r1)) (h3:body (n:Int)=some (.inr r0)) :
 ((∀i,i<n->ok i)/\ay body (0:Int)=some r0)\/(¬(∀i,i<n->ok i)/\ay body (0:Int)=some r1):=by
 have hs:=tZ (body:=body) (fun i=>(i:Int)) n (fun i=>¬ok i) (r0:=r0) (r1:=r1) (x:=0) rfl (fun i hi hb=>h1 i hi (Classical.not_not.1 hb)) h2 h3;rcases hs with ⟨⟨i,hi,hb⟩,e⟩ | ⟨hn,e⟩
 ·exact .inr ⟨fun h=>hb (h i hi),e⟩
 ·exact .inl ⟨fun i hi=>Classical.byContradiction fun h=>hn ⟨i,hi,h⟩,e⟩
theorem PO {υ β:Type} {body:υ->Option (υ ⊕ β)} (st:Nat->υ) (n:Nat) (ok:Nat->Prop) (r0 r1:β) {x:υ} (hx:st 0=x) (h1:∀i:Nat,i<n->(∀j,j<i->ok j)->ok i->body (st i)=some (.inl (st (i+1)))) (h2:∀i:Nat,i<n->(∀j,j<i->ok j)->¬ok i->body (st i)=some (.inr r1)) (h3:(∀j,j<n->ok j)->body (st n)=some (.inr r0)) :
 ((∀i,i<n->ok i)/\ay body x=some r0)\/(¬(∀i,i<n->ok i)/\ay body x=some r1):=by
 by_cases h:∃i,i<n/\¬ok i
 ·obtain ⟨i,⟨k1,k2⟩,k3⟩:=least h;have k4:∀j,j<i->ok j:=fun j hj=>Classical.byContradiction fun hp=>k3 j hj ⟨by omega,hp⟩;exact .inr ⟨fun g=>k2 (g i k1),bG st i hx (fun j hj=>h1 j (by omega) (fun q hq=>k4 q (by omega)) (k4 j hj)) (h2 i k1 k4 k2)⟩
 ·have k4:∀j,j<n->ok j:=fun j hj=>Classical.byContradiction fun hp=>h ⟨j,hj,hp⟩;exact .inl ⟨k4,bG st n hx (fun j hj=>h1 j hj (fun q hq=>k4 q (by omega)) (k4 j hj)) (h3 k4)⟩
theorem lM {β:Type} {body:Int->Option (Int ⊕ β)} (n:Nat) (p:Nat->Prop) (g:Nat->β) (r0:β) (h1:∀i:Nat,i<n->¬p i->body (i:Int)=some (.inl ((i+1:Nat):Int))) (h2:∀i:Nat,i<n->p i->body (i:Int)=some (.inr (g i))) (h3:body (n:Int)=some (.inr r0)) :
 (∃i,i<n/\p i/\(∀j,j<i->¬p j)/\ay body (0:Int)=some (g i))\/((∀i,i<n->¬p i)/\ay body (0:Int)=some r0):=by
 by_cases h:∃i,i<n/\p i
 ·obtain ⟨i,⟨k1,k2⟩,k3⟩:=least h;exact .inl ⟨i,k1,k2,fun j hj hp=>k3 j hj ⟨by omega,hp⟩,bG (fun i=>(i:Int)) i rfl (fun j hj=>h1 j (by omega) fun hp=>k3 j hj ⟨by omega,hp⟩) (h2 i k1 k2)⟩
 ·exact .inr ⟨fun i hi hp=>h ⟨i,hi,hp⟩,bG (fun i=>(i:Int)) n rfl (fun j hj=>h1 j hj fun hp=>h ⟨j,hj,hp⟩) h3⟩
theorem getD_take {α:Type} (l:List α) (d:α) {i k:Nat} (h:k<i):(l.take i).getD k d=l.getD k d:=by
 rw [List.getD_eq_getElem?_getD,List.getD_eq_getElem?_getD,List.getElem?_take,if_pos h]
theorem take_snoc {α:Type} (l:List α) (d:α) {i:Nat} (h:i<l.length):l.take (i+1)=l.take i++[l.getD i d]:=by
 rw [List.take_add_one,List.getElem?_eq_getElem h,aek d h];rfl
theorem aF:(∀ {α β:Type} (a:α) (f:α->Option β),ah (some a) f=f a)/\(∀ {α β:Type} (f:α->Option β),ah none f=none)/\(∀ {α β:Type} (a:α) (f:α->Option β),aA (some (.inl a)) f=f a)/\(∀ {α β:Type} (b:β) (f:α->Option β),aA (some (.inr b)) f=some b)/\(∀ {α β:Type} (f:α->Option β),aA none f=none)/\(∀ {α β:Type} (b:β),(au (some b):Option (α ⊕ β))=some (.inr b))/\(∀ {α β:Type},(au none:Option (α ⊕ β))=none)/\(∀ {α:Type} (a b:α),(bif true then a else b)=a)/\(∀ {α:Type} (a b:α),(bif false then a else b)=b)/\(∀ {α:Type} (p q:Bool) (a b:α),(bif (p&&q) then a else b)=bif p then (bif q then a else b) else b)/\(∀ {α:Type} (p q:Bool) (a b:α),(bif (p||q) then a else b)=bif p then a else (bif q then a else b))/\(∀ {α:Type} (p:Bool) (a b:α),(bif (!p) then a else b)=bif p then b else a)/\(∀ {α:Type} (p:Prop) [Decidable p] (a b:α),(bif decide p then a else b)=if p then a else b)/\(∀ {α:Type} (p:Prop) [Decidable p] (a b:α),p->(if p then a else b)=a)/\(∀ {α:Type} (p:Prop) [Decidable p] (a b:α),¬p->(if p then a else b)=b) :=
 ⟨aB,aK,aX,bC,aN,bD,bF,fun _ _=>rfl,fun _ _=>rfl,aej,ag4,cond_not,aO,fun _ _ _ _ h=>if_pos h,fun _ _ _ _ h=>if_neg h⟩
theorem aG:(∀ {α:Type} (l:List α),List.take l.length l=l)/\(∀n:Nat,(n<=n)=True)/\(!true)=false/\(!false)=true/\(∀ {α:Type} (a b:α),(if True then a else b)=a)/\(∀ {α:Type} (a b:α),(if False then a else b)=b) :=
 ⟨fun l=>List.take_length,fun n=>eq_true (Nat.le_refl n),rfl,rfl,fun _ _=>if_true ..,fun _ _=>if_false ..⟩
theorem bJ:(∀ {α:Type} (l:List α) (i:Nat) (a:α),(l.set i a).length=l.length)/\(∀ {α:Type} (l m:List α),(l++m).length=l.length+m.length)/\(∀ {α:Type} (a:α) (l:List α),(a::l).length=l.length+1)/\(∀ {α:Type},([]:List α).length=0)/\(∀ {α:Type} (l:List α),[]++l=l)/\(∀ {α:Type} (n:Nat) (l:List α),(l.take n).length=min n l.length)/\(∀ {α:Type} (n:Nat) (l:List α),(l.drop n).length=l.length-n) :=
 ⟨fun _ _ _=>List.length_set,fun _ _=>List.length_append,fun _ _=>rfl,rfl,fun _=>rfl,fun _ _=>List.length_take,fun _ _=>List.length_drop⟩
end Go.Proofs.Ytkpijdndakljjaa

set_option maxRecDepth 100000
namespace Go.Proofs.Ytkpijdndakljjaa.Rt
open Go.RowKit
theorem Xj {α β:Type} {l:List α} {v:Int} (d:α) (f:α->Option β) (h:0<=v/\v<(l.length:Int)):ah l[Int.toNat v]? f=f (l.getD v.toNat d):=by rw [Gy d (by omega)];rfl
theorem get_at {α:Type} {l:List α} {i:Nat} (d:α) (h:i<l.length):∃x,l.getD i d=x/\∀ {β:Type} (f:α->Option β),ah l[Int.toNat (i:Int)]? f=f x:=⟨_,rfl,fun f=>Xj d f (by omega)⟩
def Is (o:Option Bool) (P:Prop):Prop:=(P/\o=some true)\/(¬P/\o=some false)
theorem Is.t {P:Prop} (h:P):Is (some true) P := .inl ⟨h,rfl⟩
theorem Is.f {P:Prop} (h:¬P):Is (some false) P := .inr ⟨h,rfl⟩
theorem Is.d {P Q:Prop} [Decidable Q] (h:Q↔P):Is (some (decide Q)) P:=by
 by_cases k:Q
 ·exact .inl ⟨h.1 k,by rw [decide_eq_true k]⟩
 ·exact .inr ⟨fun p=>k (h.2 p),by rw [decide_eq_false k]⟩
theorem Is.eq {o o':Option Bool} {P:Prop} (h:Is o P) (k:Is o' P):o=o':=by
 rcases h with ⟨h,e⟩ | ⟨h,e⟩<;>rcases k with ⟨k,e'⟩ | ⟨k,e'⟩
 ·rw [e,e']
 ·exact (k h).elim
 ·exact (h k).elim
 ·rw [e,e']
theorem Is.and {γ:Type} {k:γ->Option Bool} {P Q:Prop} (x:Option (γ ⊕ Bool)) (h:(P/\∃g,x=some (.inl g)/\Is (k g) Q)\/(¬P/\x=some (.inr false))):Is (aA x k) (P/\Q):=by
 rcases h with ⟨h,g,e,hp⟩ | ⟨h,e⟩
 ·rw [e];show Is (k g) _;rcases hp with ⟨q,e'⟩ | ⟨q,e'⟩
  ·exact .inl ⟨⟨h,q⟩,e'⟩
  ·exact .inr ⟨fun k=>q k.2,e'⟩
 ·rw [e];exact .inr ⟨fun q=>h q.1,rfl⟩
theorem iC {β:Type} (a b c:Int) (f:Bool->Option β):ah (aU (a,(b,c))) f=f (decide (b<=a/\a<=c)):=by
 have e:aU (a,(b,c))=bif decide (a>=b) then some (decide (a<=c)) else some false:=rfl;rw [e,aO];by_cases h:b<=a
 ·rw [if_pos (show a>=b from h)];simp [h,aB]
 ·rw [if_neg (show ¬a>=b from h)];simp [h,aB]
theorem rJ {β:Type} (a:Int) (f:Bool->Option β):ah (dF a) f=f (decide (0<=a/\a<=1000000000)):=by
 have e:dF a=bif decide (a>=0) then some (decide (a<=1000000000)) else some false:=rfl;rw [e,aO];by_cases h:0<=a
 ·rw [if_pos (show a>=0 from h)];simp [h,aB]
 ·rw [if_neg (show ¬a>=0 from h)];simp [h,aB]
abbrev UY (d f t:Int):Prop:=(1<=d/\d<=127)/\0<=f/\f<t/\t<=1440
theorem ahZ (d f t:Int):kW (d,(f,t))=some (decide (UY d f t)):=by
 unfold kW;by_cases h1:1<=d<;>by_cases h2:d<=127<;>by_cases h3:0<=f<;>by_cases h4:f<t<;>simp [h1,h2,h3,h4,UY]
theorem ah0 (d f t:Int):gJ (d,(f,t))=some (decide (UY d f t)):=by
 unfold gJ;by_cases h1:1<=d<;>by_cases h2:d<=127<;>by_cases h3:0<=f<;>by_cases h4:f<t<;>simp [h1,h2,h3,h4,UY]
abbrev Q8 (a:Int):Prop:=0<=a/\a<=1000000000
abbrev Pok (p:uf):Prop:=UY p.1.1 p.1.2.1 p.1.2.2/\Q8 p.2.1/\Q8 p.2.2
theorem Jm {β:Type} (d f t:Int) (k:Bool->Option β):ah (gJ (d,(f,t))) k=k (decide (UY d f t)):=by rw [ah0];rfl
theorem UZ {β:Type} (p:uf) (k:Bool->Option β):ah (gu (p.1.1,(p.1.2.1,(p.1.2.2,(p.2.1,p.2.2))))) k=k (decide (Pok p)):=by
 obtain ⟨⟨d,f,t⟩,m,n⟩:=p;have e:gu (d,(f,(t,(m,n))))=some (decide (Pok ((d,(f,t)),(m,n)))):=by
  unfold gu;simp only [ahZ,aB];by_cases h:UY d f t<;>by_cases h1:0<=m<;>by_cases h2:m<=1000000000<;>by_cases h3:0<=n<;>simp [h,h1,h2,h3,Pok,Q8]
 show ah (gu (d,(f,(t,(m,n))))) k=_;rw [e];rfl
abbrev p0:uf:=((0,(0,0)),(0,0))
abbrev r0:Ra:=([],(0,(0,(0,[]))))
def dgB (a1:List UInt8):Int->Option (Int ⊕ (Unit ⊕ Bool)) :=
(fun v8 =>
 bif (decide (v8<(a1.length:Int))) then
 bif (decide ((0<=v8)/\(v8<(a1.length:Int)))) then
 bif (decide ((((UInt8.toNat (List.getD a1 v8.toNat (0:UInt8))):Nat):Int)<48)) then
 au (au (some false))
 else
 bif (decide ((0<=v8)/\(v8<(a1.length:Int)))) then
 bif (decide ((((UInt8.toNat (List.getD a1 v8.toNat (0:UInt8))):Nat):Int) > 57)) then
 au (au (some false))
 else
 some (Sum.inl (IntKind.wrap .i64 (v8+(1:Int))))
 else none
 else none
 else
 au (some (Sum.inl ())))
def ppB (a5:List uf):Int->Option (Int ⊕ (Unit ⊕ Bool)) :=
(fun v10 =>
 bif (decide (v10<(a5.length:Int))) then
 bif (decide ((0<=v10)/\(v10<(a5.length:Int)))) then
 ah a5[v10.toNat]? fun x11 =>
 ah (gu (x11.1.1,(x11.1.2.1,(x11.1.2.2,(x11.2.1,x11.2.2))))) fun x12 =>
 bif (!x12) then
 au (au (some false))
 else
 some (Sum.inl (IntKind.wrap .i64 (v10+(1:Int))))
 else none
 else
 au (some (Sum.inl ())))
def prB (a5:List uf):Int->Option (Int ⊕ (Unit ⊕ Bool)) :=
(fun v9 =>
 bif (decide (v9<(a5.length:Int))) then
 bif (decide ((0<=v9)/\(v9<(a5.length:Int)))) then
 ah a5[v9.toNat]? fun x10 =>
 ah (gJ (x10.1.1,(x10.1.2.1,x10.1.2.2))) fun x11 =>
 bif (!x11) then
 au (au (some false))
 else
 ah (dF x10.2.1) fun x12 =>
 bif (!x12) then
 au (au (some false))
 else
 ah (dF x10.2.2) fun x13 =>
 bif (!x13) then
 au (au (some false))
 else
 some (Sum.inl (IntKind.wrap .i64 (v9+(1:Int))))
 else none
 else
 au (some (Sum.inl ())))
theorem Q9 (a1:List UInt8) (a2 a3 a4:Int) (a5:List uf):dX (a1,(a2,(a3,(a4,a5)))) =
 aA (bif (decide ((a1.length:Int) > 20)) then
 au (some false)
 else
 bif (decide (a2<0)) then
 au (some false)
 else
 bif (decide (a2 > 1000000000)) then
 au (some false)
 else
 ah (aU (a3,((1:Int),(3600:Int)))) fun x6 =>
 bif (!x6) then
 au (some false)
 else
 ah (aU (a4,((1:Int),(3600:Int)))) fun x7 =>
 bif (!x7) then
 au (some false)
 else
 some (Sum.inl ())) fun _ =>
 aA (ay (dgB a1) (0:Int)) fun _ =>
 bif (decide ((a5.length:Int)<1)) then
  some false
 else
  bif (decide ((a5.length:Int) > 20)) then
   some false
  else
   aA (ay (ppB a5) (0:Int)) fun _ =>
   ah (some (IntKind.wrap .i64 ((a5.length:Int)-(1:Int)))) fun x14 =>
   bif (decide ((0<=x14)/\(x14<(a5.length:Int)))) then
    ah a5[x14.toNat]? fun x15 =>
    some ((decide (x15.1.1=127))&&((decide (x15.1.2.1=0))&&(decide (x15.1.2.2=1440))))
   else none:=rfl
theorem ah1 (a1:List UInt8) (a2 a3 a4:Int) (a5:List uf):cu (a1,(a2,(a3,(a4,a5)))) =
 aA (bif (decide ((a1.length:Int) > 20)) then
 au (some false)
 else
 ah (dF a2) fun x6 =>
 bif (!x6) then
 au (some false)
 else
 bif (decide (a3<1)) then
 au (some false)
 else
 bif (decide (a3 > 3600)) then
 au (some false)
 else
 bif (decide (a4<1)) then
 au (some false)
 else
 bif (decide (a4 > 3600)) then
 au (some false)
 else
 some (Sum.inl ())) fun _ =>
 aA (ay (dgB a1) (0:Int)) fun _ =>
 bif (decide ((a5.length:Int)<1)) then
  some false
 else
  bif (decide ((a5.length:Int) > 20)) then
   some false
  else
   aA (ay (prB a5) (0:Int)) fun _ =>
   ah (some (IntKind.wrap .i64 ((a5.length:Int)-(1:Int)))) fun x15 =>
   bif (decide ((0<=x15)/\(x15<(a5.length:Int)))) then
    ah a5[x15.toNat]? fun x16 =>
    bif (decide (x16.1.1=127)) then
     bif (decide (x16.1.2.1=0)) then
      some (decide (x16.1.2.2=1440))
     else
      some false
    else
     some false
   else none:=rfl
theorem Ak {body:Int->Option (Int ⊕ (Unit ⊕ Bool))} (n:Nat) (ok:Nat->Prop) (h1:∀i:Nat,i<n->ok i->body (i:Int)=some (.inl ((i+1:Nat):Int))) (h2:∀i:Nat,i<n->¬ok i->body (i:Int)=some (.inr (.inr false))) (h3:body (n:Int)=some (.inr (.inl ()))) :
 ((∀i,i<n->ok i)/\ay body (0:Int)=some (.inl ()))\/(¬(∀i,i<n->ok i)/\ay body (0:Int)=some (.inr false)):=by
 have hs:=tZ (body:=body) (fun i=>(i:Int)) n (fun i=>¬ok i) (r0 := .inl ()) (r1 := .inr false) (x:=0) rfl (fun i hi hb=>h1 i hi (Classical.not_not.1 hb)) h2 h3;rcases hs with ⟨⟨i,hi,hb⟩,e⟩ | ⟨hn,e⟩
 ·exact .inr ⟨fun h=>hb (h i hi),e⟩
 ·exact .inl ⟨fun i hi=>Classical.byContradiction fun h=>hn ⟨i,hi,h⟩,e⟩
abbrev DgC (c:UInt8):Prop:=48<=c.toNat/\c.toNat<=57
def Dg (s:List UInt8):Prop:=∀i,i<s.length->DgC (s.getD i 0)
theorem Zm (a1:List UInt8) (hl:a1.length<=1000):(Dg a1/\ay (dgB a1) 0=some (.inl ()))\/(¬Dg a1/\ay (dgB a1) 0=some (.inr false)):=by
 refine Ak (body:=dgB a1) a1.length (fun i=>DgC (a1.getD i 0)) (fun i hi hb' => ?_) (fun i hi hb => ?_) ?_
 ·have hn:((i:Int)+1)=((i+1:Nat):Int):=rfl;unfold dgB;simp (disch:=(first | omega | (simp only [bJ];omega))) only [↓aF,aG,if_pos,if_neg,Int.toNat_natCast,aj,hn]
 ·unfold dgB;by_cases h:(a1.getD i 0).toNat<48
  ·simp (disch:=(first | omega | (simp only [bJ];omega))) only [↓aF,aG,if_pos,if_neg,Int.toNat_natCast]
  ·have h2:(a1.getD i 0).toNat > 57:=by unfold DgC at hb;omega
   simp (disch:=(first | omega | (simp only [bJ];omega))) only [↓aF,aG,if_pos,if_neg,Int.toNat_natCast]
 ·unfold dgB;simp (disch:=(first | omega | (simp only [bJ];omega))) only [↓aF,aG,if_pos,if_neg,Int.toNat_natCast]
def Pks (l:List uf):Prop:=∀i,i<l.length->Pok (l.getD i p0)
theorem ah2 (l:List uf) (hl:l.length<=1000):(Pks l/\ay (ppB l) 0=some (.inl ()))\/(¬Pks l/\ay (ppB l) 0=some (.inr false)):=by
 refine Ak (body:=ppB l) l.length (fun i=>Pok (l.getD i p0)) (fun i hi hb' => ?_) (fun i hi hb => ?_) ?_
 ·obtain ⟨x,hx,hxb⟩:=get_at p0 hi;rw [hx] at hb';have hn:((i:Int)+1)=((i+1:Nat):Int):=rfl;unfold ppB;simp (disch:=(first | omega | (simp only [bJ];omega))) only [↓aF,aG,if_pos,if_neg,↓hxb,UZ,aj,hn,hb',decide_true]
 ·obtain ⟨x,hx,hxb⟩:=get_at p0 hi;rw [hx] at hb;unfold ppB;simp (disch:=(first | omega | (simp only [bJ];omega))) only [↓aF,aG,if_pos,if_neg,↓hxb,UZ,hb,decide_false]
 ·unfold ppB;simp (disch:=(first | omega | (simp only [bJ];omega))) only [↓aF,aG,if_pos,if_neg]
theorem ah3 (l:List uf) (hl:l.length<=1000):(Pks l/\ay (prB l) 0=some (.inl ()))\/(¬Pks l/\ay (prB l) 0=some (.inr false)):=by
 refine Ak (body:=prB l) l.length (fun i=>Pok (l.getD i p0)) (fun i hi hb' => ?_) (fun i hi hb => ?_) ?_
 ·obtain ⟨x,hx,hxb⟩:=get_at p0 hi;rw [hx] at hb';have hn:((i:Int)+1)=((i+1:Nat):Int):=rfl;unfold prB;simp (disch:=(first | omega | (simp only [bJ];omega))) only [↓aF,aG,if_pos,if_neg,↓hxb,Jm,rJ,aj,hn,hb'.1,hb'.2.1,hb'.2.2,and_self,decide_true]
 ·obtain ⟨x,hx,hxb⟩:=get_at p0 hi;rw [hx] at hb;unfold prB;by_cases h1:UY x.1.1 x.1.2.1 x.1.2.2
  ·by_cases h2:Q8 x.2.1
   ·have h3:¬Q8 x.2.2:=fun h=>hb ⟨h1,h2,h⟩;simp (disch:=(first | omega | (simp only [bJ];omega))) only [↓aF,aG,if_pos,if_neg,↓hxb,Jm,rJ,h1,h2,h3,and_self,decide_true,decide_false]
   ·simp (disch:=(first | omega | (simp only [bJ];omega))) only [↓aF,aG,if_pos,if_neg,↓hxb,Jm,rJ,h1,h2,and_self,decide_true,decide_false]
  ·simp (disch:=(first | omega | (simp only [bJ];omega))) only [↓aF,aG,if_pos,if_neg,↓hxb,Jm,rJ,h1,decide_false]
 ·unfold prB;simp (disch:=(first | omega | (simp only [bJ];omega))) only [↓aF,aG,if_pos,if_neg]
abbrev Lst (p:uf):Prop:=p.1.1=127/\p.1.2.1=0/\p.1.2.2=1440
abbrev RVa (a1:List UInt8) (a2 a3 a4:Int):Prop:=a1.length<=20/\Q8 a2/\(1<=a3/\a3<=3600)/\(1<=a4/\a4<=3600)
abbrev RVl (l:List uf):Prop:=(1<=l.length/\l.length<=20)/\Pks l/\Lst (l.getD (l.length-1) p0)
def RV (r:Ra):Prop:=RVa r.1 r.2.1 r.2.2.1 r.2.2.2.1/\Dg r.1/\RVl r.2.2.2.2
theorem wz (a1:List UInt8) (a2 a3 a4:Int) (a5:List uf):Is (dX (a1,(a2,(a3,(a4,a5))))) (RV (a1,(a2,(a3,(a4,a5))))):=by
 rw [Q9];refine Is.and _ ?_;by_cases h:RVa a1 a2 a3 a4
 ·obtain ⟨h1,h2,h3,h4⟩:=h;refine .inl ⟨⟨h1,h2,h3,h4⟩,(),?_,?_⟩
  ·simp (disch:=(first | omega | (simp only [bJ];omega))) only [↓aF,aG,if_pos,if_neg,iC,h3,h4,and_self,decide_true]
  ·refine Is.and _ ?_;rcases Zm a1 (by omega) with ⟨d,e⟩ | ⟨d,e⟩
   ·refine .inl ⟨d,(),e,?_⟩;by_cases hl:1<=a5.length/\a5.length<=20
    ·simp (disch:=(first | omega | (simp only [bJ];omega))) only [↓aF,aG,if_pos,if_neg];rcases ah2 a5 (by omega) with ⟨d,e⟩ | ⟨d,e⟩
     ·simp only [e,↓aF,aG];obtain ⟨x,hx,hxb⟩:=get_at p0 (show a5.length-1<a5.length by omega);have hi:((a5.length:Int)-1)=((a5.length-1:Nat):Int):=by omega
      simp (disch:=(first | omega | (simp only [bJ];omega))) only [↓aF,aG,aj,hi,if_pos,↓hxb,Jl];refine Is.d ?_;show _↔(_/\_/\Lst (a5.getD (a5.length-1) p0))
      rw [hx];exact ⟨fun k=>⟨hl,d,k⟩,fun k=>k.2.2⟩
     ·simp only [e,↓aF,aG];exact Is.f fun k=>d k.2.1
    ·have:Is (some false) (RVl a5):=Is.f fun k=>hl k.1;rcases Nat.lt_or_ge a5.length 1 with k | k
     ·simp (disch:=(first | omega | (simp only [bJ];omega))) only [↓aF,aG,if_pos,if_neg];exact this
     ·simp (disch:=(first | omega | (simp only [bJ];omega))) only [↓aF,aG,if_pos,if_neg];exact this
   ·exact .inr ⟨d,e⟩
 ·refine .inr ⟨h,?_⟩;by_cases h1:a1.length<=20
  ·by_cases h2:0<=a2
   ·by_cases h3:a2<=1000000000
    ·by_cases h4:1<=a3/\a3<=3600
     ·have h5:¬(1<=a4/\a4<=3600):=fun k=>h ⟨h1,⟨h2,h3⟩,h4,k⟩;simp (disch:=(first | omega | (simp only [bJ];omega))) only [↓aF,aG,if_pos,if_neg,iC,h4,h5,and_self,decide_true,decide_false]
     ·simp (disch:=(first | omega | (simp only [bJ];omega))) only [↓aF,aG,if_pos,if_neg,iC,h4,decide_false]
    ·simp (disch:=(first | omega | (simp only [bJ];omega))) only [↓aF,aG,if_pos,if_neg]
   ·simp (disch:=(first | omega | (simp only [bJ];omega))) only [↓aF,aG,if_pos,if_neg]
  ·simp (disch:=(first | omega | (simp only [bJ];omega))) only [↓aF,aG,if_pos,if_neg]
theorem ah4 (a1:List UInt8) (a2 a3 a4:Int) (a5:List uf):Is (cu (a1,(a2,(a3,(a4,a5))))) (RV (a1,(a2,(a3,(a4,a5))))):=by
 rw [ah1];refine Is.and _ ?_;by_cases h:RVa a1 a2 a3 a4
 ·obtain ⟨h1,h2,h3,h4⟩:=h;refine .inl ⟨⟨h1,h2,h3,h4⟩,(),?_,?_⟩
  ·simp (disch:=(first | omega | (simp only [bJ];omega))) only [↓aF,aG,if_pos,if_neg,rJ,h2,and_self,decide_true]
  ·refine Is.and _ ?_;rcases Zm a1 (by omega) with ⟨d,e⟩ | ⟨d,e⟩
   ·refine .inl ⟨d,(),e,?_⟩;by_cases hl:1<=a5.length/\a5.length<=20
    ·simp (disch:=(first | omega | (simp only [bJ];omega))) only [↓aF,aG,if_pos,if_neg];rcases ah3 a5 (by omega) with ⟨d,e⟩ | ⟨d,e⟩
     ·simp only [e,↓aF,aG];obtain ⟨x,hx,hxb⟩:=get_at p0 (show a5.length-1<a5.length by omega);have hi:((a5.length:Int)-1)=((a5.length-1:Nat):Int):=by omega
      simp (disch:=(first | omega | (simp only [bJ];omega))) only [↓aF,aG,aj,hi,if_pos,↓hxb];have key:Is (some (decide (Lst x))) (RVl a5):=by
       refine Is.d ?_;show _↔(_/\_/\Lst (a5.getD (a5.length-1) p0))
       rw [hx];exact ⟨fun k=>⟨hl,d,k⟩,fun k=>k.2.2⟩
      by_cases k1:x.1.1=127
      ·by_cases k2:x.1.2.1=0
       ·simpa [k1,k2,Lst] using key
       ·simpa [k1,k2,Lst] using key
      ·simpa [k1,Lst] using key
     ·simp only [e,↓aF,aG];exact Is.f fun k=>d k.2.1
    ·have:Is (some false) (RVl a5):=Is.f fun k=>hl k.1;rcases Nat.lt_or_ge a5.length 1 with k | k
     ·simp (disch:=(first | omega | (simp only [bJ];omega))) only [↓aF,aG,if_pos,if_neg];exact this
     ·simp (disch:=(first | omega | (simp only [bJ];omega))) only [↓aF,aG,if_pos,if_neg];exact this
   ·exact .inr ⟨d,e⟩
 ·refine .inr ⟨h,?_⟩;by_cases h1:a1.length<=20
  ·by_cases h2:Q8 a2
   ·by_cases h3:1<=a3
    ·by_cases h4:a3<=3600
     ·by_cases h5:1<=a4
      ·have h6:¬a4<=3600:=fun k=>h ⟨h1,h2,⟨h3,h4⟩,⟨h5,k⟩⟩;simp (disch:=(first | omega | (simp only [bJ];omega))) only [↓aF,aG,if_pos,if_neg,rJ,h2,and_self,decide_true]
      ·simp (disch:=(first | omega | (simp only [bJ];omega))) only [↓aF,aG,if_pos,if_neg,rJ,h2,and_self,decide_true]
     ·simp (disch:=(first | omega | (simp only [bJ];omega))) only [↓aF,aG,if_pos,if_neg,rJ,h2,and_self,decide_true]
    ·simp (disch:=(first | omega | (simp only [bJ];omega))) only [↓aF,aG,if_pos,if_neg,rJ,h2,and_self,decide_true]
   ·simp (disch:=(first | omega | (simp only [bJ];omega))) only [↓aF,aG,if_pos,if_neg,rJ,h2,decide_false]
  ·simp (disch:=(first | omega | (simp only [bJ];omega))) only [↓aF,aG,if_pos,if_neg]
theorem xP (a1:List UInt8) (a2 a3 a4:Int) (a5:List uf):cu (a1,(a2,(a3,(a4,a5))))=dX (a1,(a2,(a3,(a4,a5)))):=(ah4 a1 a2 a3 a4 a5).eq (wz a1 a2 a3 a4 a5)
end Go.Proofs.Ytkpijdndakljjaa.Rt
end
