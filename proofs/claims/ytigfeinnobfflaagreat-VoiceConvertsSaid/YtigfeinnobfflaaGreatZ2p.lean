import Derived.Test.YtigfeinnobfflaaGreatZ3p
import Derived.Test.YtigfeinnobfflaaGreatXBp
import Derived.Test.YtigfeinnobfflaaGreatJ14p
import Derived.Test.YtigfeinnobfflaaGreatJ15p
set_option linter.unusedSimpArgs false
set_option linter.unusedVariables false
namespace Go.Proofs.YtigfeinnobfflaaGreat
open Go.RowKit
set_option maxHeartbeats 4000000
set_option maxRecDepth 10000
theorem V3:fZ Tryz.prog (fun _=>none) 28 [.d (.dl [] 0 none)] [] (.sl 1 0 0 none) [(1,.data 67 4 [] true)]:=by
 refine y8 KK (fn:=Tryz.f28) Tryz.func28 rfl (by show 1<=_;decide) ?_;intro C F p hC hF hp;have e1:p.emp []=true:=by rw [hp];rfl
 conv=>cbv
 simp only [e1]
 conv=>cbv
 refine ⟨DT,?_⟩
 conv=>cbv
 have ez1:(p.len [])=0:=by rw [hp];rfl
 simp only [ez1];clear ez1
 conv=>cbv
 have ez2:(p.nm 0 4)=0:=by rw [hp];rfl
 simp only [ez2];clear ez2
 conv=>cbv
 have e3:(p.neq 0 0)=true:=vS hp (by omega);simp only [e3];clear e3
 conv=>cbv
 have e4:(p.neq 0 0)=true:=vS hp (by omega);simp only [e4];clear e4
 conv=>cbv
 have e5:(p.fit 0 0 32)=true:=IW hp (by omega) (by show _<=9223372036854775807;omega);simp only [e5];clear e5
 conv=>cbv
 have ez6:(p.na 0 0)=0:=by rw [hp];rfl
 simp only [ez6];clear ez6
 conv=>cbv
 have ez7:(p.app [] [])=[]:=by rw [FP hp];rfl
 simp only [ez7];clear ez7
 conv=>cbv
 exact qE [(1,1302)] rfl rfl ⟨⟨rfl,rfl,rfl⟩,trivial⟩ rfl rfl
theorem V4:fZ Tryz.prog (fun _=>none) 38 [.d (.dl [] 0 none)] [] (.sl 1 0 0 none) [(1,.data 5 1 [] true)]:=by
 refine y8 KK (fn:=Tryz.f38) Tryz.func38 rfl (by show 1<=_;decide) ?_;intro C F p hC hF hp;have e1:p.emp []=true:=by rw [hp];rfl
 conv=>cbv
 simp only [e1]
 conv=>cbv
 refine ⟨DT,?_⟩
 conv=>cbv
 have ez8:(p.len [])=0:=by rw [hp];rfl
 simp only [ez8];clear ez8
 conv=>cbv
 have ez9:(p.nm 0 1)=0:=by rw [hp];rfl
 simp only [ez9];clear ez9
 conv=>cbv
 have e10:(p.neq 0 0)=true:=vS hp (by omega);simp only [e10];clear e10
 conv=>cbv
 have e11:(p.neq 0 0)=true:=vS hp (by omega);simp only [e11];clear e11
 conv=>cbv
 have ez12:(p.nm 0 1)=0:=by rw [hp];rfl
 simp only [ez12];clear ez12
 conv=>cbv
 have ez13:(p.len [])=0:=by rw [hp];rfl
 simp only [ez13];clear ez13
 conv=>cbv
 have e14:(p.neq 0 0)=true:=vS hp (by omega);simp only [e14];clear e14
 conv=>cbv
 have e15:(p.fit 0 0 1)=true:=IW hp (by omega) (by show _<=9223372036854775807;omega);simp only [e15];clear e15
 conv=>cbv
 have ez16:(p.na 0 0)=0:=by rw [hp];rfl
 simp only [ez16];clear ez16
 conv=>cbv
 have ez17:(p.app [] [])=[]:=by rw [FP hp];rfl
 simp only [ez17];clear ez17
 conv=>cbv
 exact qE [(1,1302)] rfl rfl ⟨⟨rfl,rfl,rfl⟩,trivial⟩ rfl rfl
set_option maxHeartbeats 4000000
set_option maxRecDepth 10000
def zB {α:Type} (l:List α):Option (List α):=bif decide (l.length<=1000000) then some l else none
def xQ (l:List Int):Option (List Int):=bif decide (l.length<=140737488355328) then some l else none
theorem V5 {cs:List DV} {n:Nat} (hw:cs.length=n*4) (h1:1<=n) (h2:n<=1000000):fZ Tryz.prog (fun _=>none) 28 [.d (.dl cs n none)] [] (.sl 1 0 n none) [(1,.data 67 4 cs true)]:=by
 refine y8 KK (fn:=Tryz.f28) Tryz.func28 rfl (by show 1<=_;decide) ?_;intro C F p hC hF hp
 conv=>cbv
 have e1:(p.emp cs)=false:=Yg hp (by omega);simp only [e1];clear e1
 conv=>cbv
 obtain ⟨z2,hz2⟩:∃z:Nat,z=(cs).length:=⟨_,rfl⟩
 have ez2:(p.len cs)=z2:=by rw [hz2];exact wZ hp
 simp only [ez2]
 conv=>cbv
 obtain ⟨z3,hz3⟩:∃z:Nat,z=n*4:=⟨_,rfl⟩
 have ez3:(p.nm n 4)=z3:=by rw [hz3];exact yQ hp
 simp only [ez3]
 conv=>cbv
 have e4:(p.neq z2 z3)=true:=vS hp (by omega);simp only [e4];clear e4
 conv=>cbv
 have e5:(p.neq 0 0)=true:=vS hp (by omega);simp only [e5];clear e5
 conv=>cbv
 have e6:(p.fit 0 n 32)=true:=IW hp (by omega) (by show _<=9223372036854775807;omega);simp only [e6];clear e6
 conv=>cbv
 have ez7:(p.na 0 n)=n:=by rw [wW hp];omega
 simp only [ez7];clear ez7
 conv=>cbv
 have ez8:(p.app [] cs)=cs:=by rw [FP hp];rfl
 simp only [ez8];clear ez8
 conv=>cbv
 exact qE [(1,1302)] rfl rfl ⟨⟨rfl,rfl,rfl⟩,trivial⟩ rfl rfl
theorem Ob:aB Tryz.prog 28 ⟨[.tmp 0 false [.dat (.list (.pair .bool (.pair (.int .i64) (.pair .bool (.int .i64)))))]],[.tmp 0 false [.own 1 67 (.pair .bool (.pair (.int .i64) (.pair .bool (.int .i64))))]],zB⟩:=by
 refine ⟨by kernel_rfl,?_⟩;show ∀(a x:List ((Bool)×((Int)×((Bool)×(Int))))),zB a=some x->fZ Tryz.prog nJ 28 [.d (.dl (aS (.pair .bool (.pair (.int .i64) (.pair .bool (.int .i64)))) a) a.length none)] [] (.sl 1 0 x.length none) [(1,.data 67 (eH (.pair .bool (.pair (.int .i64) (.pair .bool (.int .i64))))) (aS (.pair .bool (.pair (.int .i64) (.pair .bool (.int .i64)))) x) true)];intro a x hx;unfold zB at hx;rw [qN] at hx;split at hx
 ·cases hx;by_cases h0:a=[]
  ·subst h0;exact V3
  ·refine V5 ?_ (by cases a with | nil=>exact absurd rfl h0 | cons _ _=>simp) (by assumption);exact bF _ _
 ·cases hx
theorem V6 {cs:List DV} {n:Nat} (hw:cs.length=n*1) (h1:1<=n) (h2:n<=140737488355328):fZ Tryz.prog (fun _=>none) 38 [.d (.dl cs n none)] [] (.sl 1 0 n none) [(1,.data 5 1 cs true)]:=by
 refine y8 KK (fn:=Tryz.f38) Tryz.func38 rfl (by show 1<=_;decide) ?_;intro C F p hC hF hp
 conv=>cbv
 have e9:(p.emp cs)=false:=Yg hp (by omega);simp only [e9];clear e9
 conv=>cbv
 obtain ⟨z10,hz10⟩:∃z:Nat,z=(cs).length:=⟨_,rfl⟩
 have ez10:(p.len cs)=z10:=by rw [hz10];exact wZ hp
 simp only [ez10]
 conv=>cbv
 have ez11:(p.nm n 1)=n:=by rw [yQ hp];omega
 simp only [ez11];clear ez11
 conv=>cbv
 have e12:(p.neq z10 n)=true:=vS hp (by omega);simp only [e12];clear e12
 conv=>cbv
 have e13:(p.neq 0 0)=true:=vS hp (by omega);simp only [e13];clear e13
 conv=>cbv
 have ez14:(p.nm 0 1)=0:=by rw [hp];rfl
 simp only [ez14];clear ez14
 conv=>cbv
 have ez15:(p.len [])=0:=by rw [hp];rfl
 simp only [ez15];clear ez15
 conv=>cbv
 have e16:(p.neq 0 0)=true:=vS hp (by omega);simp only [e16];clear e16
 conv=>cbv
 have e17:(p.fit 0 n 1)=true:=IW hp (by omega) (by show _<=9223372036854775807;omega);simp only [e17];clear e17
 conv=>cbv
 have ez18:(p.na 0 n)=n:=by rw [wW hp];omega
 simp only [ez18];clear ez18
 conv=>cbv
 have ez19:(p.app [] cs)=cs:=by rw [FP hp];rfl
 simp only [ez19];clear ez19
 conv=>cbv
 exact qE [(1,1302)] rfl rfl ⟨⟨rfl,rfl,rfl⟩,trivial⟩ rfl rfl
theorem Ed:aB Tryz.prog 38 ⟨[.tmp 0 false [.dat (.list (.int .u8))]],[.tmp 0 false [.own 1 5 (.int .u8)]],xQ⟩:=by
 refine ⟨by kernel_rfl,?_⟩;show ∀(a x:List (Int)),xQ a=some x->fZ Tryz.prog nJ 38 [.d (.dl (aS (.int .u8) a) a.length none)] [] (.sl 1 0 x.length none) [(1,.data 5 (eH (.int .u8)) (aS (.int .u8) x) true)];intro a x hx;unfold xQ at hx;rw [qN] at hx;split at hx
 ·cases hx;by_cases h0:a=[]
  ·subst h0;exact V4
  ·refine V6 ?_ (by cases a with | nil=>exact absurd rfl h0 | cons _ _=>simp) (by assumption);exact bF _ _
 ·cases hx
set_option maxRecDepth 1000000
set_option maxHeartbeats 0
def agB:List (Nat×PL):=[(35253226045461,(.carry [.tmp 0 false [(.own 10000005 112 (.pair (.pair .bool (.pair ak (.pair .bool ak))) (.pair ak (.pair .str (.pair .str (.pair ak (.pair .bool (.list aX))))))))],.tmp 1 false [(.own 10000006 112 (.pair (.pair .bool (.pair ak (.pair .bool ak))) (.pair ak (.pair .str (.pair .str (.pair ak (.pair .bool (.list aX))))))))]])),(9241421688461328897,(.carry [.tmp 5 false [(.own 10000003 112 (.pair (.pair .bool (.pair ak (.pair .bool ak))) (.pair ak (.pair .str (.pair .str (.pair ak (.pair .bool (.list aX))))))))],.tmp 4 false [(.own 10000004 112 (.pair (.pair .bool (.pair ak (.pair .bool ak))) (.pair ak (.pair .str (.pair .str (.pair ak (.pair .bool (.list aX))))))))]])),(1240362622515203380282132486,(.carry [.tmp 10 false [dI],.tmp 5 false [(.own 10000002 112 (.pair (.pair .bool (.pair ak (.pair .bool ak))) (.pair ak (.pair .str (.pair .str (.pair ak (.pair .bool (.list aX))))))))],.tmp 4 false [(.own 10000001 112 (.pair (.pair .bool (.pair ak (.pair .bool ak))) (.pair ak (.pair .str (.pair .str (.pair ak (.pair .bool (.list aX))))))))]])),(18049651735527442,(.carry [.tmp 0 false [(.own 10000007 112 (.pair (.pair .bool (.pair ak (.pair .bool ak))) (.pair ak (.pair .str (.pair .str (.pair ak (.pair .bool (.list aX))))))))]])),(2422583247133750147154433,(.carry [.row 45 3 ak])),(325153619321154456870733528434694,(.carry [.tmp 15 false [dI],.row 45 3 ak])),(325153619321154456870733662650881,(.carry [.tmp 7 false [(.own 10000009 112 (.pair (.pair .bool (.pair ak (.pair .bool ak))) (.pair ak (.pair .str (.pair .str (.pair ak (.pair .bool (.list aX))))))))],.dead 52])),(43641380036262253538263861894119571064838,(.carry [.tmp 31 false [dI],.tmp 7 false [(.own 10000008 112 (.pair (.pair .bool (.pair ak (.pair .bool ak))) (.pair ak (.pair .str (.pair .str (.pair ak (.pair .bool (.list aX))))))))],.dead 52])),(2422583247133816584929793,(.carry [.tmp 8 false [(.own 10000012 83 (.pair ak (.pair .str (.pair .str (.pair ak (.list aX))))))]])),(325153619321163373997995722016774,(.carry [.tmp 45 false [dI],.tmp 8 false [(.own 10000011 83 (.pair ak (.pair .str (.pair .str (.pair ak (.list aX))))))]]))]
noncomputable def fO:(Int×((List (Bool×(Int×(Bool×Int))))×((List ((Bool×(Int×(Bool×Int)))×(Int×(LU×(LU×(Int×(Bool×LN)))))))×(Int×(Int×Int)))))->Option ((List (Int×(LU×(LU×(Int×LN)))))×(Int×((List (Bool×(Int×(Bool×Int))))×((List ((Bool×(Int×(Bool×Int)))×(Int×(LU×(LU×(Int×(Bool×LN)))))))×(Int×(Int×Int)))))):=fun (a1,(a2,(a3,(a4,(a5,a6))))) =>
 bif (decide (a1<a6)) then
 bif (decide (a3.length<=a3.length)) then
 some (([]:List (Int×(LU×(LU×(Int×LN))))),((3:Int),(a2,((a3.take a3.length),(a4,(a5,a6))))))
 else none
 else
 bif (decide (a1 > 1099511627776)) then
 bif (decide (a3.length<=a3.length)) then
 some (([]:List (Int×(LU×(LU×(Int×LN))))),((3:Int),(a2,((a3.take a3.length),(a4,(a5,a6))))))
 else none
 else
 au (au (bn (fun (v7,(v8,v9)) =>
 bif (decide (v7<(a3.length:Int))) then
 bif (decide ((0<=v7)/\(v7<(a3.length:Int)))) then
 ah a3[v7.toNat]? fun x10 =>
 ah (bU (x10.1.1,(x10.1.2.1,(x10.1.2.2.1,(x10.1.2.2.2,(x10.2.1,(x10.2.2.1,(x10.2.2.2.1,(x10.2.2.2.2.1,(x10.2.2.2.2.2.1,x10.2.2.2.2.2.2)))))))))) fun x11 =>
 bif (decide (x11<=a1)) then
 bif (decide (v9.length<=v9.length)) then
 bif (decide (((List.length ((v9.take v9.length)++(((x10.1.1,(x10.1.2.1,(x10.1.2.2.1,x10.1.2.2.2))),(x10.2.1,(x10.2.2.1,(x10.2.2.2.1,(x10.2.2.2.2.1,(x10.2.2.2.2.2.1,x10.2.2.2.2.2.2))))))::([]:List ((Bool×(Int×(Bool×Int)))×(Int×(LU×(LU×(Int×(Bool×LN))))))))))*112)<=140737488355328)) then
 ah (some ((v9.take v9.length)++(((x10.1.1,(x10.1.2.1,(x10.1.2.2.1,x10.1.2.2.2))),(x10.2.1,(x10.2.2.1,(x10.2.2.2.1,(x10.2.2.2.2.1,(x10.2.2.2.2.2.1,x10.2.2.2.2.2.2))))))::([]:List ((Bool×(Int×(Bool×Int)))×(Int×(LU×(LU×(Int×(Bool×LN)))))))))) fun x12 =>
 bif ((decide (v8.length<=v8.length))&&(decide (x12.length<=x12.length))) then
 some (Sum.inl ((IntKind.wrap .i64 (v7+(1:Int))),((v8.take v8.length),(x12.take x12.length))))
 else none
 else none
 else none
 else
 bif (decide (v8.length<=v8.length)) then
 bif (decide (((List.length ((v8.take v8.length)++(((x10.1.1,(x10.1.2.1,(x10.1.2.2.1,x10.1.2.2.2))),(x10.2.1,(x10.2.2.1,(x10.2.2.2.1,(x10.2.2.2.2.1,(x10.2.2.2.2.2.1,x10.2.2.2.2.2.2))))))::([]:List ((Bool×(Int×(Bool×Int)))×(Int×(LU×(LU×(Int×(Bool×LN))))))))))*112)<=140737488355328)) then
 ah (some ((v8.take v8.length)++(((x10.1.1,(x10.1.2.1,(x10.1.2.2.1,x10.1.2.2.2))),(x10.2.1,(x10.2.2.1,(x10.2.2.2.1,(x10.2.2.2.2.1,(x10.2.2.2.2.2.1,x10.2.2.2.2.2.2))))))::([]:List ((Bool×(Int×(Bool×Int)))×(Int×(LU×(LU×(Int×(Bool×LN)))))))))) fun x14 =>
 bif ((decide (x14.length<=x14.length))&&(decide (v9.length<=v9.length))) then
 some (Sum.inl ((IntKind.wrap .i64 (v7+(1:Int))),((x14.take x14.length),(v9.take v9.length))))
 else none
 else none
 else none
 else none
 else
 aA (bif ((decide (v8.length<=v8.length))&&(decide (v9.length<=v9.length))) then
 some (Sum.inl ((v8.take v8.length),(v9.take v9.length)))
 else none)) ((0:Int),(([]:List ((Bool×(Int×(Bool×Int)))×(Int×(LU×(LU×(Int×(Bool×LN))))))),([]:List ((Bool×(Int×(Bool×Int)))×(Int×(LU×(LU×(Int×(Bool×LN)))))))))) fun (v16,v17) =>
 bif ((decide (v17.length<=v17.length))&&(decide (v16.length<=v16.length))) then
 some (Sum.inl ((v17.take v17.length),(v16.take v16.length)))
 else none) fun (v18,v19) =>
 au (bif (decide ((0<=(v18.length:Int))/\(((v18.length:Int)<=(v18.length:Int))/\((((v18.length:Int)*(8:Int))<=140737488355328)/\((v18.length:Int)<=9223372036854775807))))) then
 au (bn (fun (v20,v21) =>
 bif (decide (v20<(((Int.toNat (v18.length:Int)):Nat):Int))) then
 bif (decide ((0<=v20)/\(v20<(((Int.toNat (v18.length:Int)):Nat):Int)))) then
 ah v21[v20.toNat]? fun x22 =>
 some (Sum.inl ((IntKind.wrap .i64 (v20+(1:Int))),(List.set v21 v20.toNat v20)))
 else none
 else
 aA (some (Sum.inl v21))) ((0:Int),(List.replicate (Int.toNat (v18.length:Int)) (0:Int)))) fun v24 =>
 bif ((decide ((Int.toNat (v18.length:Int))=v24.length))&&(decide (v18.length=v18.length))) then
 ah (dJ (v24,v18)) fun x25 =>
 bif (decide (((0:Int)<=0)/\((0<=(v18.length:Int))/\((((v18.length:Int)*(112:Int))<=140737488355328)/\((v18.length:Int)<=9223372036854775807))))) then
 au (bif (decide (0<=(List.length (List.replicate (Int.toNat (v18.length:Int)) ((false,((0:Int),(false,(0:Int)))),((0:Int),(([]:List UInt8),(([]:List UInt8),((0:Int),(false,([]:List Int))))))))))) then
 bn (fun (v26,v27) =>
 bif (decide (v26<(((Int.toNat (v18.length:Int)):Nat):Int))) then
 bif (decide ((0<=v26)/\(v26<(((Int.toNat (v18.length:Int)):Nat):Int)))) then
 ah x25[v26.toNat]? fun x28 =>
 bif (decide ((0<=x28)/\(x28<(v18.length:Int)))) then
 ah v18[x28.toNat]? fun x29 =>
 bif (decide (v27.length<=v27.length)) then
 bif (decide (((List.length ((v27.take v27.length)++(((x29.1.1,(x29.1.2.1,(x29.1.2.2.1,x29.1.2.2.2))),(x29.2.1,(x29.2.2.1,(x29.2.2.2.1,(x29.2.2.2.2.1,(x29.2.2.2.2.2.1,x29.2.2.2.2.2.2))))))::([]:List ((Bool×(Int×(Bool×Int)))×(Int×(LU×(LU×(Int×(Bool×LN))))))))))*112)<=140737488355328)) then
 ah (some ((v27.take v27.length)++(((x29.1.1,(x29.1.2.1,(x29.1.2.2.1,x29.1.2.2.2))),(x29.2.1,(x29.2.2.1,(x29.2.2.2.1,(x29.2.2.2.2.1,(x29.2.2.2.2.2.1,x29.2.2.2.2.2.2))))))::([]:List ((Bool×(Int×(Bool×Int)))×(Int×(LU×(LU×(Int×(Bool×LN)))))))))) fun x30 =>
 bif (decide (x30.length<=x30.length)) then
 some (Sum.inl ((IntKind.wrap .i64 (v26+(1:Int))),(x30.take x30.length)))
 else none
 else none
 else none
 else none
 else none
 else
 aA (bif (decide (v27.length<=v27.length)) then
 some (Sum.inl (v27.take v27.length))
 else none)) ((0:Int),(List.take 0 (List.replicate (Int.toNat (v18.length:Int)) ((false,((0:Int),(false,(0:Int)))),((0:Int),(([]:List UInt8),(([]:List UInt8),((0:Int),(false,([]:List Int))))))))))
 else none) fun v32 =>
 bif (decide (v32.length<=v32.length)) then
 some (Sum.inl (v32.take v32.length))
 else none
 else none
 else none
 else none) fun v33 =>
 au (bn (fun (v34,v35) =>
 bif (decide (v34<(v33.length:Int))) then
 bif (decide ((0<=v34)/\(v34<(v33.length:Int)))) then
 ah v33[v34.toNat]? fun x36 =>
 ah (bU (x36.1.1,(x36.1.2.1,(x36.1.2.2.1,(x36.1.2.2.2,(x36.2.1,(x36.2.2.1,(x36.2.2.2.1,(x36.2.2.2.2.1,(x36.2.2.2.2.2.1,x36.2.2.2.2.2.2)))))))))) fun x37 =>
 ah (xQ x36.2.2.2.2.2.2) fun x38 =>
 bif (decide (x38.length<=x38.length)) then
 bif (decide (v35.length<=v35.length)) then
 bif (decide (((List.length ((v35.take v35.length)++((x36.2.1,(x36.2.2.1,(x36.2.2.2.1,(x37,(x38.take x38.length)))))::([]:List (Int×(LU×(LU×(Int×LN))))))))*72)<=140737488355328)) then
 ah (some ((v35.take v35.length)++((x36.2.1,(x36.2.2.1,(x36.2.2.2.1,(x37,(x38.take x38.length)))))::([]:List (Int×(LU×(LU×(Int×LN)))))))) fun x39 =>
 bif (decide (x39.length<=x39.length)) then
 some (Sum.inl ((IntKind.wrap .i64 (v34+(1:Int))),(x39.take x39.length)))
 else none
 else none
 else none
 else none
 else none
 else
 aA (bif (decide (v35.length<=v35.length)) then
 some (Sum.inl (v35.take v35.length))
 else none)) ((0:Int),([]:List (Int×(LU×(LU×(Int×LN))))))) fun v41 =>
 bif ((decide (v41.length<=v41.length))&&(decide (v19.length<=v19.length))) then
 some ((v41.take v41.length),((0:Int),(a2,((v19.take v19.length),(a4,(a5,a1))))))
 else none
noncomputable def xR:CE:=⟨[.tmp 0 false [.dat (.list aX)]],[.tmp 0 false [.own 1 5 aX]],xQ⟩
noncomputable def agC:List (Nat×CE):=[(30,ZR),(62,ajJ),(38,xR)]
theorem V7:cu Tryz.prog agC:=⟨N9,ajK,Ed,trivial⟩
noncomputable def agD:CE:=⟨[.tmp 0 false [.pt 20000010 0],.tmp 1 false [.dat ak],.mix 20000010 Ie],[.tmp 0 false [(.own 10000013 83 (.pair ak (.pair .str (.pair .str (.pair ak (.list aX))))))],.tmp 1 false [fB],.mix 20000010 [(.kb true),(.dat (.list (.pair .bool (.pair ak (.pair .bool ak))))),(.own 10000010 112 (.pair (.pair .bool (.pair ak (.pair .bool ak))) (.pair ak (.pair .str (.pair .str (.pair ak (.pair .bool (.list aX)))))))),dI,dI,dI],.dead 20000011],fO⟩
theorem ad8:aB Tryz.prog 16 agD :=
 dF (bV (plan:=fA agB) (eg:=dD) KK dM (bM V7) Tryz.func16 (by kernel_rfl) (by kernel_rfl) 10000 (fun a r h=>Eq.trans (show _=fO a from by kernel_rfl) h)) (by rfl)
def agE:List (Nat×PL):=[(18049651735527937,(.carry [.mix 40 [dO,dI,dO,dI,dI,dS,dS,dI,(.kb false),(.own 10000001 5 aX)],.dead 42]))]
noncomputable def gZ:(LU×(LU×(LN×(Int×((List (Bool×(Int×(Bool×Int))))×((List ((Bool×(Int×(Bool×Int)))×(Int×(LU×(LU×(Int×(Bool×LN)))))))×(Int×(Int×Int))))))))->Option (Int×(Int×((List (Bool×(Int×(Bool×Int))))×((List ((Bool×(Int×(Bool×Int)))×(Int×(LU×(LU×(Int×(Bool×LN)))))))×(Int×(Int×Int)))))):=fun (a1,(a2,(a3,(a4,(a5,(a6,(a7,(a8,a9)))))))) =>
 bif (decide (a4<a9)) then
 bif (decide (a6.length<=a6.length)) then
 some ((0:Int),((3:Int),(a5,((a6.take a6.length),(a7,(a8,a9))))))
 else none
 else
 bif (decide (a4 > 1099511627776)) then
 bif (decide (a6.length<=a6.length)) then
 some ((0:Int),((3:Int),(a5,((a6.take a6.length),(a7,(a8,a9))))))
 else none
 else
 bif (decide (a7>=10000)) then
 bif (decide (a6.length<=a6.length)) then
 some ((0:Int),((4:Int),(a5,((a6.take a6.length),(a7,(a8,a9))))))
 else none
 else
 ah (xQ a3) fun x10 =>
 au (bif (decide (a7<(a5.length:Int))) then
 bif (decide ((0<=a7)/\(a7<(a5.length:Int)))) then
 ah a5[a7.toNat]? fun x11 =>
 bif (decide (x10.length<=x10.length)) then
 some (Sum.inl (x11.1,(x11.2.1,(x11.2.2.1,(x11.2.2.2,(a7,(a1,(a2,(a4,(x10.take x10.length))))))))))
 else none
 else none
 else
 bif (decide (x10.length<=x10.length)) then
 some (Sum.inl (false,((0:Int),(false,((0:Int),(a7,(a1,(a2,(a4,(x10.take x10.length))))))))))
 else none) fun (v12,(v13,(v14,(v15,(v16,(v17,(v18,(v19,v20)))))))) =>
 ah (some (IntKind.wrap .i64 (a7+(1:Int)))) fun x21 =>
 bif v12 then
 bif (decide (a6.length<=a6.length)) then
 some (v16,((0:Int),(a5,((a6.take a6.length),(x21,((IntKind.wrap .i64 (a8+(1:Int))),a4))))))
 else none
 else
 bif (decide (v20.length<=v20.length)) then
 bif (decide (a6.length<=a6.length)) then
 bif (decide (((List.length ((a6.take a6.length)++(((v12,(v13,(v14,v15))),(v16,(v17,(v18,(v19,(false,(v20.take v20.length)))))))::([]:List ((Bool×(Int×(Bool×Int)))×(Int×(LU×(LU×(Int×(Bool×LN))))))))))*112)<=140737488355328)) then
 ah (some ((a6.take a6.length)++(((v12,(v13,(v14,v15))),(v16,(v17,(v18,(v19,(false,(v20.take v20.length)))))))::([]:List ((Bool×(Int×(Bool×Int)))×(Int×(LU×(LU×(Int×(Bool×LN)))))))))) fun x23 =>
 bif v14 then
 bif (decide (v20.length<=v20.length)) then
 bif (decide (x23.length<=x23.length)) then
 bif (decide (((List.length ((x23.take x23.length)++(((v12,(v13,(v14,v15))),(v16,(v17,(v18,(v19,(true,(v20.take v20.length)))))))::([]:List ((Bool×(Int×(Bool×Int)))×(Int×(LU×(LU×(Int×(Bool×LN))))))))))*112)<=140737488355328)) then
 ah (some ((x23.take x23.length)++(((v12,(v13,(v14,v15))),(v16,(v17,(v18,(v19,(true,(v20.take v20.length)))))))::([]:List ((Bool×(Int×(Bool×Int)))×(Int×(LU×(LU×(Int×(Bool×LN)))))))))) fun x24 =>
 bif (decide (x24.length<=x24.length)) then
 some (v16,((0:Int),(a5,((x24.take x24.length),(x21,(a8,a4))))))
 else none
 else none
 else none
 else none
 else
 bif (decide (x23.length<=x23.length)) then
 some (v16,((0:Int),(a5,((x23.take x23.length),(x21,(a8,a4))))))
 else none
 else none
 else none
 else none
noncomputable def agF:List (Nat×CE):=[(38,xR),(16,agD)]
theorem V8:cu Tryz.prog agF:=⟨Ed,ad8,trivial⟩
noncomputable def agG:CE:=⟨[.tmp 0 false [.pt 20000010 0],.tmp 1 false [.dat .str],.tmp 2 false [.dat .str],.tmp 3 false [.dat (.list aX)],.tmp 4 false [.dat ak],.mix 20000010 Ie],[.tmp 0 false [dI],.tmp 1 false [fB],.mix 20000010 [(.kb true),(.dat (.list (.pair .bool (.pair ak (.pair .bool ak))))),(.own 10000002 112 (.pair (.pair .bool (.pair ak (.pair .bool ak))) (.pair ak (.pair .str (.pair .str (.pair ak (.pair .bool (.list aX)))))))),dI,dI,dI],.dead 20000011],gZ⟩
theorem ad9:aB Tryz.prog 23 agG :=
 dF (bV (plan:=fA agE) (eg:=dD) KK dM (bM V8) Tryz.func23 (by kernel_rfl) (by kernel_rfl) 10000 (fun a r h=>Eq.trans (show _=gZ a from by kernel_rfl) h)) (by rfl)
def agH:List (Nat×PL):=[(68853957121,(.carry [.tmp 4 false [dI]])),(9241421688456087558,(.carry [.tmp 29 false [dI],.tmp 4 false [dI]]))]
noncomputable def ig:((List (Bool×(Int×(Bool×Int))))×((List ((Bool×(Int×(Bool×Int)))×(Int×(LU×(LU×(Int×(Bool×LN)))))))×(Int×(Int×Int))))->Option (Int×Bool):=fun (a1,(a2,(a3,(a4,a5)))) =>
 bif (decide ((a2.length:Int)=0)) then
 some ((0:Int),false)
 else
 bif (decide (((0:Int)<=0)/\(0<(a2.length:Int)))) then
 ah a2[0]? fun x6 =>
 ah (bU (x6.1.1,(x6.1.2.1,(x6.1.2.2.1,(x6.1.2.2.2,(x6.2.1,(x6.2.2.1,(x6.2.2.2.1,(x6.2.2.2.2.1,(x6.2.2.2.2.2.1,x6.2.2.2.2.2.2)))))))))) fun x7 =>
 au (bn (fun (v8,v9) =>
 bif (decide (v8<(a2.length:Int))) then
 bif (decide ((0<=v8)/\(v8<(a2.length:Int)))) then
 ah a2[v8.toNat]? fun x10 =>
 ah (bU (x10.1.1,(x10.1.2.1,(x10.1.2.2.1,(x10.1.2.2.2,(x10.2.1,(x10.2.2.1,(x10.2.2.2.1,(x10.2.2.2.2.1,(x10.2.2.2.2.2.1,x10.2.2.2.2.2.2)))))))))) fun x11 =>
 some (Sum.inl ((IntKind.wrap .i64 (v8+(1:Int))),(eU v9 x11)))
 else none
 else
 aA (some (Sum.inl v9))) ((0:Int),x7)) fun v13 =>
 some (v13,true)
 else none
noncomputable def agI:List (Nat×CE):=[(30,ZR),(23,agG)]
theorem V9:cu Tryz.prog agI:=⟨N9,ad9,trivial⟩
noncomputable def ajL:CE:=⟨[.tmp 0 false [.pt 20000010 0],.mix 20000010 Ie],[.tmp 0 false [dI],.tmp 1 false [dO]],ig⟩
theorem ajM:aB Tryz.prog 15 ajL :=
 dF (bV (plan:=fA agH) (eg:=dD) KK dM (bM V9) Tryz.func15 (by kernel_rfl) (by kernel_rfl) 10000 (fun a r h=>Eq.trans (show _=ig a from by kernel_rfl) h)) (by rfl)
set_option maxRecDepth 100000
set_option maxHeartbeats 4000000
abbrev FT:=Bool×(Int×(Bool×Int))
abbrev DgT:=Int×(List UInt8×(List UInt8×(Int×List Int)))
structure Ca where
 fs:List FT
 ps:List Jv
 sent:Int
 lost:Int
 now:Int
def Ca.t (c:Ca):List FT×(List Jv×(Int×(Int×Int))):=(c.fs,(c.ps,(c.sent,(c.lost,c.now))))
def Wh (f:FT):Prop:=0<=f.2.1/\f.2.1<=3000/\0<=f.2.2.2/\f.2.2.2<=3000
def pat (p:Jv):Int:=if p.2.2.2.2.2.1=true then p.2.2.2.2.1+p.1.2.2.2 else p.2.2.2.2.1+p.1.2.1
def C9 (p:Jv):List Int:=p.2.2.2.2.2.2
def POk (p:Jv):Prop:=Wh p.1/\0<=p.2.2.2.2.1/\p.2.2.2.2.1<=1000000/\(C9 p).length<=2000
def CaV (c:Ca):Prop:=(∀f∈c.fs,Wh f)/\(∀p∈c.ps,POk p)/\c.ps.length<=190/\(0<=c.sent/\c.sent<=1000)/\(0<=c.lost/\c.lost<=c.sent)/\(0<=c.now/\c.now<=1000000)
theorem acZ {p:Jv} (h:POk p):bU (p.1.1,(p.1.2.1,(p.1.2.2.1,(p.1.2.2.2,(p.2.1,(p.2.2.1,(p.2.2.2.1,(p.2.2.2.2.1,(p.2.2.2.2.2.1,p.2.2.2.2.2.2)))))))))=some (pat p):=by
 obtain ⟨⟨h1,h2,h3,h4⟩,h5,h6,_⟩:=h;unfold bU pat;refine So.eq (So.if (fun hb => .mk ?_) fun hb => .mk ?_)
 ·have hb:p.2.2.2.2.2.1=true:=hb;rw [if_pos hb,aj (by omega)]
 ·have hb:p.2.2.2.2.2.1=false:=hb;rw [if_neg (by simp [hb]),aj (by omega)]
theorem agJ (a b:Int):eU a b<=a/\eU a b<=b/\(eU a b=a\/eU a b=b):=by unfold eU;split<;>omega
theorem ac0 {c:Ca} (h:CaV c):So (ig c.t) (fun r=>(r.2=false/\c.ps=[])\/(r.2=true/\(∃p∈c.ps,pat p=r.1)/\∀p∈c.ps,r.1<=pat p)):=by
 obtain ⟨_,hp,hl,_⟩:=h;unfold ig;refine So.dec (fun he => .mk (.inl ⟨rfl,List.length_eq_zero_iff.1 (by have:((c.ps.length:Nat):Int)=0:=he;omega)⟩)) fun he => ?_;have he:¬((c.ps.length:Nat):Int)=0:=he;have h0:0<c.ps.length:=by omega
 refine So.pos (show (0:Int)<=0/\(0:Int)<((c.ps.length:Nat):Int) by omega) (So.is (List.getElem?_eq_getElem (l:=c.ps) h0) (So.is (acZ (hp _ (List.getElem_mem h0))) ?_));refine So.join (P:=fun v=>(∃p∈c.ps,pat p=v)/\∀p∈c.ps,v<=pat p) (So.loop (fun s=>∃k:Nat,s.1=(k:Int)/\k<=c.ps.length/\(∃p∈c.ps,pat p=s.2)/\∀p∈c.ps.take k,s.2<=pat p) (fun s=>((c.ps.length:Int)-s.1).toNat) (fun s hs => ?_) ⟨0,rfl,by omega,⟨_,List.getElem_mem h0,rfl⟩,fun p hp=>by simp at hp⟩) fun v hv => .mk (.inr ⟨rfl,hv⟩);obtain ⟨i,v⟩:=s;obtain ⟨k,rfl,h2,h3,h4⟩:=hs;simp only at h3 h4;refine So.dec (p:=(k:Int)<((c.ps.length:Nat):Int)) (fun hk=>So.pos (p:=0<=(k:Int)/\(k:Int)<((c.ps.length:Nat):Int)) (by omega) ?_) fun hk => .out (.inl ⟨h3,?_⟩)
 ·have hk1:k<c.ps.length:=by omega
  refine So.is (iI (l:=c.ps) hk1) (So.is (acZ (hp _ (List.getElem_mem hk1))) ?_);have hm:=agJ v (pat c.ps[k]);rw [aj (n:=(k:Int)+1) (by omega)];refine .inl ⟨⟨k+1,by simp,by omega,?_,fun p hp' => ?_⟩,by simp only;omega⟩
  ·rcases hm.2.2 with e | e
   ·simp only [e];exact h3
   ·simp only [e];exact ⟨_,List.getElem_mem hk1,rfl⟩
  ·rw [List.take_add_one,List.getElem?_eq_getElem hk1] at hp';simp only;rcases List.mem_append.1 hp' with hp' | hp'
   ·have:=h4 p hp';omega
   ·rw [show p=c.ps[k] by simpa using hp'];omega
 ·rw [List.take_of_length_le (by omega)] at h4;exact h4
theorem Oc {l:List Int} (h:l.length<=2000):xQ l=some l:=by
 unfold xQ;exact So.eq (So.pos (by omega) (.mk rfl))
def agK (c:Ca) (d:List Int) (n:Int) (r:Int×(Int×(List FT×(List Jv×(Int×(Int×Int)))))):Prop :=
 r.2.1=0/\∃c':Ca,r.2.2=c'.t/\CaV c'/\c'.fs=c.fs/\c'.sent=c.sent+1/\c'.now=n/\c'.ps.length<=c.ps.length+2/\(∀p∈c'.ps,p∈c.ps\/C9 p=d)/\∀dl,c.fs.getD c.sent.toNat (false,(0,(false,0)))=(false,(dl,(false,0)))->∃p,c'.ps=c.ps++[p]/\C9 p=d/\pat p=n+dl
theorem agL {c:Ca} (h:CaV c) (a b:List UInt8) {d:List Int} (hd:d.length<=2000) {n:Int} (hn:c.now<=n/\n<=1000000) (hs:c.sent<=900) (hl:c.ps.length<=188):So (gZ (a,(b,(d,(n,c.t))))) (agK c d n):=by
 obtain ⟨hf,hp,_,hsn,hlo,hnw⟩:=h;unfold gZ;refine So.neg (p:=n<c.now) (by omega) (So.neg (by omega) (So.neg (p:=c.sent>=10000) (by omega) (So.is (Oc hd) ?_)));refine So.join (P:=fun s=>∃f:FT,Wh f/\f=c.fs.getD c.sent.toNat (false,(0,(false,0)))/\s=(f.1,(f.2.1,(f.2.2.1,(f.2.2.2,(c.sent,(a,(b,(n,d))))))))) (So.dec (fun hi => ?_) fun hi=>So.le (.inl ⟨(false,(0,(false,0))),⟨by simp,by simp,by simp,by simp⟩,?_,by rw [List.take_length]⟩)) fun s hs' => ?_
 ·have hi:c.sent<((c.fs.length:Nat):Int):=hi;have hi2:c.sent.toNat<c.fs.length:=by omega
  refine So.pos (show 0<=c.sent/\c.sent<((c.fs.length:Nat):Int) by omega) (So.is (List.getElem?_eq_getElem (l:=c.fs) hi2) (So.le (.inl ⟨c.fs[c.sent.toNat],hf _ (List.getElem_mem hi2),(NT _ hi2).symm,by rw [List.take_length]⟩)))
 ·have hi:¬c.sent<((c.fs.length:Nat):Int):=hi;rw [List.getD_eq_getElem?_getD,List.getElem?_eq_none (by omega)];rfl
 ·obtain ⟨f,hf1,hf2,rfl⟩:=hs';have e1:IntKind.wrap .i64 (c.sent+1)=c.sent+1:=aj (by omega);have e2:IntKind.wrap .i64 (c.lost+1)=c.lost+1:=aj (by omega);refine So.is rfl (So.if (fun hlost=>So.le (.mk ?_)) fun hlost=>So.le (So.le ?_))
  ·rw [e1,e2];simp only [List.take_length];refine ⟨rfl,⟨c.fs,c.ps,c.sent+1,c.lost+1,n⟩,rfl,⟨hf,hp,by simp only;omega,by simp only;omega,by simp only;omega,by simp only;omega⟩,rfl,rfl,rfl,by simp only;omega,fun p hp => .inl hp,fun dl he => ?_⟩;rw [hf2,he] at hlost;cases hlost
  ·have hok:∀s,POk ((f.1,(f.2.1,(f.2.2.1,f.2.2.2))),(c.sent,(a,(b,(n,(s,d)))))):=fun s=>⟨hf1,by simp only;omega,by simp only;omega,hd⟩
   simp only [List.take_length];refine So.pos (by simp only [List.length_append,List.length_cons,List.length_nil];omega) (So.is rfl (So.if (fun hag=>So.le (So.le ?_)) fun hag=>So.le (.mk ?_)))
   ·refine So.pos (by simp only [List.length_append,List.length_cons,List.length_nil];omega) (So.is rfl (So.le (.mk ?_)));rw [e1];refine ⟨rfl,⟨c.fs,_,c.sent+1,c.lost,n⟩,rfl,⟨hf,fun p hp' => ?_,by simp only [List.length_append,List.length_cons,List.length_nil];omega,by simp only;omega,by simp only;omega,by simp only;omega⟩,rfl,rfl,rfl,by simp only [List.length_append,List.length_cons,List.length_nil];omega,fun p hp' => ?_,fun dl he => ?_⟩
    ·rcases List.mem_append.1 hp' with hp' | hp'
     ·rcases List.mem_append.1 hp' with hp' | hp'
      ·exact hp p hp'
      ·rw [List.mem_singleton.1 hp'];exact hok _
     ·rw [List.mem_singleton.1 hp'];exact hok _
    ·rcases List.mem_append.1 hp' with hp' | hp'
     ·rcases List.mem_append.1 hp' with hp' | hp'
      ·exact .inl hp'
      ·rw [List.mem_singleton.1 hp'];exact .inr rfl
     ·rw [List.mem_singleton.1 hp'];exact .inr rfl
    ·rw [hf2,he] at hag;cases hag
   ·rw [e1];refine ⟨rfl,⟨c.fs,_,c.sent+1,c.lost,n⟩,rfl,⟨hf,fun p hp' => ?_,by simp only [List.length_append,List.length_cons,List.length_nil];omega,by simp only;omega,by simp only;omega,by simp only;omega⟩,rfl,rfl,rfl,by simp only [List.length_append,List.length_cons,List.length_nil];omega,fun p hp' => ?_,fun dl he=>⟨_,rfl,rfl,?_⟩⟩
    ·rcases List.mem_append.1 hp' with hp' | hp'
     ·exact hp p hp'
     ·rw [List.mem_singleton.1 hp'];exact hok _
    ·rcases List.mem_append.1 hp' with hp' | hp'
     ·exact .inl hp'
     ·rw [List.mem_singleton.1 hp'];exact .inr rfl
    ·rw [hf2,he];simp [pat]
def gI (n:Int) (p:Jv):Bool:=decide (pat p<=n)
def alm (c:Ca) (n:Int) (r:List DgT×(Int×(List FT×(List Jv×(Int×(Int×Int)))))):Prop :=
 r.2.1=0/\r.2.2=({c with ps:=c.ps.filter (fun p => !gI n p),now:=n}:Ca).t/\r.1.length=(c.ps.filter (gI n)).length/\∀d∈r.1,∃p∈c.ps.filter (gI n),d.2.2.2.2=C9 p
theorem Wi {c:Ca} (h:CaV c) {n:Int} (hn:c.now<=n/\n<=1000000):So (fO (n,c.t)) (alm c n):=by
 obtain ⟨hf,hp,hl,_⟩:=h;have hy:(c.ps.filter (gI n)).length<=c.ps.length:=List.length_filter_le ..;have hmy:∀p∈c.ps.filter (gI n),POk p:=fun p hp'=>hp p (List.mem_filter.1 hp').1;show So _ fun (r:List DgT×(Int×(List FT×(List Jv×(Int×(Int×Int))))))=>r.2.1=0/\r.2.2=({c with ps:=c.ps.filter (fun p => !gI n p),now:=n}:Ca).t/\r.1.length=(c.ps.filter (gI n)).length/\∀d∈r.1,∃p∈c.ps.filter (gI n),d.2.2.2.2=C9 p;unfold fO;refine So.neg (p:=n<c.now) (by omega) (So.neg (by omega) ?_);refine So.join (P:=fun s=>s=(c.ps.filter (gI n),c.ps.filter fun p => !gI n p)) (So.join (P:=fun s=>s=(c.ps.filter (fun p => !gI n p),c.ps.filter (gI n))) (So.loop (fun s=>∃k:Nat,k<=c.ps.length/\s=((k:Int),((c.ps.take k).filter (fun p => !gI n p),(c.ps.take k).filter (gI n)))) (fun s=>((c.ps.length:Int)-s.1).toNat) (fun s hs => ?_) ⟨0,by omega,rfl⟩) fun s hs => ?_) fun s hs => ?_
 ·obtain ⟨k,hk,rfl⟩:=hs;have hn1:((c.ps.take k).filter (fun p => !gI n p)).length<=k:=Nat.le_trans (List.length_filter_le ..) (by rw [List.length_take];omega);have hy1:((c.ps.take k).filter (gI n)).length<=k:=Nat.le_trans (List.length_filter_le ..) (by rw [List.length_take];omega);refine So.dec (p:=(k:Int)<((c.ps.length:Nat):Int)) (fun hk1=>So.pos (p:=0<=(k:Int)/\(k:Int)<((c.ps.length:Nat):Int)) (by omega) ?_) fun hk1 => .out (So.both (Nat.le_refl _) (Nat.le_refl _) (.inl ?_))
  ·have hk2:k<c.ps.length:=by omega
   refine So.is (iI (l:=c.ps) hk2) (So.is (acZ (hp _ (List.getElem_mem hk2))) ?_);have ht:c.ps.take (k+1)=c.ps.take k++[c.ps[k]]:=by rw [List.take_add_one,List.getElem?_eq_getElem hk2];rfl
   simp only [List.take_length,aj (n:=(k:Int)+1) (by omega)];refine So.dec (fun hd=>So.le (So.pos (by simp only [List.length_append,List.length_cons,List.length_nil];omega) (So.is rfl (So.both (Nat.le_refl _) (Nat.le_refl _) (.inl ⟨⟨k+1,by omega,?_⟩,by simp only;omega⟩))))) fun hd=>So.le (So.pos (by simp only [List.length_append,List.length_cons,List.length_nil];omega) (So.is rfl (So.both (Nat.le_refl _) (Nat.le_refl _) (.inl ⟨⟨k+1,by omega,?_⟩,by simp only;omega⟩))))
   ·have hb:gI n c.ps[k]=true:=decide_eq_true hd;rw [ht,List.filter_append,List.filter_append];simp [hb,List.take_length]
   ·have hb:gI n c.ps[k]=false:=decide_eq_false hd;rw [ht,List.filter_append,List.filter_append];simp [hb,List.take_length]
  ·simp only [List.take_length];rw [List.take_of_length_le (l:=c.ps) (by omega)]
 ·subst hs;exact So.both (Nat.le_refl _) (Nat.le_refl _) (.inl (by simp only [List.take_length]))
 ·subst hs;simp only;generalize c.ps.filter (gI n)=y at *
  generalize c.ps.filter (fun p => !gI n p)=z at *
  refine So.join (P:=fun v=>v.length=y.length/\∀p∈v,p∈y) (So.pos (by omega) ?_) fun v hv => ?_
  ·refine So.join (P:=fun v=>Pm y v v/\v.length=y.length) (So.loop (fun s=>0<=s.1/\s.1<=(y.length:Int)/\s.2.length=y.length/\∀x∈s.2,0<=x/\x<(y.length:Int)) (fun s=>((y.length:Int)-s.1).toNat) (fun s hs => ?_) ⟨by simp only;omega,by simp only;omega,by simp,fun x hx => ?_⟩) fun v hv => ?_
   ·obtain ⟨i,v⟩:=s;obtain ⟨h1,h2,h3,h4⟩:=hs;simp only at h1 h2 h3 h4;refine So.dec (fun hi => ?_) fun _ => .out (.inl ⟨⟨List.Perm.refl _,show v.length<=1000 by omega,fun x hx=>h4 x hx⟩,h3⟩);have hi:i<(y.length:Int):=by simpa using hi
    refine So.pos (by omega) (So.get (show i.toNat<v.length by omega) fun x _ _ => ?_);rw [aj (n:=i+1) (by omega)];refine .inl ⟨⟨by simp only;omega,by simp only;omega,by simp only [List.length_set];exact h3,fun x hx => ?_⟩,by simp only;omega⟩;rcases List.mem_or_eq_of_mem_set hx with e | e
    ·exact h4 x e
    ·rw [e];omega
   ·have hx':=List.mem_replicate.1 hx;rw [hx'.2];omega
   ·obtain ⟨hv1,hv2⟩:=hv;refine So.both (by omega) trivial (So.bind (acY hv1 (by omega)) fun w hw=>So.pos (by omega) ?_);have hwl:w.length=y.length:=hw.pm.length_eq.trans hv2;refine So.join (P:=fun v=>v.length=y.length/\∀p∈v,p∈y) (So.pos (by omega) (So.loop (fun s=>∃k:Nat,s.1=(k:Int)/\k<=y.length/\s.2.length=k/\∀p∈s.2,p∈y) (fun s=>((y.length:Int)-s.1).toNat) (fun s hs => ?_) ⟨0,rfl,by omega,by simp,fun p hp=>by simp at hp⟩)) fun v hv=>So.le (.inl (by rw [List.take_length];exact hv));obtain ⟨i,v⟩:=s;obtain ⟨k,rfl,h2,h3,h4⟩:=hs;simp only at h3 h4;refine So.dec (fun hk => ?_) fun hk => .out (So.le (.inl ?_))
    ·have hk2:k<y.length:=by simpa using hk
     refine So.pos (by omega) ?_;have hk3:k<w.length:=by omega
     have hx:=hw.ok _ (List.getElem_mem hk3);refine So.is (iI hk3) (So.pos hx (So.is (List.getElem?_eq_getElem (l:=y) (by omega)) (So.le (So.pos (by simp only [List.length_append,List.length_cons,List.length_nil,List.length_take];omega) (So.is rfl (So.le (.inl ?_)))))));simp only [List.take_length,aj (n:=(k:Int)+1) (by omega)];refine ⟨⟨k+1,by simp,by omega,by simp [h3],fun p hp' => ?_⟩,by omega⟩;rcases List.mem_append.1 hp' with hp' | hp'
     ·exact h4 p hp'
     ·rw [List.mem_singleton.1 hp'];exact List.getElem_mem (by omega)
    ·have hk:¬k<y.length:=by simpa using hk
     rw [List.take_length];exact ⟨show v.length=y.length by omega,h4⟩
  ·obtain ⟨hv1,hv2⟩:=hv;refine So.join (P:=fun o=>o.length=y.length/\∀d∈o,∃p∈y,d.2.2.2.2=C9 p) (So.loop (fun s=>∃k:Nat,s.1=(k:Int)/\k<=v.length/\s.2.length=k/\∀d∈s.2,∃p∈y,d.2.2.2.2=C9 p) (fun s=>((v.length:Int)-s.1).toNat) (fun s hs => ?_) ⟨0,rfl,by omega,rfl,fun d hd=>by cases hd⟩) fun o ho => ?_
   ·obtain ⟨i,o⟩:=s;obtain ⟨k,rfl,h2,h3,h4⟩:=hs;simp only at h3 h4;refine So.dec (fun hk => ?_) fun hk => .out (So.le (.inl ?_))
    ·have hk2:k<v.length:=by simpa using hk
     refine So.pos (by omega) ?_;have hm:=hv2 _ (List.getElem_mem hk2);have hpk:=hmy _ hm;refine So.is (iI hk2) (So.is (acZ hpk) (So.is (Oc hpk.2.2.2) (So.le (So.le (So.pos (by simp only [List.length_append,List.length_cons,List.length_nil,List.length_take];omega) (So.is rfl (So.le (.inl ?_))))))));simp only [List.take_length,aj (n:=(k:Int)+1) (by omega)];refine ⟨⟨k+1,by simp,by omega,by simp [h3],fun d hd => ?_⟩,by omega⟩;rcases List.mem_append.1 hd with hd | hd
     ·exact h4 d hd
     ·rw [List.mem_singleton.1 hd];exact ⟨_,hm,rfl⟩
    ·have hk:¬k<v.length:=by simpa using hk
     rw [List.take_length];exact ⟨show o.length=y.length by omega,h4⟩
   ·refine So.both (Nat.le_refl _) (Nat.le_refl _) (.mk ?_);rw [List.take_length,List.take_length];exact ⟨rfl,rfl,ho.1,ho.2⟩
theorem ZW (m:Int):So (jF m) (fun e=>0<=e/\e<=7):=by
 unfold jF;refine So.join (P:=fun _=>True) (So.loop (fun v=>0<=v/\v<=7) (fun v=>(7-v).toNat) (fun v hv => ?_) ⟨by omega,by omega⟩) fun _ _ => .mk ⟨by omega,by omega⟩;refine So.dec (fun h => ?_) fun _ => .out (.inl trivial);rw [aj (n:=v+8) (by omega),aj (n:=v+1) (by omega)];refine So.is rfl (So.pos (by omega) (So.dec (fun _ => .out (.out (.mk (by omega)))) fun _ => .inl ⟨by omega,by omega⟩))
theorem ajN (x:Int):So (qP x) (fun b=>0<=b/\b<=255):=by
 unfold qP;refine So.join (P:=fun _=>True) (So.dec (fun _ => .inl trivial) fun _ => .inl trivial) fun p _ => ?_;refine So.is rfl (So.bind (ZW _) fun e he => ?_);rw [aj (n:=e+3) (by omega)];exact So.is rfl (So.pos (by omega) (.mk (qO _)))
theorem aln (x:Int):So (uh x) (fun b=>0<=b/\b<=255):=by
 unfold uh;refine So.join (P:=fun _=>True) (So.dec (fun _ => .inl trivial) fun _ => .inl trivial) fun p _ => ?_;refine So.bind (ZW _) fun e he => ?_;refine So.join (P:=fun v=>0<=v) (So.dec (fun _ => .inl (by omega)) fun _ => .inl (by rw [aj (by omega)];omega)) fun v hv => ?_;exact So.pos hv (.mk (qO _))
theorem Wj (b:Int) (hb:0<=b/\b<=255):So (kQ b) (fun x => -32768<=x/\x<=32767):=by
 unfold kQ;rw [aj (n:=b) (by omega),aj (n:=255-b) (by omega)];refine So.is rfl (So.is rfl (So.pos ?_ (So.is rfl (So.dec (fun _ => .mk (vk _)) fun _ => .mk (vk _)))));rw [Int.tdiv_eq_ediv_of_nonneg (by omega),aj (by omega)];exact Int.tmod_nonneg _ (by omega)
theorem ZX (b:Int):So (lD b) (fun x => -32768<=x/\x<=32767):=by
 unfold lD;refine So.is rfl (So.is rfl (So.is rfl (So.is rfl (So.dec (fun h => ?_) fun _=>So.dec (fun _ => .mk (vk _)) fun _ => .mk (vk _)))));refine So.is rfl (So.pos ?_ (So.is rfl (So.dec (fun _ => .mk (vk _)) fun _ => .mk (vk _))));have h8:=Int.tmod_lt_of_pos (IntKind.wrap .i64 (Int.tdiv (IntKind.wrap .i64 (IntKind.wrap .u8 (((BitVec.toNat ((BitVec.ofInt 8 b) ^^^ (BitVec.ofInt 8 (85:Int)))):Nat):Int))) (16:Int))) (show (0:Int)<8 by omega);rw [aj (by omega)];omega
noncomputable def pkT (f:Int->Option Int) (c:Int):List Int->Option (List Int×Int):=fun a1 =>
 bif (decide ((a1.length:Int) > 8000)) then
 some (([]:List Int),(4:Int))
 else
 bif (decide ((0<=(a1.length:Int))/\(((a1.length:Int)<=(a1.length:Int))/\((((a1.length:Int)*c)<=140737488355328)/\((a1.length:Int)<=9223372036854775807))))) then
 au (bn (fun (v2,v3) =>
 bif (decide (v2<(a1.length:Int))) then
 bif (decide ((0<=v2)/\(v2<(a1.length:Int)))) then
 ah a1[v2.toNat]? fun x4 =>
 ah (f x4) fun x5 =>
 bif (decide ((0<=v2)/\(v2<(((Int.toNat (a1.length:Int)):Nat):Int)))) then
 ah v3[v2.toNat]? fun x6 =>
 some (Sum.inl ((IntKind.wrap .i64 (v2+(1:Int))),(List.set v3 v2.toNat x5)))
 else none
 else none
 else
 aA (some (Sum.inl v3))) ((0:Int),(List.replicate (Int.toNat (a1.length:Int)) (0:Int)))) fun v8 =>
 bif (decide ((Int.toNat (a1.length:Int))<=v8.length)) then
 some ((List.take (Int.toNat (a1.length:Int)) v8),(0:Int))
 else none
 else none
theorem Wn:oq=pkT qP 1:=rfl
theorem ZY:uj=pkT uh 1:=rfl
theorem Z4:um=pkT kQ 2:=rfl
theorem ac1:CZ=pkT lD 2:=rfl
theorem TY {f:Int->Option Int} {c:Int} {B R:Int->Prop} (hf:∀x,B x->So (f x) R) (h0:R 0) (hc:c<=2) {l:List Int} (hl:l.length<=8000) (hB:∀x∈l,B x) :
 So (pkT f c l) (fun r=>r.2=0/\r.1.length=l.length/\∀x∈r.1,R x):=by
 unfold pkT;have hm:(l.length:Int)*c<=16000:=by
  have:(l.length:Int)*c<=(l.length:Int)*2:=Int.mul_le_mul_of_nonneg_left hc (by omega);omega
 refine So.neg (by omega) (So.pos ⟨by omega,by omega,by omega,by omega⟩ ?_);refine So.join (P:=fun v=>v.length=l.length/\∀x∈v,R x) (So.loop (fun s=>0<=s.1/\s.1<=(l.length:Int)/\s.2.length=l.length/\∀x∈s.2,R x) (fun s=>((l.length:Int)-s.1).toNat) (fun s hs => ?_) ⟨by omega,by omega,by simp,fun x hx=>by rw [(List.mem_replicate.1 hx).2];exact h0⟩) fun v hv => ?_
 ·obtain ⟨i,v⟩:=s;obtain ⟨h1,h2,h3,h4⟩:=hs;simp only at h1 h2 h3 h4;refine So.dec (fun h=>So.pos ⟨h1,h⟩ ?_) fun h => .out (.inl ⟨h3,h4⟩);refine So.get (by omega) fun x hx _=>So.bind (hf x (hB x hx)) fun y hy=>So.pos ⟨h1,by omega⟩ (So.get (by omega) fun z hz _ => ?_);rw [aj (by omega)];refine .inl ⟨⟨by simp only;omega,by simp only;omega,by simp only [List.length_set];exact h3,fun w hw => ?_⟩,by simp only;omega⟩;rcases List.mem_or_eq_of_mem_set hw with e | e
  ·exact h4 w e
  ·rw [e];exact hy
 ·refine So.pos (by omega) (.mk ⟨rfl,?_,?_⟩)
  ·simp only [List.length_take];omega
  ·exact fun x hx=>hv.2 x (List.mem_of_mem_take hx)
def Oy (l:List Int):Prop:=∀x∈l,-32768<=x/\x<=32767
def vF (s:Int×Int):Prop := -32768<=s.1/\s.1<=32767/\0<=s.2/\s.2<89
theorem Z5 {s:Int×Int} (h:vF s):kR s=some true:=by
 obtain ⟨h1,h2,h3,h4⟩:=h;unfold kR;simp only [decide_eq_true (show s.1 >= -32768 from h1),decide_eq_true h2,decide_eq_true (show s.2>=0 from h3),decide_eq_true h4,cond_true]
theorem agM:∀x∈szL,7<=x/\x<=32767:=by decide
theorem Ua:szL.length=89:=rfl
theorem agN {s:Int×Int} (h:vF s) {x:Int} (hx : -32768<=x/\x<=32767):So (ny (s,x)) (fun c=>0<=c/\c<=15):=by
 obtain ⟨h1,h2,h3,h4⟩:=h;obtain ⟨a,b⟩:=s;simp only at h1 h2 h3 h4;unfold ny;simp only;rw [aj (n:=x-a) (by omega)];refine So.is rfl (So.join (P:=fun p=>(p.1=0\/p.1=8)/\0<=p.2/\p.2<=65535) (So.dec (fun h => .inl ?_) fun h => .inl ?_) fun p hp => ?_)
 ·rw [aj (by omega)];exact ⟨.inr rfl,by simp only;omega,by simp only;omega⟩
 ·exact ⟨.inl rfl,by simp only;omega,by simp only;omega⟩
 ·refine So.pos ⟨h3,h4⟩ (So.get (by rw [Ua];omega) fun z hz _ => ?_);have:=agM z hz;refine So.pos (by omega) (.mk ?_);obtain ⟨p,q⟩:=p;simp only at hp ⊢;have e1:IntKind.wrap .i64 (4*q)=4*q:=aj (by omega);have e3:0<=Int.tdiv (4*q) z:=Int.tdiv_nonneg (by omega) (by omega);have e4:Int.tdiv (4*q) z<=4*q:=by
   rw [Int.tdiv_eq_ediv_of_nonneg (by omega)];exact Int.ediv_le_self _ (by omega)
  have e2:IntKind.wrap .i64 (Int.tdiv (4*q) z)=Int.tdiv (4*q) z:=aj (by omega);rw [e1,e2];have e5:0<=eU (Int.tdiv (4*q) z) 7/\eU (Int.tdiv (4*q) z) 7<=7:=by unfold eU;split<;>omega
  rw [aj (by omega)];omega
theorem Z7 (x a b:Int) (h:a<=b):a<=eU (bf x a) b/\eU (bf x a) b<=b:=by
 unfold eU bf;repeat' split
 all_goals omega
theorem Z8 {s:Int×Int} (h:vF s) {c:Int} (hc:0<=c):So (kV (s,c)) vF:=by
 obtain ⟨h1,h2,h3,h4⟩:=h;unfold kV;simp only;refine So.is rfl (So.pos ⟨h3,h4⟩ (So.get (by rw [Ua];omega) fun z hz _=>So.is rfl (So.join (P:=fun _=>True) (So.dec (fun h => .inl trivial) fun h => .inl trivial) fun v _=>So.is rfl (So.dec (fun _ => .mk ?_) fun _ => .mk ?_))))
 ·have a:=Z7 (IntKind.wrap .i64 (s.1+v)) (-32768) 32767 (by omega);have b:=Z7 (IntKind.wrap .i64 (s.2-1)) 0 88 (by omega);exact ⟨a.1,a.2,b.1,by simp only;omega⟩
 ·have a:=Z7 (IntKind.wrap .i64 (s.1+v)) (-32768) 32767 (by omega);have b:=Z7 (IntKind.wrap .i64 (s.2+IntKind.wrap .i64 (2*IntKind.wrap .i64 (Int.tmod c 8-3)))) 0 88 (by omega);exact ⟨a.1,a.2,b.1,by simp only;omega⟩
theorem Z9:jh 160=some 84:=by
 unfold jh;rw [aj (n:=160+1) (by omega),show Int.tdiv (160+1) 2=80 from rfl,aj (n:=80) (by omega),aj (by omega)];rfl
def Blk (b:List Int):Prop:=b.length=84/\Bytes b/\b.getD 2 0<=88/\b.getD 3 0=0
theorem getD_set_ne {l:List Int} {i j:Nat} {a d:Int} (h:i≠j):(l.set i a).getD j d=l.getD j d:=by
 rw [List.getD_eq_getElem?_getD,List.getD_eq_getElem?_getD,List.getElem?_set_ne h]
theorem Bytes.set {l:List Int} (h:Bytes l) {i:Nat} {a:Int} (ha:0<=a/\a<=255):Bytes (l.set i a):=fun x hx=>by
 rcases List.mem_or_eq_of_mem_set hx with e | e
 ·exact h x e
 ·rw [e];exact ha
theorem Blk.set {b:List Int} (h:Blk b) {i:Nat} (hi:4<=i) {a:Int} (ha:0<=a/\a<=255):Blk (b.set i a):=by
 obtain ⟨h1,h2,h3,h4⟩:=h;exact ⟨by rw [List.length_set];exact h1,h2.set ha,by rw [getD_set_ne (by omega)];exact h3,by rw [getD_set_ne (by omega)];exact h4⟩
theorem aac {s:Int×Int} (hs:vF s) {l:List Int} (hl:l.length=160) (hB:Oy l) :
 So (iC (s,l)) (fun r=>Blk r.1/\vF r.2.1/\r.2.2=0):=by
 obtain ⟨a,b⟩:=s;unfold iC;simp only;refine So.is (Z5 hs) ?_;rw [hl,show ((160:Nat):Int)=160 from rfl];refine So.if (fun h=>by cases h) fun _=>So.neg (by omega) (So.is Z9 ?_);refine So.pos (by omega) (So.is rfl (So.is rfl (So.pos (by omega) (So.is rfl (So.pos (by omega) (So.is rfl (So.pos (by omega) (So.is rfl ?_))))))));refine So.if (fun _=>So.is rfl ?_) (fun h=>by simp at h);have hi:=hs.2.2;have hw:IntKind.wrap .u8 b=b:=by rw [Ec];simp only at hi;omega
 have h0:Blk (List.set (List.set (List.set (List.replicate (Int.toNat 84) (0:Int)) 0 (IntKind.wrap .u8 (Int.fdiv (IntKind.wrap .u16 a) 256))) 1 (IntKind.wrap .u8 (IntKind.wrap .u16 a))) 2 (IntKind.wrap .u8 b)):=by
  refine ⟨by simp only [List.length_set,List.length_replicate];rfl,((Bytes.set (Bytes.set (fun x hx=>by rw [(List.mem_replicate.1 hx).2];omega) (qO _)) (qO _)).set (qO _)),?_,?_⟩
  ·rw [hw,List.getD_eq_getElem?_getD,List.getElem?_set_self (by simp only [List.length_set,List.length_replicate];omega)];simp only [Option.getD_some];simp only at hi;omega
  ·rw [getD_set_ne (by omega),getD_set_ne (by omega),getD_set_ne (by omega)];rfl
 refine So.join (P:=fun p=>Blk p.1/\vF p.2) (So.loop (fun s=>0<=s.1/\s.1<=160/\Blk s.2.1/\vF s.2.2) (fun s=>((160:Int)-s.1).toNat) (fun s hs => ?_) ⟨by omega,by omega,h0,hs⟩) fun v hv => ?_
 ·obtain ⟨i,c,t⟩:=s;obtain ⟨h1,h2,h3,h4⟩:=hs;simp only at h1 h2 h3 h4;refine So.dec (fun h=>So.pos ⟨h1,h⟩ ?_) fun h => .out (.inl ⟨h3,h4⟩);refine So.get (by omega) fun x hx _ => ?_;have hx:=hB x hx;rw [aj (n:=x) (by omega)];refine So.bind (agN h4 hx) fun q hq=>So.bind (Z8 h4 hq.1) fun t' ht => ?_;rw [Int.tdiv_eq_ediv_of_nonneg h1,aj (n:=i / 2) (by omega),aj (n:=i+1) (by omega)];have hlen:=h3.1;have e:((Int.toNat (((Int.toNat 84):Nat):Int)-4:Nat):Int)=80:=rfl;refine So.dec (fun _=>So.is rfl ?_) (fun _=>So.is rfl ?_)
  ·rw [e];refine So.pos (by omega) (So.get (show 4+(i / 2).toNat<c.length by omega) fun y _ _=>So.pos (by omega) (So.get (show 4+(i / 2).toNat<c.length by omega) fun z _ _ => .inl ⟨⟨by simp only;omega,by simp only;omega,h3.set (by omega) (qO _),ht⟩,by simp only;omega⟩))
  ·rw [e];refine So.pos (by omega) (So.get (show 4+(i / 2).toNat<c.length by omega) fun y _ _=>So.pos (by omega) (So.get (show 4+(i / 2).toNat<c.length by omega) fun z _ _ => .inl ⟨⟨by simp only;omega,by simp only;omega,h3.set (by omega) (qO _),ht⟩,by simp only;omega⟩))
 ·have hl:=hv.1.1;refine So.pos (by omega) (.mk ⟨?_,hv.2,rfl⟩);rw [List.take_of_length_le (by omega)];exact hv.1
theorem Ub {b:List Int} (hb:Blk b):So (fC (b,160)) (fun r=>r.1.length=160/\Oy r.1/\r.2.2=0):=by
 obtain ⟨h1,h2,h3,h4⟩:=hb;have g2:b[2]? = some (b.getD 2 0):=Zr 0 (by omega);have g3:b[3]? = some (b.getD 3 0):=Zr 0 (by omega);have r2:=h2.getD 2;unfold fC;simp only;rw [h1,show ((84:Nat):Int)=84 from rfl];rw [h4] at g3;refine So.neg (by omega) (So.neg (by omega) (So.is Z9 (So.neg (by omega) ?_)));refine So.join (P:=fun _=>True) (So.is Z9 (So.neg (by omega) (So.pos (by omega) (So.is g2 (So.neg (by omega) (So.pos (by omega) (So.is g3 (So.neg (by omega) (So.neg (by decide) (.inl trivial)))))))))) fun _ _ => ?_;refine So.pos (by omega) (So.get (by omega) fun x hx _=>So.pos (by omega) (So.get (by omega) fun y hy _=>So.pos (by omega) (So.is g2 (So.if (fun _=>So.is rfl (So.is rfl ?_)) fun h=>by simp at h))));refine So.pos (by omega) ?_;refine So.join (P:=fun p=>p.1.length=160/\Oy p.1) (So.loop (fun s=>0<=s.1/\s.1<=160/\(s.2.1.length=160/\Oy s.2.1)/\vF s.2.2) (fun s=>((160:Int)-s.1).toNat) (fun s hs => ?_) ⟨by omega,by omega,⟨by simp,fun x hx=>by rw [(List.mem_replicate.1 hx).2];omega⟩,?_⟩) fun v hv => ?_
 ·obtain ⟨i,c,t⟩:=s;obtain ⟨k1,k2,k3,k4⟩:=hs;simp only at k1 k2 k3 k4;refine So.dec (fun h => ?_) fun h => .out (.inl k3);have h:i<160:=h;have hlen:(List.take ((Int.toNat (84:Int))-4) (b.drop 4)).length=80:=by rw [List.length_take,List.length_drop,h1];omega
  rw [Int.tdiv_eq_ediv_of_nonneg k1,aj (n:=i / 2) (by omega),aj (n:=i+1) (by omega)];refine So.is rfl (So.pos (by rw [hlen];omega) (So.get (by rw [hlen];omega) fun z hz _ => ?_));have hz:=h2 z (List.mem_of_mem_drop (List.mem_of_mem_take hz));rw [aj (n:=z) (by omega),Int.tdiv_eq_ediv_of_nonneg hz.1,aj (n:=z / 16) (by omega)];refine So.join (P:=fun w=>0<=w) (So.dec (fun _ => .inl (by omega)) fun _ => .inl (by omega)) fun w hw => ?_;refine So.bind (Z8 k4 (Int.tmod_nonneg _ hw)) fun t' ht=>So.pos (show 0<=i/\i<((Int.toNat 160:Nat):Int) by omega) (So.get (show i.toNat<c.length by omega) fun q _ _ => .inl ⟨⟨by simp only;omega,by simp only;omega,⟨by simp only [List.length_set];exact k3.1,fun w hw => ?_⟩,ht⟩,by simp only;omega⟩);rcases List.mem_or_eq_of_mem_set hw with e | e
  ·exact k3.2 w e
  ·rw [e];exact vk _
 ·have a:=vk (IntKind.wrap .u16 (((BitVec.toNat ((BitVec.ofInt 16 (IntKind.wrap .u16 ((IntKind.wrap .u16 x)*(256:Int)))) ||| (BitVec.ofInt 16 (IntKind.wrap .u16 y)))):Nat):Int));refine ⟨?_,?_,?_,?_⟩
  ·simp only;rw [aj (by omega)];omega
  ·simp only;rw [aj (by omega)];omega
  ·simp only;rw [aj (by omega)];omega
  ·simp only;rw [aj (by omega)];omega
 ·have hl:=hv.1;refine So.pos (by omega) (.mk ⟨?_,?_,rfl⟩)
  ·rw [List.take_of_length_le (by omega)];exact hl
  ·exact fun x hx=>hv.2 x (List.mem_of_mem_take hx)
def xU {α β:Type}:α->Option β:=fun _=>none
theorem Oe:aB Tryz.prog 68 ⟨[.tmp 0 false [.dat (.list (.int .u8))]],[.tmp 0 false [.dat (.int .i64)],.tmp 1 false [.dat (.int .i64)],.tmp 2 false [.dat (.int .u8)]],xU⟩ :=
 aB.mk (by kernel_rfl) (by rfl) (by rfl) fun a r h=>by cases h
theorem Wp:aB Tryz.prog 71 ⟨[.tmp 0 true TK,.tmp 1 false [.dat (.int .i64)],.tmp 2 false [.dat (.int .u32)],.tmp 3 true [.dat (.int .u8),.dat .bool,.dat (.int .u8),.dat (.int .u16)]],[.tmp 0 true TK,.tmp 1 false [.dat (.int .u8)],.tmp 2 false [.dat (.list USd)],.tmp 3 false [.dat (.int .u8)]],xU⟩ :=
 dF ⟨by kernel_rfl,fun a r h=>by cases h⟩ (by rfl)
theorem QZ:aB Tryz.prog 69 ⟨[.tmp 0 false [.dat (.list (.int .u8))]],[.tmp 0 true [.dat (.int .u8),.dat .bool,.dat (.int .u8),.dat (.int .u16)],.tmp 1 false [.dat (.int .u8)]],xU⟩ :=
 aB.mk (by kernel_rfl) (by rfl) (by rfl) fun a r h=>by cases h
def agO:List (Nat×PL):=[(262657,(.carry [.tmp 2 false [dI],.tmp 0 false [(.dat (.int .u64))]])),(134480385,(.carry [.tmp 2 false [dI],.tmp 0 false [(.dat (.int .u64))]]))]
noncomputable def lS:Int->Option Int:=fun a1 =>
 au (bif (decide (a1>=4294967296)) then
 some (Sum.inl ((32:Int),(Int.fdiv a1 (4294967296:Int))))
 else
 some (Sum.inl ((0:Int),a1))) fun (v3,v4) =>
 au (bif (decide (v4>=65536)) then
 some (Sum.inl ((IntKind.wrap .i64 (v3+(16:Int))),(Int.fdiv v4 (65536:Int))))
 else
 some (Sum.inl (v3,v4))) fun (v7,v8) =>
 bif (decide (v8>=256)) then
 ah (some (Int.fdiv v8 (256:Int))) fun x9 =>
 bif (decide ((0<=(IntKind.wrap .u8 x9))/\((IntKind.wrap .u8 x9)<256))) then
 some (IntKind.wrap .i64 ((IntKind.wrap .i64 (v7+(8:Int)))+(IntKind.wrap .i64 (((UInt8.toNat (List.getD (List.append (List.append ((0:UInt8)::((1:UInt8)::((2:UInt8)::((2:UInt8)::((3:UInt8)::((3:UInt8)::((3:UInt8)::((3:UInt8)::((4:UInt8)::((4:UInt8)::((4:UInt8)::((4:UInt8)::((4:UInt8)::((4:UInt8)::((4:UInt8)::((4:UInt8)::((5:UInt8)::((5:UInt8)::((5:UInt8)::((5:UInt8)::((5:UInt8)::((5:UInt8)::((5:UInt8)::((5:UInt8)::((5:UInt8)::((5:UInt8)::((5:UInt8)::((5:UInt8)::((5:UInt8)::((5:UInt8)::((5:UInt8)::((5:UInt8)::((6:UInt8)::((6:UInt8)::((6:UInt8)::((6:UInt8)::((6:UInt8)::((6:UInt8)::((6:UInt8)::((6:UInt8)::((6:UInt8)::((6:UInt8)::((6:UInt8)::((6:UInt8)::((6:UInt8)::((6:UInt8)::((6:UInt8)::((6:UInt8)::((6:UInt8)::((6:UInt8)::((6:UInt8)::((6:UInt8)::((6:UInt8)::((6:UInt8)::((6:UInt8)::((6:UInt8)::((6:UInt8)::((6:UInt8)::((6:UInt8)::((6:UInt8)::((6:UInt8)::((6:UInt8)::((6:UInt8)::((6:UInt8)::([]:List UInt8))))))))))))))))))))))))))))))))))))))))))))))))))))))))))))))))) ((7:UInt8)::((7:UInt8)::((7:UInt8)::((7:UInt8)::((7:UInt8)::((7:UInt8)::((7:UInt8)::((7:UInt8)::((7:UInt8)::((7:UInt8)::((7:UInt8)::((7:UInt8)::((7:UInt8)::((7:UInt8)::((7:UInt8)::((7:UInt8)::((7:UInt8)::((7:UInt8)::((7:UInt8)::((7:UInt8)::((7:UInt8)::((7:UInt8)::((7:UInt8)::((7:UInt8)::((7:UInt8)::((7:UInt8)::((7:UInt8)::((7:UInt8)::((7:UInt8)::((7:UInt8)::((7:UInt8)::((7:UInt8)::((7:UInt8)::((7:UInt8)::((7:UInt8)::((7:UInt8)::((7:UInt8)::((7:UInt8)::((7:UInt8)::((7:UInt8)::((7:UInt8)::((7:UInt8)::((7:UInt8)::((7:UInt8)::((7:UInt8)::((7:UInt8)::((7:UInt8)::((7:UInt8)::((7:UInt8)::((7:UInt8)::((7:UInt8)::((7:UInt8)::((7:UInt8)::((7:UInt8)::((7:UInt8)::((7:UInt8)::((7:UInt8)::((7:UInt8)::((7:UInt8)::((7:UInt8)::((7:UInt8)::((7:UInt8)::((7:UInt8)::((7:UInt8)::([]:List UInt8)))))))))))))))))))))))))))))))))))))))))))))))))))))))))))))))))) (List.append ((8:UInt8)::((8:UInt8)::((8:UInt8)::((8:UInt8)::((8:UInt8)::((8:UInt8)::((8:UInt8)::((8:UInt8)::((8:UInt8)::((8:UInt8)::((8:UInt8)::((8:UInt8)::((8:UInt8)::((8:UInt8)::((8:UInt8)::((8:UInt8)::((8:UInt8)::((8:UInt8)::((8:UInt8)::((8:UInt8)::((8:UInt8)::((8:UInt8)::((8:UInt8)::((8:UInt8)::((8:UInt8)::((8:UInt8)::((8:UInt8)::((8:UInt8)::((8:UInt8)::((8:UInt8)::((8:UInt8)::((8:UInt8)::((8:UInt8)::((8:UInt8)::((8:UInt8)::((8:UInt8)::((8:UInt8)::((8:UInt8)::((8:UInt8)::((8:UInt8)::((8:UInt8)::((8:UInt8)::((8:UInt8)::((8:UInt8)::((8:UInt8)::((8:UInt8)::((8:UInt8)::((8:UInt8)::((8:UInt8)::((8:UInt8)::((8:UInt8)::((8:UInt8)::((8:UInt8)::((8:UInt8)::((8:UInt8)::((8:UInt8)::((8:UInt8)::((8:UInt8)::((8:UInt8)::((8:UInt8)::((8:UInt8)::((8:UInt8)::((8:UInt8)::((8:UInt8)::([]:List UInt8))))))))))))))))))))))))))))))))))))))))))))))))))))))))))))))))) ((8:UInt8)::((8:UInt8)::((8:UInt8)::((8:UInt8)::((8:UInt8)::((8:UInt8)::((8:UInt8)::((8:UInt8)::((8:UInt8)::((8:UInt8)::((8:UInt8)::((8:UInt8)::((8:UInt8)::((8:UInt8)::((8:UInt8)::((8:UInt8)::((8:UInt8)::((8:UInt8)::((8:UInt8)::((8:UInt8)::((8:UInt8)::((8:UInt8)::((8:UInt8)::((8:UInt8)::((8:UInt8)::((8:UInt8)::((8:UInt8)::((8:UInt8)::((8:UInt8)::((8:UInt8)::((8:UInt8)::((8:UInt8)::((8:UInt8)::((8:UInt8)::((8:UInt8)::((8:UInt8)::((8:UInt8)::((8:UInt8)::((8:UInt8)::((8:UInt8)::((8:UInt8)::((8:UInt8)::((8:UInt8)::((8:UInt8)::((8:UInt8)::((8:UInt8)::((8:UInt8)::((8:UInt8)::((8:UInt8)::((8:UInt8)::((8:UInt8)::((8:UInt8)::((8:UInt8)::((8:UInt8)::((8:UInt8)::((8:UInt8)::((8:UInt8)::((8:UInt8)::((8:UInt8)::((8:UInt8)::((8:UInt8)::((8:UInt8)::((8:UInt8)::((8:UInt8)::([]:List UInt8))))))))))))))))))))))))))))))))))))))))))))))))))))))))))))))))))) (Int.toNat (IntKind.wrap .u8 x9)) (0:UInt8))):Nat):Int))))
 else none
 else
 bif (decide ((0<=(IntKind.wrap .u8 v8))/\((IntKind.wrap .u8 v8)<256))) then
 some (IntKind.wrap .i64 (v7+(IntKind.wrap .i64 (((UInt8.toNat (List.getD (List.append (List.append ((0:UInt8)::((1:UInt8)::((2:UInt8)::((2:UInt8)::((3:UInt8)::((3:UInt8)::((3:UInt8)::((3:UInt8)::((4:UInt8)::((4:UInt8)::((4:UInt8)::((4:UInt8)::((4:UInt8)::((4:UInt8)::((4:UInt8)::((4:UInt8)::((5:UInt8)::((5:UInt8)::((5:UInt8)::((5:UInt8)::((5:UInt8)::((5:UInt8)::((5:UInt8)::((5:UInt8)::((5:UInt8)::((5:UInt8)::((5:UInt8)::((5:UInt8)::((5:UInt8)::((5:UInt8)::((5:UInt8)::((5:UInt8)::((6:UInt8)::((6:UInt8)::((6:UInt8)::((6:UInt8)::((6:UInt8)::((6:UInt8)::((6:UInt8)::((6:UInt8)::((6:UInt8)::((6:UInt8)::((6:UInt8)::((6:UInt8)::((6:UInt8)::((6:UInt8)::((6:UInt8)::((6:UInt8)::((6:UInt8)::((6:UInt8)::((6:UInt8)::((6:UInt8)::((6:UInt8)::((6:UInt8)::((6:UInt8)::((6:UInt8)::((6:UInt8)::((6:UInt8)::((6:UInt8)::((6:UInt8)::((6:UInt8)::((6:UInt8)::((6:UInt8)::((6:UInt8)::([]:List UInt8))))))))))))))))))))))))))))))))))))))))))))))))))))))))))))))))) ((7:UInt8)::((7:UInt8)::((7:UInt8)::((7:UInt8)::((7:UInt8)::((7:UInt8)::((7:UInt8)::((7:UInt8)::((7:UInt8)::((7:UInt8)::((7:UInt8)::((7:UInt8)::((7:UInt8)::((7:UInt8)::((7:UInt8)::((7:UInt8)::((7:UInt8)::((7:UInt8)::((7:UInt8)::((7:UInt8)::((7:UInt8)::((7:UInt8)::((7:UInt8)::((7:UInt8)::((7:UInt8)::((7:UInt8)::((7:UInt8)::((7:UInt8)::((7:UInt8)::((7:UInt8)::((7:UInt8)::((7:UInt8)::((7:UInt8)::((7:UInt8)::((7:UInt8)::((7:UInt8)::((7:UInt8)::((7:UInt8)::((7:UInt8)::((7:UInt8)::((7:UInt8)::((7:UInt8)::((7:UInt8)::((7:UInt8)::((7:UInt8)::((7:UInt8)::((7:UInt8)::((7:UInt8)::((7:UInt8)::((7:UInt8)::((7:UInt8)::((7:UInt8)::((7:UInt8)::((7:UInt8)::((7:UInt8)::((7:UInt8)::((7:UInt8)::((7:UInt8)::((7:UInt8)::((7:UInt8)::((7:UInt8)::((7:UInt8)::((7:UInt8)::((7:UInt8)::([]:List UInt8)))))))))))))))))))))))))))))))))))))))))))))))))))))))))))))))))) (List.append ((8:UInt8)::((8:UInt8)::((8:UInt8)::((8:UInt8)::((8:UInt8)::((8:UInt8)::((8:UInt8)::((8:UInt8)::((8:UInt8)::((8:UInt8)::((8:UInt8)::((8:UInt8)::((8:UInt8)::((8:UInt8)::((8:UInt8)::((8:UInt8)::((8:UInt8)::((8:UInt8)::((8:UInt8)::((8:UInt8)::((8:UInt8)::((8:UInt8)::((8:UInt8)::((8:UInt8)::((8:UInt8)::((8:UInt8)::((8:UInt8)::((8:UInt8)::((8:UInt8)::((8:UInt8)::((8:UInt8)::((8:UInt8)::((8:UInt8)::((8:UInt8)::((8:UInt8)::((8:UInt8)::((8:UInt8)::((8:UInt8)::((8:UInt8)::((8:UInt8)::((8:UInt8)::((8:UInt8)::((8:UInt8)::((8:UInt8)::((8:UInt8)::((8:UInt8)::((8:UInt8)::((8:UInt8)::((8:UInt8)::((8:UInt8)::((8:UInt8)::((8:UInt8)::((8:UInt8)::((8:UInt8)::((8:UInt8)::((8:UInt8)::((8:UInt8)::((8:UInt8)::((8:UInt8)::((8:UInt8)::((8:UInt8)::((8:UInt8)::((8:UInt8)::((8:UInt8)::([]:List UInt8))))))))))))))))))))))))))))))))))))))))))))))))))))))))))))))))) ((8:UInt8)::((8:UInt8)::((8:UInt8)::((8:UInt8)::((8:UInt8)::((8:UInt8)::((8:UInt8)::((8:UInt8)::((8:UInt8)::((8:UInt8)::((8:UInt8)::((8:UInt8)::((8:UInt8)::((8:UInt8)::((8:UInt8)::((8:UInt8)::((8:UInt8)::((8:UInt8)::((8:UInt8)::((8:UInt8)::((8:UInt8)::((8:UInt8)::((8:UInt8)::((8:UInt8)::((8:UInt8)::((8:UInt8)::((8:UInt8)::((8:UInt8)::((8:UInt8)::((8:UInt8)::((8:UInt8)::((8:UInt8)::((8:UInt8)::((8:UInt8)::((8:UInt8)::((8:UInt8)::((8:UInt8)::((8:UInt8)::((8:UInt8)::((8:UInt8)::((8:UInt8)::((8:UInt8)::((8:UInt8)::((8:UInt8)::((8:UInt8)::((8:UInt8)::((8:UInt8)::((8:UInt8)::((8:UInt8)::((8:UInt8)::((8:UInt8)::((8:UInt8)::((8:UInt8)::((8:UInt8)::((8:UInt8)::((8:UInt8)::((8:UInt8)::((8:UInt8)::((8:UInt8)::((8:UInt8)::((8:UInt8)::((8:UInt8)::((8:UInt8)::((8:UInt8)::([]:List UInt8))))))))))))))))))))))))))))))))))))))))))))))))))))))))))))))))))) (Int.toNat (IntKind.wrap .u8 v8)) (0:UInt8))):Nat):Int))))
 else none
noncomputable def agP:List (Nat×CE):=[]
theorem Wq:cu Tryz.prog agP:=trivial
noncomputable def ajO:CE:=⟨[(.tmp 0 false [(.dat (.int .u64))])],[(.tmp 0 false [dI])],lS⟩
theorem ajP:aB Tryz.prog 81 ajO :=nK agO dD Wq Tryz.func81
def agQ:List (Nat×PL):=[(68853957121,(.carry [.tmp 3 false [(.dat (.int .u64))]])),(9241421688456087558,(.carry [.tmp 12 false [dI],.tmp 3 false [(.dat (.int .u64))]]))]
noncomputable def nC:LN->Option Int:=fun a1 =>
 bif (decide ((a1.length:Int)=0)) then
 some (127:Int)
 else
 au (bn (fun (v2,v3) =>
 bif (decide (v2<(a1.length:Int))) then
 bif (decide ((0<=v2)/\(v2<(a1.length:Int)))) then
 ah a1[v2.toNat]? fun x4 =>
 some (Sum.inl ((IntKind.wrap .i64 (v2+(1:Int))),(IntKind.wrap .u64 (v3+(IntKind.wrap .u64 (IntKind.wrap .i64 ((IntKind.wrap .i64 x4)*(IntKind.wrap .i64 x4))))))))
 else none
 else
 aA (some (Sum.inl v3))) ((0:Int),(0:Int))) fun v10 =>
 ah (some (IntKind.wrap .u64 (a1.length:Int))) fun x11 =>
 bif (decide (x11≠0)) then
 ah (some (IntKind.wrap .u64 (Int.tdiv v10 x11))) fun x12 =>
 bif (decide (x12=0)) then
 some (127:Int)
 else
 ah (lS x12) fun x13 =>
 some (IntKind.wrap .u8 (IntKind.wrap .i64 ((3:Int)*(IntKind.wrap .i64 ((31:Int)-x13)))))
 else none
noncomputable def agR:List (Nat×CE):=[(81,ajO)]
theorem Ws:cu Tryz.prog agR:=⟨ajP,trivial⟩
noncomputable def agS:CE:=⟨[(.tmp 0 false [(.dat (.list (.int .i16)))])],[(.tmp 0 false [fB])],nC⟩
theorem aeb:aB Tryz.prog 50 agS :=nK agQ dD Ws Tryz.func50
def agT:List (Nat×PL):=[]
noncomputable def nD:(Int×LN)->Option (Int×Bool):=fun (a1,a2) =>
 ah (nC a2) fun x3 =>
 bif (decide (x3<60)) then
 some ((0:Int),false)
 else
 ah (some (IntKind.wrap .i64 ((eU (bf a1 (0:Int)) (9:Int))+(1:Int)))) fun x4 =>
 some (x4,(decide (x4=10)))
noncomputable def agU:List (Nat×CE):=[(50,agS)]
theorem Wu:cu Tryz.prog agU:=⟨aeb,trivial⟩
noncomputable def agV:CE:=⟨[(.tmp 0 true [dI]),(.tmp 1 false [(.dat (.list (.int .i16)))])],[(.tmp 0 true [dI]),(.tmp 1 false [dO])],nD⟩
theorem aec:aB Tryz.prog 47 agV :=nK agT dD Wu Tryz.func47
def ac3:List (Nat×PL):=[(35253226045953,(.carry [.tmp 1 false [(.dat (.int .u32))],.row 14 98 (.int .i16)])),(4731607904558101301254,(.carry [.tmp 24 false [dI],.tmp 1 false [(.dat (.int .u32))],.row 14 98 (.int .i16)]))]
noncomputable def pX:(Int×(Int×Int))->Option (LN×(Int×Int)):=fun (a1,(a2,a3)) =>
 bif (decide (a3<0)) then
 some (([]:List Int),((0:Int),(3:Int)))
 else
 bif (decide (a3 > 8000)) then
 some (([]:List Int),((0:Int),(3:Int)))
 else
 ah (some (IntKind.wrap .u8 (Int.tdiv a1 (6:Int)))) fun x4 =>
 bif (decide (0<=x4)) then
 ah (some (Int.fdiv (32767:Int) ((2:Int) ^ (Min.min x4.toNat 64)))) fun x5 =>
 bif (decide ((0<=a3)/\((a3<=a3)/\(((a3*(2:Int))<=140737488355328)/\(a3<=9223372036854775807))))) then
 au (bn (fun (v6,(v7,v8)) =>
 bif (decide (v6<a3)) then
 ah (some (IntKind.wrap .u32 ((IntKind.wrap .u32 ((1103515245:Int)*v7))+(12345:Int)))) fun x10 =>
 ah (some (IntKind.wrap .i64 ((IntKind.wrap .i64 ((2:Int)*x5))+(1:Int)))) fun x14 =>
 bif (decide (x14≠0)) then
 bif (decide ((0<=v6)/\(v6<((a3.toNat:Nat):Int)))) then
 ah v8[v6.toNat]? fun x18 =>
 some (Sum.inl ((IntKind.wrap .i64 (v6+(1:Int))),(x10,(List.set v8 v6.toNat (IntKind.wrap .i16 (IntKind.wrap .i64 ((Int.tmod (IntKind.wrap .i64 (Int.fdiv x10 (65536:Int))) x14)-x5)))))))
 else none
 else none
 else
 aA (some (Sum.inl (v7,v8)))) ((0:Int),(a2,(List.replicate a3.toNat (0:Int))))) fun (v20,v21) =>
 bif (decide (a3.toNat<=v21.length)) then
 some ((List.take a3.toNat v21),(v20,(0:Int)))
 else none
 else none
 else none
noncomputable def ac4:List (Nat×CE):=[(47,agV)]
theorem Q5:cu Tryz.prog ac4:=⟨aec,trivial⟩
noncomputable def aad:CE:=⟨[(.tmp 0 false [fB]),(.tmp 1 false [(.dat (.int .u32))]),(.tmp 2 false [dI])],[(.tmp 0 false [(.dat (.list (.int .i16)))]),(.tmp 1 false [(.dat (.int .u32))]),(.tmp 2 false [fB])],pX⟩
theorem aae:aB Tryz.prog 123 aad :=nK ac3 dD Q5 Tryz.func123
def agW:List (Nat×PL):=[]
noncomputable def qW:(Bool×(Int×(Int×(Int×(Int×Int)))))->Option Bool:=fun (a1,(a2,(a3,(a4,(a5,a6))))) =>
 bif (decide (a3<=63)) then
 bif (decide (a5>=0)) then
 bif (decide (a5<=65535)) then
 bif (decide (a6>=0)) then
 bif (decide (a6<=3)) then
 bif (!a1) then
 some true
 else
 some (decide (a6=0))
 else
 some false
 else
 some false
 else
 some false
 else
 some false
 else
 some false
noncomputable def agX:List (Nat×CE):=[(123,aad)]
theorem Wv:cu Tryz.prog agX:=⟨aae,trivial⟩
noncomputable def ajQ:CE:=⟨[(.tmp 0 true [dO,fB,fB,(.dat (.int .u32)),dI,dI])],[(.tmp 0 false [dO])],qW⟩
theorem ajR:aB Tryz.prog 80 ajQ :=nK agW dD Wv Tryz.func80
def agY:List (Nat×PL):=[]
noncomputable def nG:(Bool×(Int×(Int×(Int×(Int×Int)))))->Option ((Bool×(Int×(Int×(Int×(Int×Int)))))×Int):=fun (a1,(a2,(a3,(a4,(a5,a6))))) =>
 ah (qW (a1,(a2,(a3,(a4,(a5,a6)))))) fun x7 =>
 bif (!x7) then
 some ((false,((0:Int),((0:Int),((0:Int),((0:Int),(0:Int)))))),(2:Int))
 else
 bif (!a1) then
 some ((false,((0:Int),((0:Int),((0:Int),((0:Int),(0:Int)))))),(9:Int))
 else
 some ((false,(a2,(a3,(a4,(a5,(3:Int)))))),(0:Int))
noncomputable def agZ:List (Nat×CE):=[(80,ajQ)]
theorem Wx:cu Tryz.prog agZ:=⟨ajR,trivial⟩
noncomputable def ac5:CE:=⟨[(.tmp 0 true [dO,fB,fB,(.dat (.int .u32)),dI,dI])],[(.tmp 0 true [dO,fB,fB,(.dat (.int .u32)),dI,dI]),(.tmp 1 false [fB])],nG⟩
theorem aaf:aB Tryz.prog 79 ac5 :=nK agY dD Wx Tryz.func79
def ag0:List (Nat×PL):=[(68853696513,(.carry [.tmp 3 false [dO]])),(18049583418705409,(.carry [.tmp 17 false [dO]]))]
noncomputable def vG:(Bool×(Int×(Int×(Int×(Int×(LN×(Bool×(Int×(LN×(LN×Int))))))))))->Option Int:=fun (a1,(a2,(a3,(a4,(a5,(a6,(a7,(a8,(a9,(a10,a11)))))))))) =>
 au (bif (decide (a2 > 127)) then
 some (Sum.inl true)
 else
 bif (decide (a11<0)) then
 some (Sum.inl true)
 else
 some (Sum.inl (decide (a11 > 255)))) fun v12 =>
 bif v12 then
 some (3:Int)
 else
 au (bif (!a7) then
 bif (decide (a8≠0)) then
 some (Sum.inl true)
 else
 bif (decide ((a9.length:Int) > 0)) then
 some (Sum.inl true)
 else
 some (Sum.inl (decide ((Int.tmod (a9.length:Int) (4:Int))≠0)))
 else
 some (Sum.inl (decide ((Int.tmod (a9.length:Int) (4:Int))≠0)))) fun v15 =>
 bif v15 then
 some (2:Int)
 else
 bif (decide ((a6.length:Int) > 15)) then
 some (4:Int)
 else
 bif (decide ((a9.length:Int) > 1020)) then
 some (4:Int)
 else
 bif (decide ((a10.length:Int) > 1500)) then
 some (4:Int)
 else
 some (0:Int)
noncomputable def ag1:List (Nat×CE):=[(79,ac5)]
theorem Wy:cu Tryz.prog ag1:=⟨aaf,trivial⟩
noncomputable def ag2:CE:=⟨[(.tmp 0 true [dO,fB,(.dat (.int .u16)),(.dat (.int .u32)),(.dat (.int .u32)),(.dat (.list (.int .u32))),dO,(.dat (.int .u16)),dY,dY,dI])],[(.tmp 0 false [fB])],vG⟩
theorem aed:aB Tryz.prog 56 ag2 :=nK ag0 dD Wy Tryz.func56
def ag3:List (Nat×PL):=[(262657,(.carry [.tmp 0 false [(.own 10000003 5 aX)],.drop 2,.dead 20000001])),(68853696518,(.carry [.tmp 0 false [(.own 10000001 5 aX)],.tmp 2 false [dI],.dead 20000001]))]
noncomputable def jB:(LN×(Int×Int))->Option LN:=fun (a1,(a2,a3)) =>
 au (bif (decide (a1.length<=a1.length)) then
 bn (fun (v4,v5) =>
 bif (decide (v5 > 0)) then
 ah (some (IntKind.wrap .i64 (v5-(1:Int)))) fun x6 =>
 ah (some (IntKind.wrap .i64 ((8:Int)*x6))) fun x7 =>
 bif (decide (0<=x7)) then
 ah (some (Int.fdiv a2 ((2:Int) ^ (Min.min x7.toNat 32)))) fun x8 =>
 bif (decide (v4.length<=v4.length)) then
 bif (decide (((List.length ((v4.take v4.length)++((IntKind.wrap .u8 x8)::([]:List Int))))*1)<=140737488355328)) then
 ah (some ((v4.take v4.length)++((IntKind.wrap .u8 x8)::([]:List Int)))) fun x10 =>
 bif (decide (x10.length<=x10.length)) then
 some (Sum.inl ((x10.take x10.length),x6))
 else none
 else none
 else none
 else none
 else
 aA (bif (decide (v4.length<=v4.length)) then
 some (Sum.inl (v4.take v4.length))
 else none)) ((a1.take a1.length),a3)
 else none) fun v11 =>
 bif (decide (v11.length<=v11.length)) then
 some (v11.take v11.length)
 else none
noncomputable def ag4:List (Nat×CE):=[(56,ag2)]
theorem WA:cu Tryz.prog ag4:=⟨aed,trivial⟩
noncomputable def ajS:CE:=⟨[.tmp 0 false [.own 20000001 5 aX],.tmp 1 false [.dat (.int .u32)],.tmp 2 false [.dat ak]],[.tmp 0 false [(.own 10000002 5 aX)],.dead 20000001],jB⟩
theorem ajT:aB Tryz.prog 57 ajS :=
 dF (bV (plan:=fA ag3) (eg:=dD) KK dM (bM WA) Tryz.func57 (by kernel_rfl) (by kernel_rfl) 10000 (fun a r h=>Eq.trans (show _=jB a from by kernel_rfl) h)) (by rfl)
def ag5:List (Nat×PL):=[(68853957121,(.carry [.tmp 5 false [fB]])),(35253226045953,(.carry [.tmp 5 false [fB]])),(9241421688590303745,(.carry [.tmp 6 false [fB]])),(325153619321163373997995856232961,(.carry [.tmp 7 false [(.own 10000003 5 aX)],.dead 39])),(43641380036263450374825280377002530179078,(.carry [.tmp 54 false [dI],.tmp 7 false [(.own 10000001 5 aX)],.dead 39])),(166478653092435647486973878391276033,(.carry [.tmp 7 false [(.own 10000002 5 aX)],.dead 39,.dead 10000003]))]
noncomputable def oL:(Bool×(Int×(Int×(Int×(Int×(LN×(Bool×(Int×(LN×(LN×Int))))))))))->Option (LN×Int):=fun (a1,(a2,(a3,(a4,(a5,(a6,(a7,(a8,(a9,(a10,a11)))))))))) =>
 ah (vG (a1,(a2,(a3,(a4,(a5,(a6,(a7,(a8,(a9,(a10,a11))))))))))) fun x12 =>
 bif (decide (x12≠0)) then
 some (([]:List Int),x12)
 else
 ah (some (IntKind.wrap .i64 (((BitVec.toNat ((BitVec.ofInt 64 (128:Int)) ||| (BitVec.ofInt 64 (a6.length:Int)))):Nat):Int))) fun x13 =>
 au (bif (decide (a11≠0)) then
 some (Sum.inl (IntKind.wrap .u8 (((BitVec.toNat ((BitVec.ofInt 8 (IntKind.wrap .u8 x13)) ||| (BitVec.ofInt 8 (32:Int)))):Nat):Int)))
 else
 some (Sum.inl (IntKind.wrap .u8 x13))) fun v16 =>
 au (bif a7 then
 some (Sum.inl (IntKind.wrap .u8 (((BitVec.toNat ((BitVec.ofInt 8 v16) ||| (BitVec.ofInt 8 (16:Int)))):Nat):Int)))
 else
 some (Sum.inl v16)) fun v18 =>
 au (bif a1 then
 some (Sum.inl (IntKind.wrap .u8 (((BitVec.toNat ((BitVec.ofInt 8 a2) ||| (BitVec.ofInt 8 (128:Int)))):Nat):Int)))
 else
 some (Sum.inl a2)) fun v20 =>
 ah (jB ((v18::(v20::([]:List Int))),((IntKind.wrap .u32 a3),(2:Int)))) fun x22 =>
 bif (decide (x22.length=x22.length)) then
 ah (jB (x22,(a4,(4:Int)))) fun x23 =>
 bif (decide (x23.length=x23.length)) then
 ah (jB (x23,(a5,(4:Int)))) fun x24 =>
 au (bif (decide (x24.length<=x24.length)) then
 bn (fun (v25,v26) =>
 bif (decide (v25<(a6.length:Int))) then
 bif (decide ((0<=v25)/\(v25<(a6.length:Int)))) then
 ah a6[v25.toNat]? fun x27 =>
 bif (decide (v26.length=v26.length)) then
 ah (jB (v26,(x27,(4:Int)))) fun x28 =>
 bif (decide (x28.length<=x28.length)) then
 some (Sum.inl ((IntKind.wrap .i64 (v25+(1:Int))),(x28.take x28.length)))
 else none
 else none
 else none
 else
 aA (bif (decide (v26.length<=v26.length)) then
 some (Sum.inl (v26.take v26.length))
 else none)) ((0:Int),(x24.take x24.length))
 else none) fun v30 =>
 au (bif a7 then
 bif (decide (v30.length=v30.length)) then
 ah (jB (v30,((IntKind.wrap .u32 a8),(2:Int)))) fun x32 =>
 bif (decide (x32.length=x32.length)) then
 ah (jB (x32,((IntKind.wrap .u32 (IntKind.wrap .i64 (Int.tdiv (a9.length:Int) (4:Int)))),(2:Int)))) fun x35 =>
 bif (decide (x35.length<=x35.length)) then
 bif (decide (((List.length ((x35.take x35.length)++a9))*1)<=140737488355328)) then
 ah (some ((x35.take x35.length)++a9)) fun x36 =>
 bif (decide (x36.length<=x36.length)) then
 some (Sum.inl (x36.take x36.length))
 else none
 else none
 else none
 else none
 else none
 else
 bif (decide (v30.length<=v30.length)) then
 some (Sum.inl (v30.take v30.length))
 else none) fun v37 =>
 bif (decide (v37.length<=v37.length)) then
 bif (decide (((List.length ((v37.take v37.length)++a10))*1)<=140737488355328)) then
 ah (some ((v37.take v37.length)++a10)) fun x38 =>
 bif (decide (a11≠0)) then
 none
 else
 bif (decide (x38.length<=x38.length)) then
 some ((x38.take x38.length),(0:Int))
 else none
 else none
 else none
 else none
 else none
noncomputable def ag6:List (Nat×CE):=[(56,ag2),(57,ajS)]
theorem WB:cu Tryz.prog ag6:=⟨aed,ajT,trivial⟩
noncomputable def ag7:CE:=⟨[(.tmp 0 true [dO,fB,(.dat (.int .u16)),(.dat (.int .u32)),(.dat (.int .u32)),(.dat (.list (.int .u32))),dO,(.dat (.int .u16)),dY,dY,dI])],[(.tmp 0 false [dY]),(.tmp 1 false [fB])],oL⟩
theorem aee:aB Tryz.prog 22 ag7 :=nK ag5 dD WB Tryz.func22
def ag8:List (Nat×PL):=[(2422583247133816584929302,(.carry [.tmp 0 false [(.dat (.int .u32))]])),(325153619321163373997929955328513,(.carry [.tmp 3 false [(.dat (.int .u32))]])),(43641380036263450374816435307334374524934,(.carry [.tmp 8 false [dI],.tmp 3 false [(.dat (.int .u32))]]))]
noncomputable def kX:LN->Option (Int×Int):=fun a1 =>
 bif (decide ((a1.length:Int)=0)) then
 some ((0:Int),(6:Int))
 else
 bif (decide (((0:Int)<=0)/\(0<(a1.length:Int)))) then
 ah a1[0]? fun x2 =>
 bif (decide ((Int.fdiv x2 (64:Int))≠2)) then
 some ((0:Int),(15:Int))
 else
 bif (decide (((0:Int)<=0)/\(0<(a1.length:Int)))) then
 ah a1[0]? fun x4 =>
 ah (some (IntKind.wrap .i64 ((12:Int)+(IntKind.wrap .i64 ((4:Int)*(IntKind.wrap .i64 (IntKind.wrap .u8 (((BitVec.toNat ((BitVec.ofInt 8 x4) &&& (BitVec.ofInt 8 (15:Int)))):Nat):Int)))))))) fun x8 =>
 bif (decide ((a1.length:Int)<x8)) then
 some ((a1.length:Int),(6:Int))
 else
 bif (decide (((0:Int)<=0)/\(0<(a1.length:Int)))) then
 ah a1[0]? fun x9 =>
 bif (decide ((IntKind.wrap .u8 (((BitVec.toNat ((BitVec.ofInt 8 x9) &&& (BitVec.ofInt 8 (16:Int)))):Nat):Int))=0)) then
 some ((0:Int),(0:Int))
 else
 bif (decide ((a1.length:Int)<(IntKind.wrap .i64 (x8+(4:Int))))) then
 some ((a1.length:Int),(6:Int))
 else
 ah (some (IntKind.wrap .i64 (x8+(2:Int)))) fun x12 =>
 ah (some (IntKind.wrap .i64 (x8+(4:Int)))) fun x13 =>
 bif ((decide ((0<=x13)/\(x13<=(a1.length:Int))))&&(decide ((0<=x12)/\(x12<=((x13.toNat:Nat):Int))))) then
 ah (some (List.take (x13.toNat-x12.toNat) (List.drop x12.toNat a1))) fun x14 =>
 au (au (bn (fun (v15,v16) =>
 bif (decide (v15<(x14.length:Int))) then
 bif (decide ((0<=v15)/\(v15<(x14.length:Int)))) then
 ah x14[v15.toNat]? fun x17 =>
 some (Sum.inl ((IntKind.wrap .i64 (v15+(1:Int))),(IntKind.wrap .u32 (((BitVec.toNat ((BitVec.ofInt 32 (IntKind.wrap .u32 (v16*(256:Int)))) ||| (BitVec.ofInt 32 (IntKind.wrap .u32 x17)))):Nat):Int))))
 else none
 else
 aA (some (Sum.inl v16))) ((0:Int),(0:Int))) fun v22 =>
 some (Sum.inl v22)) fun v23 =>
 ah (some (IntKind.wrap .i64 ((4:Int)*(IntKind.wrap .i64 v23)))) fun x25 =>
 bif (decide (x25 > 1020)) then
 some ((IntKind.wrap .i64 (x8+(2:Int))),(4:Int))
 else
 bif (decide ((a1.length:Int)<(IntKind.wrap .i64 ((IntKind.wrap .i64 (x8+(4:Int)))+x25)))) then
 some ((a1.length:Int),(6:Int))
 else
 some ((0:Int),(0:Int))
 else none
 else none
 else none
 else none
noncomputable def ag9:List (Nat×CE):=[(22,ag7)]
theorem WC:cu Tryz.prog ag9:=⟨aee,trivial⟩
noncomputable def aha:CE:=⟨[(.tmp 0 false [dY])],[(.tmp 0 false [dI]),(.tmp 1 false [fB])],kX⟩
theorem aef:aB Tryz.prog 64 aha :=nK ag8 dD WC Tryz.func64
def ahb:List (Nat×PL):=[(134480385,(.carry [.tmp 3 false [(.dat (.int .u32))]])),(18049651601311750,(.carry [.tmp 8 false [dI],.tmp 3 false [(.dat (.int .u32))]]))]
noncomputable def gU:LN->Option Int:=fun a1 =>
 au (bn (fun (v2,v3) =>
 bif (decide (v2<(a1.length:Int))) then
 bif (decide ((0<=v2)/\(v2<(a1.length:Int)))) then
 ah a1[v2.toNat]? fun x4 =>
 some (Sum.inl ((IntKind.wrap .i64 (v2+(1:Int))),(IntKind.wrap .u32 (((BitVec.toNat ((BitVec.ofInt 32 (IntKind.wrap .u32 (v3*(256:Int)))) ||| (BitVec.ofInt 32 (IntKind.wrap .u32 x4)))):Nat):Int))))
 else none
 else
 aA (some (Sum.inl v3))) ((0:Int),(0:Int))) fun v9 =>
 some v9
noncomputable def ahc:List (Nat×CE):=[(64,aha)]
theorem WE:cu Tryz.prog ahc:=⟨aef,trivial⟩
noncomputable def ahd:CE:=⟨[(.tmp 0 false [dY])],[(.tmp 0 false [(.dat (.int .u32))])],gU⟩
theorem aeg:aB Tryz.prog 66 ahd :=nK ahb dD WE Tryz.func66
def ahe:List (Nat×PL):=[]
noncomputable def nH:LN->Option LN:=fun a1 =>
 bif (decide ((a1.length:Int)=0)) then
 some ([]:List Int)
 else
 bif (decide ((0<=(a1.length:Int))/\(((a1.length:Int)<=(a1.length:Int))/\((((a1.length:Int)*(1:Int))<=140737488355328)/\((a1.length:Int)<=9223372036854775807))))) then
 bif (decide ((Int.toNat (a1.length:Int))<=(List.length (List.replicate (Int.toNat (a1.length:Int)) (0:Int))))) then
 bif (decide ((Int.toNat (a1.length:Int))<=(List.length (Gm (List.replicate (Int.toNat (a1.length:Int)) (0:Int)) 0 (List.take (Int.toNat (a1.length:Int)) a1))))) then
 some (List.take (Int.toNat (a1.length:Int)) (Gm (List.replicate (Int.toNat (a1.length:Int)) (0:Int)) 0 (List.take (Int.toNat (a1.length:Int)) a1)))
 else none
 else none
 else none
noncomputable def ahf:List (Nat×CE):=[(66,ahd)]
theorem WH:cu Tryz.prog ahf:=⟨aeg,trivial⟩
noncomputable def ajU:CE:=⟨[(.tmp 0 false [dY])],[(.tmp 0 false [dY])],nH⟩
theorem ajV:aB Tryz.prog 67 ajU :=nK ahe dD WH Tryz.func67
def ahg:List (Nat×PL):=[(85237070383327051513330625736333328897,(.carry [.mix 17 [dO,fB,(.dat (.int .u16)),(.dat (.int .u32)),(.dat (.int .u32)),(.own 10000002 31 (.int .u32)),dO,(.dat (.int .u16)),.nil,.nil,dI],.mix 13 [dY]])),(11440325928226245935058198299148986455098132486,(.carry [.tmp 68 false [fB],.mix 17 [dO,fB,(.dat (.int .u16)),(.dat (.int .u32)),(.dat (.int .u32)),(.own 10000001 31 (.int .u32)),dO,(.dat (.int .u16)),.nil,.nil,dI],.mix 13 [dY]])),(43641380036263450374825280377002664395265,(.carry [.mix 17 [dO,fB,(.dat (.int .u16)),(.dat (.int .u32)),(.dat (.int .u32)),(.own 10000003 31 (.int .u32)),dO,(.dat (.int .u16)),dY,.nil,dI],.mix 13 [dY],.dead 10000002])),(22344386578566886591910543553025364170375681,(.carry [.mix 17 [dO,fB,(.dat (.int .u16)),(.dat (.int .u32)),(.dat (.int .u32)),(.own 10000004 31 (.int .u32)),dO,(.dat (.int .u16)),dY,.nil,dI],.dead 10000003]))]
noncomputable def lG:LN->Option ((Bool×(Int×(Int×(Int×(Int×(LN×(Bool×(Int×(LN×(LN×Int))))))))))×(Int×Int)):=fun a1 =>
 ah (kX a1) fun (x3,x4) =>
 bif (decide (x4≠0)) then
 some ((false,((0:Int),((0:Int),((0:Int),((0:Int),(([]:List Int),(false,((0:Int),(([]:List Int),(([]:List Int),(0:Int))))))))))),(x3,x4))
 else
 bif ((decide (((0:Int)<=12)/\(12<=(a1.length:Int))))&&true) then
 ah (some (List.take 12 a1)) fun x5 =>
 bif (decide (((0:Int)<=12)/\(12<=(a1.length:Int)))) then
 bif (decide (((0:Int)<=0)/\(0<(x5.length:Int)))) then
 ah x5[0]? fun x7 =>
 bif (decide (((0:Int)<=0)/\(0<(x5.length:Int)))) then
 ah x5[0]? fun x9 =>
 bif (decide (((0:Int)<=1)/\(1<(x5.length:Int)))) then
 ah x5[1]? fun x11 =>
 bif (decide (((0:Int)<=1)/\(1<(x5.length:Int)))) then
 ah x5[1]? fun x13 =>
 bif ((decide (((0:Int)<=4)/\(4<=(x5.length:Int))))&&true) then
 ah (gU (List.take 2 (x5.drop 2))) fun x16 =>
 bif ((decide (((0:Int)<=8)/\(8<=(x5.length:Int))))&&true) then
 ah (gU (List.take 4 (x5.drop 4))) fun x19 =>
 bif ((decide (((0:Int)<=12)/\(12<=(x5.length:Int))))&&true) then
 ah (gU (List.take 4 (x5.drop 8))) fun x21 =>
 au (bif (decide (((0:Int)<=0)/\(0<(x5.length:Int)))) then
 ah x5[0]? fun x22 =>
 bn (fun (v24,((v25,(v26,(v27,(v28,(v29,(v30,(v31,(v32,v33)))))))),v34)) =>
 bif (decide (v24<(IntKind.wrap .u8 (((BitVec.toNat ((BitVec.ofInt 8 x22) &&& (BitVec.ofInt 8 (15:Int)))):Nat):Int)))) then
 bif ((decide (((0:Int)<=4)/\(4<=(v34.length:Int))))&&true) then
 bif (decide (((0:Int)<=4)/\(4<=(v34.length:Int)))) then
 ah (gU (List.take 4 v34)) fun x37 =>
 bif (decide (v30.length<=v30.length)) then
 bif (decide (((List.length ((v30.take v30.length)++(x37::([]:List Int))))*4)<=140737488355328)) then
 ah (some ((v30.take v30.length)++(x37::([]:List Int)))) fun x38 =>
 bif (decide (x38.length<=x38.length)) then
 some (Sum.inl ((IntKind.wrap .u8 (v24+(1:Int))),((v25,(v26,(v27,(v28,(v29,((x38.take x38.length),(v31,(v32,v33)))))))),(v34.drop 4))))
 else none
 else none
 else none
 else none
 else none
 else
 aA (bif (decide (v30.length<=v30.length)) then
 some (Sum.inl ((v25,(v26,(v27,(v28,(v29,((v30.take v30.length),(v31,(v32,v33)))))))),v34))
 else none)) ((0:Int),(((decide ((IntKind.wrap .u8 (((BitVec.toNat ((BitVec.ofInt 8 x11) &&& (BitVec.ofInt 8 (128:Int)))):Nat):Int))≠0)),((IntKind.wrap .u8 (((BitVec.toNat ((BitVec.ofInt 8 x13) &&& (BitVec.ofInt 8 (127:Int)))):Nat):Int)),((IntKind.wrap .u16 x16),(x19,(x21,(([]:List Int),((decide ((IntKind.wrap .u8 (((BitVec.toNat ((BitVec.ofInt 8 x9) &&& (BitVec.ofInt 8 (16:Int)))):Nat):Int))≠0)),((0:Int),(0:Int))))))))),(a1.drop 12)))
 else none) fun ((v40,(v41,(v42,(v43,(v44,(v45,(v46,(v47,v48)))))))),v49) =>
 au (bif v46 then
 bif ((decide (((0:Int)<=2)/\(2<=(v49.length:Int))))&&true) then
 bif (decide (((0:Int)<=2)/\(2<=(v49.length:Int)))) then
 ah (some (v49.drop 2)) fun x51 =>
 ah (gU (List.take 2 v49)) fun x52 =>
 bif ((decide (((0:Int)<=2)/\(2<=(x51.length:Int))))&&true) then
 bif (decide (((0:Int)<=2)/\(2<=(x51.length:Int)))) then
 ah (some (x51.drop 2)) fun x55 =>
 ah (gU (List.take 2 x51)) fun x56 =>
 ah (some (IntKind.wrap .i64 ((4:Int)*(IntKind.wrap .i64 x56)))) fun x58 =>
 bif ((decide ((0<=x58)/\(x58<=(x55.length:Int))))&&(decide ((0<=x58)/\(x58<=((x58.toNat:Nat):Int))))) then
 bif (decide ((0<=x58)/\(x58<=(x55.length:Int)))) then
 ah (nH (List.take x58.toNat x55)) fun x61 =>
 bif (decide (v45.length<=v45.length)) then
 some (Sum.inl ((v40,(v41,(v42,(v43,(v44,((v45.take v45.length),(v46,((IntKind.wrap .u16 x52),(x61,v48))))))))),(List.drop x58.toNat x55)))
 else none
 else none
 else none
 else none
 else none
 else none
 else none
 else
 bif (decide (v45.length<=v45.length)) then
 some (Sum.inl ((v40,(v41,(v42,(v43,(v44,((v45.take v45.length),(v46,(v47,(([]:List Int),v48))))))))),v49))
 else none) fun ((v62,(v63,(v64,(v65,(v66,(v67,(v68,(v69,(v70,v71))))))))),v72) =>
 au (bif (decide ((IntKind.wrap .u8 (((BitVec.toNat ((BitVec.ofInt 8 x7) &&& (BitVec.ofInt 8 (32:Int)))):Nat):Int))≠0)) then
 ah (xU v72) fun (x74,(x75,x76)) =>
 bif (decide (x76≠0)) then
 aA (some ((false,((0:Int),((0:Int),((0:Int),((0:Int),(([]:List Int),(false,((0:Int),(([]:List Int),(([]:List Int),(0:Int))))))))))),((IntKind.wrap .i64 ((IntKind.wrap .i64 ((a1.length:Int)-(v72.length:Int)))+x75)),x76)))
 else
 bif (decide (v67.length<=v67.length)) then
 some (Sum.inl (v62,(v63,(v64,(v65,(v66,((v67.take v67.length),(v68,(v69,(v70,x74))))))))))
 else none
 else
 bif (decide (v67.length<=v67.length)) then
 some (Sum.inl (v62,(v63,(v64,(v65,(v66,((v67.take v67.length),(v68,(v69,(v70,v71))))))))))
 else none) fun (v79,(v80,(v81,(v82,(v83,(v84,(v85,(v86,(v87,v88))))))))) =>
 bif (decide ((IntKind.wrap .i64 ((v72.length:Int)-v88)) > 1500)) then
 some ((false,((0:Int),((0:Int),((0:Int),((0:Int),(([]:List Int),(false,((0:Int),(([]:List Int),(([]:List Int),(0:Int))))))))))),((IntKind.wrap .i64 ((a1.length:Int)-(v72.length:Int))),(4:Int)))
 else
 ah (some (IntKind.wrap .i64 ((v72.length:Int)-v88))) fun x91 =>
 bif ((decide ((0<=x91)/\(x91<=(v72.length:Int))))&&(decide ((0<=x91)/\(x91<=((x91.toNat:Nat):Int))))) then
 bif (decide ((0<=x91)/\(x91<=(v72.length:Int)))) then
 ah (nH (List.take x91.toNat v72)) fun x94 =>
 bif (decide (v84.length<=v84.length)) then
 some ((v79,(v80,(v81,(v82,(v83,((v84.take v84.length),(v85,(v86,(v87,(x94,v88)))))))))),((0:Int),(0:Int)))
 else none
 else none
 else none
 else none
 else none
 else none
 else none
 else none
 else none
 else none
 else none
 else none
noncomputable def Ee:CE:=⟨[.tmp 0 false [.dat (.list aX)]],[.tmp 0 false [.dat ak],.tmp 1 false [.dat ak],.tmp 2 false [.dat aX]],xU⟩
noncomputable def ahh:List (Nat×CE):=[(68,Ee),(64,aha),(66,ahd),(67,ajU)]
theorem WI:cu Tryz.prog ahh:=⟨Oe,aef,aeg,ajV,trivial⟩
noncomputable def ahi:CE:=⟨[(.tmp 0 false [dY])],[(.tmp 0 true [dO,fB,(.dat (.int .u16)),(.dat (.int .u32)),(.dat (.int .u32)),(.dat (.list (.int .u32))),dO,(.dat (.int .u16)),dY,dY,dI]),(.tmp 1 false [dI]),(.tmp 2 false [fB])],lG⟩
theorem aeh:aB Tryz.prog 39 ahi :=nK ahg dD WI Tryz.func39
def ahj:List (Nat×PL):=[]
noncomputable def iZ:(Int×(Int×Int))->Option Int:=fun (a1,(a2,a3)) =>
 bif (decide (a1<(-1152921504606846976:Int))) then
 some (0:Int)
 else
 bif (decide (a1 > 1152921504606846976)) then
 some (0:Int)
 else
 ah (some (IntKind.wrap .i64 (((BitVec.toNat ((BitVec.ofInt 64 (IntKind.wrap .i64 (a2-a1))) &&& (BitVec.ofInt 64 (IntKind.wrap .i64 (a3-(1:Int)))))):Nat):Int))) fun x6 =>
 bif (decide (x6 > (IntKind.wrap .i64 (Int.tdiv a3 (2:Int))))) then
 some (IntKind.wrap .i64 (a1+(IntKind.wrap .i64 (x6-a3))))
 else
 some (IntKind.wrap .i64 (a1+x6))
noncomputable def ahk:List (Nat×CE):=[(39,ahi)]
theorem WJ:cu Tryz.prog ahk:=⟨aeh,trivial⟩
noncomputable def ahl:CE:=⟨[(.tmp 0 false [dI]),(.tmp 1 false [dI]),(.tmp 2 false [dI])],[(.tmp 0 false [dI])],iZ⟩
theorem aei:aB Tryz.prog 93 ahl :=nK ahj dD WJ Tryz.func93
def ahm:List (Nat×PL):=[]
noncomputable def oM:(Int×Int)->Option Int:=fun (a1,a2) =>
 ah (iZ (a1,((IntKind.wrap .i64 a2),(65536:Int)))) fun x4 =>
 some x4
noncomputable def ahn:List (Nat×CE):=[(93,ahl)]
theorem WL:cu Tryz.prog ahn:=⟨aei,trivial⟩
noncomputable def aho:CE:=⟨[(.tmp 0 false [dI]),(.tmp 1 false [(.dat (.int .u16))])],[(.tmp 0 false [dI])],oM⟩
theorem aej:aB Tryz.prog 91 aho :=nK ahm dD WL Tryz.func91
def ahp:List (Nat×PL):=[]
noncomputable def jq:(Int×Int)->Option Int:=fun (a1,a2) =>
 ah (iZ (a1,((IntKind.wrap .i64 a2),(4294967296:Int)))) fun x4 =>
 some x4
noncomputable def ahq:List (Nat×CE):=[(93,ahl),(91,aho)]
theorem WM:cu Tryz.prog ahq:=⟨aei,aej,trivial⟩
noncomputable def ahr:CE:=⟨[(.tmp 0 false [dI]),(.tmp 1 false [(.dat (.int .u32))])],[(.tmp 0 false [dI])],jq⟩
theorem aek:aB Tryz.prog 72 ahr :=nK ahp dD WM Tryz.func72
def ahs:List (Nat×PL):=[(262657,(.carry [])),(35253226045953,(.carry [])),(18049651735527425,(.carry [.tmp 55 false [dO]])),(1240362622532514022764839425,(.carry [.tmp 8 false [dI]]))]
noncomputable def lH:((Bool×(Int×Int))×Int)->Option ((Bool×(Int×Int))×(Int×Bool)):=fun ((a1,(a2,a3)),a4) =>
 au (bif (decide (a2<0)) then
 aA (some ((false,((0:Int),(0:Int))),((0:Int),false)))
 else
 bif (decide (a2 > 281474976710656)) then
 aA (some ((false,((0:Int),(0:Int))),((0:Int),false)))
 else
 bif (decide (a3<(-1:Int))) then
 aA (some ((false,((0:Int),(0:Int))),((0:Int),false)))
 else
 bif (decide (a3 > 65535)) then
 aA (some ((false,((0:Int),(0:Int))),((0:Int),false)))
 else
 some (Sum.inl ())) fun _ =>
 bif (!a1) then
 some ((true,((IntKind.wrap .i64 a4),(-1:Int))),((IntKind.wrap .i64 a4),true))
 else
 ah (oM (a2,a4)) fun x7 =>
 au (au (bif (decide (x7>=0)) then
 bif (decide (x7<=(IntKind.wrap .i64 (a2+(3000:Int))))) then
 some (Sum.inl (decide (x7>=(IntKind.wrap .i64 (a2-(100:Int))))))
 else
 some (Sum.inl false)
 else
 some (Sum.inl false)) fun v10 =>
 bif v10 then
 aA (some ((a1,((bf a2 x7),(-1:Int))),(x7,true)))
 else
 some (Sum.inl ())) fun _ =>
 bif (decide ((IntKind.wrap .i64 a4)=a3)) then
 bif (decide (a2<140737488355328)) then
 ah (some (IntKind.wrap .i64 (((BitVec.toNat ((BitVec.ofInt 64 (IntKind.wrap .i64 ((IntKind.wrap .i64 a4)-a2))) &&& (BitVec.ofInt 64 (65535:Int)))):Nat):Int))) fun x14 =>
 au (bif (decide (x14=0)) then
 some (Sum.inl (65536:Int))
 else
 some (Sum.inl x14)) fun v15 =>
 ah (some (IntKind.wrap .i64 (a2+v15))) fun x16 =>
 some ((a1,(x16,(-1:Int))),(x16,true))
 else
 some ((a1,(a2,(IntKind.wrap .i64 (IntKind.wrap .u16 (a4+(1:Int)))))),((0:Int),false))
 else
 some ((a1,(a2,(IntKind.wrap .i64 (IntKind.wrap .u16 (a4+(1:Int)))))),((0:Int),false))
noncomputable def aht:List (Nat×CE):=[(91,aho),(72,ahr)]
theorem WO:cu Tryz.prog aht:=⟨aej,aek,trivial⟩
noncomputable def ahu:CE:=⟨[(.tmp 0 true [dO,dI,dI]),(.tmp 1 false [(.dat (.int .u16))])],[(.tmp 0 true [dO,dI,dI]),(.tmp 1 false [dI]),(.tmp 2 false [dO])],lH⟩
theorem ael:aB Tryz.prog 70 ahu :=nK ahs dD WO Tryz.func70
def ahv:List (Nat×PL):=[(68853956632,(.carry [.tmp 0 false [dO]])),(18049651607339521,(.carry [])),(2422583229928658499274758,(.carry [.tmp 11 false [dI]])),(68853956649,(.carry [.tmp 0 false [dO]])),(18049651611795969,(.carry [])),(2422583230526792824784902,(.carry [.tmp 11 false [dI]])),(68853956656,(.carry [.tmp 0 false [dO]])),(18049651613630977,(.carry [])),(2422583230773083429406726,(.carry [.tmp 11 false [dI]]))]
noncomputable def pY:(Bool×(Int×(Int×(Int×(Int×(Int×(Int×Int)))))))->Option Bool:=fun (a1,(a2,(a3,(a4,(a5,(a6,(a7,a8))))))) =>
 au (au (bn (fun v9 =>
 bif (decide (v9<3)) then
 bif (decide ((0<=v9)/\(v9<3))) then
 ah (a2::(a3::(a7::([]:List Int))))[v9.toNat]? fun x10 =>
 bif (decide (x10<(-1125899906842624:Int))) then
 aA (aA (some (Sum.inl false)))
 else
 bif (decide (x10 > 1125899906842624)) then
 aA (aA (some (Sum.inl false)))
 else
 some (Sum.inl (IntKind.wrap .i64 (v9+(1:Int))))
 else none
 else
 aA (some (Sum.inl ()))) (0:Int)) fun _ =>
 some (Sum.inl true)) fun v12 =>
 bif v12 then
 bif (decide (a2<=a3)) then
 au (au (bn (fun v13 =>
 bif (decide (v13<3)) then
 bif (decide ((0<=v13)/\(v13<3))) then
 ah (a4::(a5::(a6::([]:List Int))))[v13.toNat]? fun x14 =>
 bif (decide (x14<0)) then
 aA (aA (some (Sum.inl false)))
 else
 bif (decide (x14 > 1125899906842624)) then
 aA (aA (some (Sum.inl false)))
 else
 some (Sum.inl (IntKind.wrap .i64 (v13+(1:Int))))
 else none
 else
 aA (some (Sum.inl ()))) (0:Int)) fun _ =>
 some (Sum.inl true)) fun v16 =>
 bif v16 then
 au (au (bn (fun v17 =>
 bif (decide (v17<1)) then
 bif (decide ((0<=v17)/\(v17<1))) then
 ah (a8::([]:List Int))[v17.toNat]? fun x18 =>
 bif (decide (x18<0)) then
 aA (aA (some (Sum.inl false)))
 else
 bif (decide (x18 > 72057594037927936)) then
 aA (aA (some (Sum.inl false)))
 else
 some (Sum.inl (IntKind.wrap .i64 (v17+(1:Int))))
 else none
 else
 aA (some (Sum.inl ()))) (0:Int)) fun _ =>
 some (Sum.inl true)) fun v20 =>
 some v20
 else
 some false
 else
 some false
 else
 some false
noncomputable def ahw:List (Nat×CE):=[(70,ahu)]
theorem WQ:cu Tryz.prog ahw:=⟨ael,trivial⟩
noncomputable def ahx:CE:=⟨[(.tmp 0 true [dO,dI,dI,dI,dI,dI,dI,dI])],[(.tmp 0 false [dO])],pY⟩
theorem aem:aB Tryz.prog 94 ahx :=nK ahv dD WQ Tryz.func94
def ahy:List (Nat×PL):=[]
noncomputable def kY:Int->Option Bool:=fun a1 =>
 bif (decide (a1>=(-281474976710656:Int))) then
 some (decide (a1<=281474976710656))
 else
 some false
noncomputable def ahz:List (Nat×CE):=[(94,ahx)]
theorem WR:cu Tryz.prog ahz:=⟨aem,trivial⟩
noncomputable def ajW:CE:=⟨[(.tmp 0 false [dI])],[(.tmp 0 false [dO])],kY⟩
theorem ajX:aB Tryz.prog 95 ajW :=nK ahy dD WR Tryz.func95
def ahA:List (Nat×PL):=[(262657,(.carry [])),(2422583247133816584929793,(.carry [.tmp 10 false [dI]]))]
noncomputable def lJ:((Bool×(Int×(Int×(Int×(Int×(Int×(Int×Int)))))))×(Int×(Int×Int)))->Option (Bool×(Int×(Int×(Int×(Int×(Int×(Int×Int))))))):=fun ((a1,(a2,(a3,(a4,(a5,(a6,(a7,a8))))))),(a9,(a10,a11))) =>
 au (ah (pY (a1,(a2,(a3,(a4,(a5,(a6,(a7,a8)))))))) fun x12 =>
 bif (!x12) then
 aA (some (false,((0:Int),((0:Int),((0:Int),((0:Int),((0:Int),((0:Int),(0:Int)))))))))
 else
 ah (kY a9) fun x13 =>
 bif (!x13) then
 aA (some (false,((0:Int),((0:Int),((0:Int),((0:Int),((0:Int),((0:Int),(0:Int)))))))))
 else
 ah (kY a10) fun x14 =>
 bif (!x14) then
 aA (some (false,((0:Int),((0:Int),((0:Int),((0:Int),((0:Int),((0:Int),(0:Int)))))))))
 else
 ah (kY a11) fun x15 =>
 bif (!x15) then
 aA (some (false,((0:Int),((0:Int),((0:Int),((0:Int),((0:Int),((0:Int),(0:Int)))))))))
 else
 some (Sum.inl ())) fun _ =>
 ah (some (IntKind.wrap .i64 (a10-a11))) fun x16 =>
 bif (!a1) then
 some (true,(a9,(a9,((1:Int),((0:Int),((0:Int),(x16,(0:Int))))))))
 else
 ah (some (IntKind.wrap .i64 (x16-a7))) fun x18 =>
 au (bif (decide (x18<0)) then
 some (Sum.inl (IntKind.wrap .i64 ((0:Int)-x18)))
 else
 some (Sum.inl x18)) fun v20 =>
 some (a1,((eU a2 a9),((bf a3 a9),((IntKind.wrap .i64 (a4+(1:Int))),(a5,(a6,(x16,(IntKind.wrap .i64 (a8+(IntKind.wrap .i64 (v20-(IntKind.wrap .i64 (Int.tdiv (IntKind.wrap .i64 (a8+(8:Int))) (16:Int))))))))))))))
noncomputable def ahB:List (Nat×CE):=[(94,ahx),(95,ajW)]
theorem WS:cu Tryz.prog ahB:=⟨aem,ajX,trivial⟩
noncomputable def ajY:CE:=⟨[(.tmp 0 true [dO,dI,dI,dI,dI,dI,dI,dI]),(.tmp 1 false [dI]),(.tmp 2 false [dI]),(.tmp 3 false [dI])],[(.tmp 0 true [dO,dI,dI,dI,dI,dI,dI,dI])],lJ⟩
theorem ajZ:aB Tryz.prog 73 ajY :=nK ahA dD WS Tryz.func73
end Go.Proofs.YtigfeinnobfflaaGreat
