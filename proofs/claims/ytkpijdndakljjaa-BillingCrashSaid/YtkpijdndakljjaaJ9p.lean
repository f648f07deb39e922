import Derived.Test.YtkpijdndakljjaaG10p
import Derived.Test.YtkpijdndakljjaaQ1p
set_option linter.unusedSimpArgs false
set_option linter.unusedVariables false
namespace Go.Proofs.Ytkpijdndakljjaa.Jn
open Go.RowKit
theorem MC (b:List Int) (s c:Int) (hb:b.length<=900000) (hs:0<=s/\s<=(b.length:Int)) (hc:0<=c/\c<=1048576):kF (b,(s,c))=some (b,((b.length:Int),c)):=by
 unfold kF;refine iP (Jd b s c) ?_;rw [decide_eq_true (by omega)];simp only [aB,aK,aX,bC,aN,bD,bF,aO,List.take_length,Nat.le_refl,if_true,Nat.mul_one,Int.mul_one,cond_true,cond_false,Bool.not_true];refine iP (EL b [] (by omega) (by simp)) ?_;rw [List.append_nil]
theorem ahR (b:List Int) (s c k:Int) (hb:b.length<=900000) (hs:0<=s/\s<=(b.length:Int)) (hc:0<=c/\c<=1048576):∃n:Nat,s<=(n:Int)/\n<=b.length/\kP ((b,(s,c)),k)=some (b.take n):=by
 obtain ⟨n,hn⟩:∃n:Nat,(n:Int)=xK (dK s k) (b.length:Int):=⟨(xK (dK s k) (b.length:Int)).toNat,by unfold xK dK;split<;>split<;>omega⟩
 have h1:s<=(n:Int)/\n<=b.length:=by
  unfold xK dK at hn;constructor
  ·split at hn<;>split at hn<;>omega
  ·split at hn<;>split at hn<;>omega
 refine ⟨n,h1.1,h1.2,?_⟩;unfold kP;refine iP (Jd b s c) ?_;rw [decide_eq_true (by omega),<-hn];simp only [aB,aK,aX,bC,aN,bD,bF,aO,List.take_length,Nat.le_refl,if_true,Nat.mul_one,Int.mul_one,cond_true,cond_false,Bool.not_true,Ja,Int.toNat_natCast];rw [if_pos (by omega)];refine iP (EL _ [] (by rw [List.length_take];omega) (by simp)) ?_;rw [List.append_nil]
theorem al3 {l:iK} {c j:Nat} (hj:j<=l.length) (h:rZ (l.take j)<=c):j<=cnt l c:=by
 rcases Nat.lt_or_ge (cnt l c) j with hlt | hge
 ·have:=(MB l c).2 (by omega);have:=Pz l (show cnt l c+1<=j by omega);omega
 ·exact hge
theorem UY (l:iK) (j:Nat):(iL 0 l).take (rZ (l.take j))=iL 0 (l.take j):=by
 conv=>lhs;rw [<-List.take_append_drop j l]
 rw [wH,List.take_append_of_le_length (by rw [rC,List.take_append_drop];exact Nat.le_refl _),List.take_of_length_le (by rw [rC,List.take_append_drop];exact Nat.le_refl _)]
end Go.Proofs.Ytkpijdndakljjaa.Jn

set_option maxRecDepth 100000
namespace Go.Proofs.Ytkpijdndakljjaa
open Go.RowKit
abbrev Tx:=List UInt8
abbrev BL:=Tx×(Tx×(Tx×(Int×(Int×(Int×(Int×(Int×(Int×Bool))))))))
abbrev LG:=List Int×(Int×(Int×(List BL×(Int×Int))))
abbrev AC:=Int×(Int×(Int×(Int×(Int×(Tx×(Tx×Tx))))))
def b0:BL:=([],([],([],(0,(0,(0,(0,(0,(0,false)))))))))
noncomputable def ocB {δ:Type} (a1:List BL):(Int)->Option ((Int) ⊕ (Int ⊕ δ)) :=
(fun v2 =>
 bif (decide (v2<(a1.length:Int))) then
 bif (decide (((0:Int)<=v2)/\(v2<(a1.length:Int)))) then
 ah a1[v2.toNat]? fun x3 =>
 bif (decide (x3.2.2.2.2.2.2.1=(0:Int))) then
 some (Sum.inl (IntKind.wrap .i64 (v2+(1:Int))))
 else
 au (some (Sum.inl v2))
 else none
 else
 au (some (Sum.inl v2)))
theorem aof (a1:List BL):dZ a1 =
 aA (ay (ocB a1) (0:Int)) fun v5 =>
 some v5:=rfl
theorem or_eq (g:LG):dQ g =
 aA (ay (ocB g.2.2.2.1) (0:Int)) fun v10 =>
 some v10:=rfl
noncomputable def vaB (g:LG) (x10:Int):(Int×Int)->Option ((Int×Int) ⊕ (Unit ⊕ Bool)) :=
(fun (v11,v12) =>
 bif (decide (v11<(g.2.2.2.1.length:Int))) then
 bif (decide (((0:Int)<=v11)/\(v11<(g.2.2.2.1.length:Int)))) then
 ah g.2.2.2.1[v11.toNat]? fun x13 =>
 ah (kH (x13,g.2.2.2.2.2)) fun x14 =>
 bif (!x14) then
 au (au (some false))
 else
 bif (decide (v11<x10)) then
 bif (decide (v11 > (0:Int))) then
 ah (some (IntKind.wrap .i64 (v11-(1:Int)))) fun x15 =>
 bif (decide (((0:Int)<=x15)/\(x15<(g.2.2.2.1.length:Int)))) then
 ah g.2.2.2.1[x15.toNat]? fun x16 =>
 bif (!(Go.Op.bytesLess x16.1 x13.1)) then
 au (au (some false))
 else
 some (Sum.inl ((IntKind.wrap .i64 (v11+(1:Int))),v12))
 else none
 else
 some (Sum.inl ((IntKind.wrap .i64 (v11+(1:Int))),v12))
 else
 ah (aZ (x13.2.2.2.2.2.2.1,((IntKind.wrap .i64 (v12+(1:Int))),g.2.2.2.2.1))) fun x20 =>
 bif (!x20) then
 au (au (some false))
 else
 some (Sum.inl ((IntKind.wrap .i64 (v11+(1:Int))),x13.2.2.2.2.2.2.1))
 else none
 else
 au (some (Sum.inl ())))
theorem aog (g:LG):bY g =
 aA (ah (gu (g.1,(g.2.1,g.2.2.1))) fun x7 =>
 bif (!x7) then
 au (some false)
 else
 ah (aZ (g.2.2.2.2.2,((0:Int),(1099511627776:Int)))) fun x8 =>
 bif (!x8) then
 au (some false)
 else
 ah (aZ (g.2.2.2.2.1,((0:Int),(1048576:Int)))) fun x9 =>
 bif (!x9) then
 au (some false)
 else
 some (Sum.inl ())) fun _ =>
 ah (dZ g.2.2.2.1) fun x10 =>
 bif (decide (x10 > (256:Int))) then
  some false
 else
  aA (ay (vaB g x10) ((0:Int),(0:Int))) fun _ =>
  some true:=rfl
noncomputable def WY (g:LG) (x8:Int):(Int×Int)->Option ((Int×Int) ⊕ (Unit ⊕ Bool)) :=
(fun (v9,v10) =>
 bif (decide (v9<(g.2.2.2.1.length:Int))) then
 bif (decide (((0:Int)<=v9)/\(v9<(g.2.2.2.1.length:Int)))) then
 ah g.2.2.2.1[v9.toNat]? fun x11 =>
 ah (lG (x11,g.2.2.2.2.2)) fun x12 =>
 bif (!x12) then
 au (au (some false))
 else
 bif (decide (v9<x8)) then
 bif (decide (v9 > (0:Int))) then
 ah (some (IntKind.wrap .i64 (v9-(1:Int)))) fun x13 =>
 bif (decide (((0:Int)<=x13)/\(x13<(g.2.2.2.1.length:Int)))) then
 ah g.2.2.2.1[x13.toNat]? fun x14 =>
 bif (!(Go.Op.bytesLess x14.1 x11.1)) then
 au (au (some false))
 else
 some (Sum.inl ((IntKind.wrap .i64 (v9+(1:Int))),v10))
 else none
 else
 some (Sum.inl ((IntKind.wrap .i64 (v9+(1:Int))),v10))
 else
 bif (decide (x11.2.2.2.2.2.2.1<=v10)) then
 au (au (some false))
 else
 bif (decide (x11.2.2.2.2.2.2.1 > g.2.2.2.2.1)) then
 au (au (some false))
 else
 some (Sum.inl ((IntKind.wrap .i64 (v9+(1:Int))),x11.2.2.2.2.2.2.1))
 else none
 else
 au (some (Sum.inl ())))
theorem aoh (g:LG):iD g =
 aA (ah (fA (g.1,(g.2.1,g.2.2.1))) fun x7 =>
 bif (!x7) then
 au (some false)
 else
 bif (decide (g.2.2.2.2.2<(0:Int))) then
 au (some false)
 else
 bif (decide (g.2.2.2.2.2 > (1099511627776:Int))) then
 au (some false)
 else
 bif (decide (g.2.2.2.2.1<(0:Int))) then
 au (some false)
 else
 bif (decide (g.2.2.2.2.1 > (1048576:Int))) then
 au (some false)
 else
 some (Sum.inl ())) fun _ =>
 ah (dQ g) fun x8 =>
 aA (ay (WY g x8) ((0:Int),(0:Int))) fun _ =>
 some (decide (x8<=(256:Int))):=rfl
noncomputable def plB {δ:Type} (a1:List BL) (a2:Tx):(Int×Int)->Option ((Int×Int) ⊕ (Int ⊕ δ)) :=
(fun (v3,v4) =>
 bif (decide (v4<v3)) then
 ah (some (Int.fdiv (IntKind.wrap .u64 (IntKind.wrap .i64 (v4+v3))) (2:Int))) fun x7 =>
 bif (decide (((0:Int)<=(IntKind.wrap .i64 x7))/\((IntKind.wrap .i64 x7)<(a1.length:Int)))) then
 ah a1[(Int.toNat (IntKind.wrap .i64 x7))]? fun x9 =>
 bif (!(!(Go.Op.bytesLess x9.1 a2))) then
 some (Sum.inl (v3,(IntKind.wrap .i64 ((IntKind.wrap .i64 x7)+(1:Int)))))
 else
 some (Sum.inl ((IntKind.wrap .i64 x7),v4))
 else none
 else
 au (some (Sum.inl v4)))
theorem aoi (a1:List BL) (a2:Tx):iW (a1,a2) =
 aA (aA (ay (plB a1 a2) ((a1.length:Int),(0:Int))) fun v11 =>
 some (Sum.inl v11)) fun v12 =>
 bif (decide (v12<(a1.length:Int))) then
  bif (decide (((0:Int)<=v12)/\(v12<(a1.length:Int)))) then
   ah a1[v12.toNat]? fun x13 =>
   some (v12,(decide (x13.1=a2)))
  else none
 else
  some (v12,false):=rfl
noncomputable def d8B {δ:Type} (x5:Int):(Int×List Int)->Option ((Int×List Int) ⊕ ((Int×(List Int×Int)) ⊕ δ)) :=
(fun (v6,v7) =>
 bif (decide (v6>=(0:Int))) then
 bif (decide ((0:Int)<=v6)) then
 ah (some (Int.fdiv (IntKind.wrap .u64 x5) ((2:Int) ^ (Min.min v6.toNat 64)))) fun x9 =>
 bif (decide (v7.length<=v7.length)) then
 bif (decide (((List.length ((v7.take v7.length)++((IntKind.wrap .u8 x9)::([]:List Int))))*1)<=140737488355328)) then
 ah (some ((v7.take v7.length)++((IntKind.wrap .u8 x9)::([]:List Int)))) fun x11 =>
 bif (decide (x11.length<=x11.length)) then
 some (Sum.inl ((IntKind.wrap .i64 (v6-(8:Int))),(x11.take x11.length)))
 else none
 else none
 else none
 else none
 else
 au (bif (decide (v7.length<=v7.length)) then
 some (Sum.inl (v6,((v7.take v7.length),x5)))
 else none))
noncomputable def dnB {δ:Type} (a1:List Int):(Int×List Int)->Option ((Int×List Int) ⊕ (List Int ⊕ δ)) :=
(fun (v3,v4) =>
 bif (decide (v3<(a1.length:Int))) then
 aA (bif (decide (((0:Int)<=v3)/\(v3<(a1.length:Int)))) then
 ah a1[v3.toNat]? fun x5 =>
 bif (decide (v4.length<=v4.length)) then
 ay (d8B x5) ((56:Int),(v4.take v4.length))
 else none
 else none) fun (v13,(v14,v15)) =>
 bif (decide (v14.length<=v14.length)) then
 some (Sum.inl ((IntKind.wrap .i64 (v3+(1:Int))),(v14.take v14.length)))
 else none
 else
 au (bif (decide (v4.length<=v4.length)) then
 some (Sum.inl (v4.take v4.length))
 else none))
noncomputable def dtB {δ:Type} (a2:List Tx):(Int×List Int)->Option ((Int×List Int) ⊕ (List Int ⊕ δ)) :=
(fun (v18,v19) =>
 bif (decide (v18<(a2.length:Int))) then
 bif (decide (((0:Int)<=v18)/\(v18<(a2.length:Int)))) then
 ah a2[v18.toNat]? fun x20 =>
 ah (some (Int.fdiv (x20.length:Int) (256:Int))) fun x21 =>
 ah (some (IntKind.wrap .u8 (x20.length:Int))) fun x23 =>
 bif (decide (v19.length<=v19.length)) then
 bif (decide (((List.length ((v19.take v19.length)++((IntKind.wrap .u8 x21)::(x23::([]:List Int)))))*1)<=140737488355328)) then
 ah (some ((v19.take v19.length)++((IntKind.wrap .u8 x21)::(x23::([]:List Int))))) fun x24 =>
 bif (decide (x24.length<=x24.length)) then
 bif (decide (((List.length ((x24.take x24.length)++(List.map (fun (x25:UInt8)=>(((UInt8.toNat x25):Nat):Int)) x20)))*1)<=140737488355328)) then
 ah (some ((x24.take x24.length)++(List.map (fun (x27:UInt8)=>(((UInt8.toNat x27):Nat):Int)) x20))) fun x26 =>
 bif (decide (x26.length<=x26.length)) then
 some (Sum.inl ((IntKind.wrap .i64 (v18+(1:Int))),(x26.take x26.length)))
 else none
 else none
 else none
 else none
 else none
 else none
 else
 au (bif (decide (v19.length<=v19.length)) then
 some (Sum.inl (v19.take v19.length))
 else none))
theorem aoj (a1:List Int) (a2:List Tx):fH (a1,a2) =
 aA (ay (dnB a1) ((0:Int),([]:List Int))) fun v17 =>
 aA (bif (decide (v17.length<=v17.length)) then
 ay (dtB a2) ((0:Int),(v17.take v17.length))
 else none) fun v29 =>
 bif (decide (v29.length<=v29.length)) then
  some (v29.take v29.length)
 else none:=rfl
noncomputable def nuB {δ:Type}  : (Int×(Int×List Int))->Option ((Int×(Int×List Int)) ⊕ (List Int ⊕ δ)) :=
(fun (v2,(v3,v4)) =>
 bif (decide (v2>=(0:Int))) then
 bif (decide (((0:Int)<=v2)/\(v2<(8:Int)))) then
 ah v4[v2.toNat]? fun x7 =>
 some (Sum.inl ((IntKind.wrap .i64 (v2-(1:Int))),((IntKind.wrap .i64 (Int.tdiv v3 (256:Int))),(List.set v4 v2.toNat (IntKind.wrap .u8 (Int.tmod v3 (256:Int)))))))
 else none
 else
 au (some (Sum.inl v4)))
theorem aok (a1:Int):kK a1 =
 aA (ay nuB ((7:Int),(a1,(List.replicate 8 (0:Int))))) fun v10 =>
 bif (decide (8<=v10.length)) then
  some (List.take 8 v10)
 else none:=rfl
noncomputable def drB {δ:Type} (a1:List Int):(Int×List Int)->Option ((Int×List Int) ⊕ (List Int ⊕ δ)) :=
(fun (v3,v4) =>
 bif (decide (v3<(a1.length:Int))) then
 bif (decide (((0:Int)<=v3)/\(v3<(a1.length:Int)))) then
 ah a1[v3.toNat]? fun x5 =>
 ah (kK x5) fun x6 =>
 bif (decide (v4.length<=v4.length)) then
 bif (decide (((List.length ((v4.take v4.length)++x6))*1)<=140737488355328)) then
 ah (some ((v4.take v4.length)++x6)) fun x7 =>
 bif (decide (x7.length<=x7.length)) then
 some (Sum.inl ((IntKind.wrap .i64 (v3+(1:Int))),(x7.take x7.length)))
 else none
 else none
 else none
 else none
 else
 au (bif (decide (v4.length<=v4.length)) then
 some (Sum.inl (v4.take v4.length))
 else none))
noncomputable def trB {δ:Type} (a2:List Tx):(Int×List Int)->Option ((Int×List Int) ⊕ (List Int ⊕ δ)) :=
(fun (v10,v11) =>
 bif (decide (v10<(a2.length:Int))) then
 bif (decide (((0:Int)<=v10)/\(v10<(a2.length:Int)))) then
 ah a2[v10.toNat]? fun x12 =>
 ah (some (IntKind.wrap .i64 (Int.tdiv (x12.length:Int) (256:Int)))) fun x13 =>
 bif (decide (((0:Int)<=v10)/\(v10<(a2.length:Int)))) then
 ah a2[v10.toNat]? fun x15 =>
 ah (some (Int.tmod (x15.length:Int) (256:Int))) fun x16 =>
 bif (decide (v11.length<=v11.length)) then
 bif (decide (((List.length ((v11.take v11.length)++((IntKind.wrap .u8 x13)::((IntKind.wrap .u8 x16)::([]:List Int)))))*1)<=140737488355328)) then
 ah (some ((v11.take v11.length)++((IntKind.wrap .u8 x13)::((IntKind.wrap .u8 x16)::([]:List Int))))) fun x18 =>
 bif (decide (((0:Int)<=v10)/\(v10<(a2.length:Int)))) then
 ah a2[v10.toNat]? fun x19 =>
 bif (decide (x19.length<=140737488355328)) then
 bif (decide (x18.length<=x18.length)) then
 bif (decide (((List.length ((x18.take x18.length)++(List.map (fun (x20:UInt8)=>(((UInt8.toNat x20):Nat):Int)) x19)))*1)<=140737488355328)) then
 ah (some ((x18.take x18.length)++(List.map (fun (x22:UInt8)=>(((UInt8.toNat x22):Nat):Int)) x19))) fun x21 =>
 bif (decide (x21.length<=x21.length)) then
 some (Sum.inl ((IntKind.wrap .i64 (v10+(1:Int))),(x21.take x21.length)))
 else none
 else none
 else none
 else none
 else none
 else none
 else none
 else none
 else none
 else
 au (bif (decide (v11.length<=v11.length)) then
 some (Sum.inl (v11.take v11.length))
 else none))
theorem aol (a1:List Int) (a2:List Tx):dw (a1,a2) =
 aA (ay (drB a1) ((0:Int),([]:List Int))) fun v9 =>
 aA (bif (decide (v9.length<=v9.length)) then
 ay (trB a2) ((0:Int),(v9.take v9.length))
 else none) fun v24 =>
 bif (decide (v24.length<=v24.length)) then
  some (v24.take v24.length)
 else none:=rfl
noncomputable def rcB (g:LG) (a7:Int):(Int)->Option ((Int) ⊕ (Unit ⊕ Int)) :=
(fun v8 =>
 bif (decide (v8<(g.2.2.2.1.length:Int))) then
 bif (decide (a7 > (0:Int))) then
 bif (decide (((0:Int)<=v8)/\(v8<(g.2.2.2.1.length:Int)))) then
 ah g.2.2.2.1[v8.toNat]? fun x9 =>
 bif (decide (x9.2.2.2.2.2.2.1=a7)) then
 au (au (some v8))
 else
 some (Sum.inl (IntKind.wrap .i64 (v8+(1:Int))))
 else none
 else
 some (Sum.inl (IntKind.wrap .i64 (v8+(1:Int))))
 else
 au (some (Sum.inl ())))
theorem aon (g:LG) (a7:Int):dN (g,a7) =
 aA (ay (rcB g a7) (0:Int)) fun _ =>
 some (-1:Int):=rfl
noncomputable def nxB (g:LG):(Int)->Option ((Int) ⊕ (Unit ⊕ (BL×Bool))) :=
(fun v8 =>
 bif (decide (v8<(g.2.2.2.1.length:Int))) then
 bif (decide (((0:Int)<=v8)/\(v8<(g.2.2.2.1.length:Int)))) then
 ah g.2.2.2.1[v8.toNat]? fun x9 =>
 bif (decide (x9.2.2.2.2.2.2.1≠(0:Int))) then
 bif (!x9.2.2.2.2.2.2.2.2.2) then
 au (au (some (x9,true)))
 else
 some (Sum.inl (IntKind.wrap .i64 (v8+(1:Int))))
 else
 some (Sum.inl (IntKind.wrap .i64 (v8+(1:Int))))
 else none
 else
 au (some (Sum.inl ())))
theorem aop (g:LG):iw g =
 ah (bY g) fun x7 =>
 bif (!x7) then
  some ((([]:List UInt8),(([]:List UInt8),(([]:List UInt8),((0:Int),((0:Int),((0:Int),((0:Int),((0:Int),((0:Int),false))))))))),false)
 else
  bif (decide (g.2.1≠(g.1.length:Int))) then
   some ((([]:List UInt8),(([]:List UInt8),(([]:List UInt8),((0:Int),((0:Int),((0:Int),((0:Int),((0:Int),((0:Int),false))))))))),false)
  else
   aA (ay (nxB g) (0:Int)) fun _ =>
   some ((([]:List UInt8),(([]:List UInt8),(([]:List UInt8),((0:Int),((0:Int),((0:Int),((0:Int),((0:Int),((0:Int),false))))))))),false):=rfl
noncomputable def nrB (g:LG):(Int)->Option ((Int) ⊕ (Unit ⊕ (BL×Bool))) :=
(fun v9 =>
 bif (decide (v9<(g.2.2.2.1.length:Int))) then
 bif (decide (((0:Int)<=v9)/\(v9<(g.2.2.2.1.length:Int)))) then
 ah g.2.2.2.1[v9.toNat]? fun x10 =>
 bif (!x10.2.2.2.2.2.2.2.2.2) then
 bif (decide (((0:Int)<=v9)/\(v9<(g.2.2.2.1.length:Int)))) then
 ah g.2.2.2.1[v9.toNat]? fun x11 =>
 au (au (some (x11,true)))
 else none
 else
 some (Sum.inl (IntKind.wrap .i64 (v9+(1:Int))))
 else none
 else
 au (some (Sum.inl ())))
theorem aor (g:LG):uY g =
 ah (iD g) fun x7 =>
 bif (!x7) then
  some ((([]:List UInt8),(([]:List UInt8),(([]:List UInt8),((0:Int),((0:Int),((0:Int),((0:Int),((0:Int),((0:Int),false))))))))),false)
 else
  bif (decide (g.2.1≠(g.1.length:Int))) then
   some ((([]:List UInt8),(([]:List UInt8),(([]:List UInt8),((0:Int),((0:Int),((0:Int),((0:Int),((0:Int),((0:Int),false))))))))),false)
  else
   aA (ah (dQ g) fun x8 =>
 ay (nrB g) x8) fun _ =>
   some ((([]:List UInt8),(([]:List UInt8),(([]:List UInt8),((0:Int),((0:Int),((0:Int),((0:Int),((0:Int),((0:Int),false))))))))),false):=rfl
noncomputable def gvB (g:LG) (a7:Int):(Int)->Option ((Int) ⊕ (Unit ⊕ (Int ⊕ (LG×Int)))) :=
(fun v9 =>
 bif (decide (v9<(g.2.2.2.1.length:Int))) then
 bif (decide (((0:Int)<=v9)/\(v9<(g.2.2.2.1.length:Int)))) then
 ah g.2.2.2.1[v9.toNat]? fun x10 =>
 bif (decide (x10.2.2.2.2.2.2.1≠(0:Int))) then
 bif (decide (x10.2.2.2.2.2.2.1=a7)) then
 au (au (some (Sum.inl v9)))
 else
 some (Sum.inl (IntKind.wrap .i64 (v9+(1:Int))))
 else
 some (Sum.inl (IntKind.wrap .i64 (v9+(1:Int))))
 else none
 else
 au (some (Sum.inl ())))
theorem aot (g:LG) (a7:Int):ou (g,a7) =
 ah (bY g) fun x8 =>
 bif (!x8) then
  some ((([]:List Int),((0:Int),((0:Int),(([]:List BL),((0:Int),(0:Int)))))),(2:Int))
 else
  aA (aA (ay (gvB g a7) (0:Int)) fun _ =>
 some (Sum.inl (-1:Int))) fun v13 =>
  bif (decide (v13<(0:Int))) then
   some ((([]:List Int),((0:Int),((0:Int),(([]:List BL),((0:Int),(0:Int)))))),(8:Int))
  else
   bif (decide (((0:Int)<=v13)/\(v13<(g.2.2.2.1.length:Int)))) then
    ah g.2.2.2.1[v13.toNat]? fun x14 =>
    bif x14.2.2.2.2.2.2.2.2.2 then
     some ((([]:List Int),((0:Int),((0:Int),(([]:List BL),((0:Int),(0:Int)))))),(9:Int))
    else
     ah (fH ((a7::([]:List Int)),([]:List (List UInt8)))) fun x15 =>
     ah (bZ ((g.1,(g.2.1,g.2.2.1)),((5:Int),x15))) fun ((x17,(x18,x19)),x20) =>
     bif (decide (x20≠(0:Int))) then
      some ((([]:List Int),((0:Int),((0:Int),(([]:List BL),((0:Int),(0:Int)))))),x20)
     else
      ah (jV g.2.2.2.1) fun x21 =>
      bif (decide (((0:Int)<=v13)/\(v13<(x21.length:Int)))) then
       ah x21[v13.toNat]? fun x22 =>
       bif (decide (x21.length<=(List.length (List.set x21 v13.toNat (x22.1,(x22.2.1,(x22.2.2.1,(x22.2.2.2.1,(x22.2.2.2.2.1,(x22.2.2.2.2.2.1,(x22.2.2.2.2.2.2.1,(x22.2.2.2.2.2.2.2.1,(x22.2.2.2.2.2.2.2.2.1,true))))))))))))) then
        some ((x17,(x18,(x19,((List.take x21.length (List.set x21 v13.toNat (x22.1,(x22.2.1,(x22.2.2.1,(x22.2.2.2.1,(x22.2.2.2.2.1,(x22.2.2.2.2.2.1,(x22.2.2.2.2.2.2.1,(x22.2.2.2.2.2.2.2.1,(x22.2.2.2.2.2.2.2.2.1,true))))))))))),(g.2.2.2.2.1,g.2.2.2.2.2))))),(0:Int))
       else none
      else none
   else none:=rfl
noncomputable def sbB (a1 a2:List BL):(Int)->Option ((Int) ⊕ (Unit ⊕ Bool)) :=
(fun v3 =>
 bif (decide (v3<(a1.length:Int))) then
 bif (decide (((0:Int)<=v3)/\(v3<(a1.length:Int)))) then
 ah a1[v3.toNat]? fun x4 =>
 bif (decide (((0:Int)<=v3)/\(v3<(a2.length:Int)))) then
 ah a2[v3.toNat]? fun x5 =>
 bif (!((decide (x4.1=x5.1))&&((decide (x4.2.1=x5.2.1))&&((decide (x4.2.2.1=x5.2.2.1))&&((decide (x4.2.2.2.1=x5.2.2.2.1))&&((decide (x4.2.2.2.2.1=x5.2.2.2.2.1))&&((decide (x4.2.2.2.2.2.1=x5.2.2.2.2.2.1))&&((decide (x4.2.2.2.2.2.2.1=x5.2.2.2.2.2.2.1))&&((decide (x4.2.2.2.2.2.2.2.1=x5.2.2.2.2.2.2.2.1))&&((decide (x4.2.2.2.2.2.2.2.2.1=x5.2.2.2.2.2.2.2.2.1))&&(x4.2.2.2.2.2.2.2.2.2==x5.2.2.2.2.2.2.2.2.2))))))))))) then
 au (au (some false))
 else
 some (Sum.inl (IntKind.wrap .i64 (v3+(1:Int))))
 else none
 else none
 else
 au (some (Sum.inl ())))
theorem aou (a1 a2:List BL):gW (a1,a2) =
 bif (decide ((a1.length:Int)≠(a2.length:Int))) then
  some false
 else
  aA (ay (sbB a1 a2) (0:Int)) fun _ =>
  some true:=rfl
theorem aov (g:LG) (a7:Tx):iY (g,a7) =
 ah (dZ g.2.2.2.1) fun x8 =>
 bif (decide (((0:Int)<=x8)/\(x8<=(g.2.2.2.1.length:Int)))) then
  ah (iW ((List.take x8.toNat g.2.2.2.1),a7)) fun (x11,x12) =>
  some (x11,x12)
 else none:=rfl
theorem aow (g:LG) (b:BL):mD (g,b) =
 aA (ah (bY g) fun x17 =>
 bif (!x17) then
 au (some ((([]:List Int),((0:Int),((0:Int),(([]:List BL),((0:Int),(0:Int)))))),(2:Int)))
 else
 ah (aZ (b.2.2.2.1,(g.2.2.2.2.2,(1099511627776:Int)))) fun x18 =>
 bif (!x18) then
 au (some ((([]:List Int),((0:Int),((0:Int),(([]:List BL),((0:Int),(0:Int)))))),(2:Int)))
 else
 ah (aZ ((b.1.length:Int),((1:Int),(200:Int)))) fun x19 =>
 bif (!x19) then
 au (some ((([]:List Int),((0:Int),((0:Int),(([]:List BL),((0:Int),(0:Int)))))),(2:Int)))
 else
 bif (decide ((b.2.1.length:Int) > (200:Int))) then
 au (some ((([]:List Int),((0:Int),((0:Int),(([]:List BL),((0:Int),(0:Int)))))),(2:Int)))
 else
 bif (decide ((b.2.2.1.length:Int) > (200:Int))) then
 au (some ((([]:List Int),((0:Int),((0:Int),(([]:List BL),((0:Int),(0:Int)))))),(2:Int)))
 else
 some (Sum.inl ())) fun _ =>
 ah (iY (g,b.1)) fun (x21,x22) =>
 bif x22 then
  some ((([]:List Int),((0:Int),((0:Int),(([]:List BL),((0:Int),(0:Int)))))),(7:Int))
 else
  ah (dZ g.2.2.2.1) fun x23 =>
  bif (decide (x23>=(256:Int))) then
   some ((([]:List Int),((0:Int),((0:Int),(([]:List BL),((0:Int),(0:Int)))))),(10:Int))
  else
   ah (fH ((b.2.2.2.1::([]:List Int)),(b.1::(b.2.1::(b.2.2.1::([]:List (List UInt8))))))) fun x24 =>
   ah (bZ ((g.1,(g.2.1,g.2.2.1)),((1:Int),x24))) fun ((x26,(x27,x28)),x29) =>
   bif (decide (x29≠(0:Int))) then
    some ((([]:List Int),((0:Int),((0:Int),(([]:List BL),((0:Int),(0:Int)))))),x29)
   else
    ah (jV g.2.2.2.1) fun x30 =>
    ah (oq (b.2.2.2.1,(b.1,(b.2.1,b.2.2.1)))) fun (x32,(x33,(x34,(x35,(x36,(x37,(x38,(x39,(x40,x41))))))))) =>
    bif ((decide (x30.length=x30.length))&&true) then
     ah (QS (x30,(x21,((x32,(x33,(x34,(x35,(x36,(x37,(x38,(x39,(x40,x41)))))))))::([]:List BL))))) fun x42 =>
     bif (decide (x42.length<=x42.length)) then
      some ((x26,(x27,(x28,((x42.take x42.length),(g.2.2.2.2.1,b.2.2.2.1))))),(0:Int))
     else none
    else none:=rfl
theorem to_eq (g:LG) (a7:Int) (a8:Tx) (a9:Int):kQ (g,(a7,(a8,a9))) =
 ah (bY g) fun x10 =>
 bif (!x10) then
  some ((([]:List Int),((0:Int),((0:Int),(([]:List BL),((0:Int),(0:Int)))))),(2:Int))
 else
  ah (aZ (a9,(g.2.2.2.2.2,(1099511627776:Int)))) fun x11 =>
  bif (!x11) then
   some ((([]:List Int),((0:Int),((0:Int),(([]:List BL),((0:Int),(0:Int)))))),(2:Int))
  else
   ah (iY (g,a8)) fun (x13,x14) =>
   bif (!x14) then
    some ((([]:List Int),((0:Int),((0:Int),(([]:List BL),((0:Int),(0:Int)))))),(8:Int))
   else
    bif (decide (a7=(2:Int))) then
     bif (decide (((0:Int)<=x13)/\(x13<(g.2.2.2.1.length:Int)))) then
      ah g.2.2.2.1[x13.toNat]? fun x15 =>
      bif (decide (x15.2.2.2.2.1≠(-1:Int))) then
       some ((([]:List Int),((0:Int),((0:Int),(([]:List BL),((0:Int),(0:Int)))))),(9:Int))
      else
       ah (fH ((a9::([]:List Int)),(a8::([]:List (List UInt8))))) fun x16 =>
       ah (bZ ((g.1,(g.2.1,g.2.2.1)),(a7,x16))) fun ((x18,(x19,x20)),x21) =>
       bif (decide (x21≠(0:Int))) then
        some ((([]:List Int),((0:Int),((0:Int),(([]:List BL),((0:Int),(0:Int)))))),x21)
       else
        ah (jV g.2.2.2.1) fun x22 =>
        bif (decide (((0:Int)<=x13)/\(x13<(x22.length:Int)))) then
         ah x22[x13.toNat]? fun x23 =>
         bif (decide (a7=(2:Int))) then
          bif (decide (((0:Int)<=x13)/\(x13<(x22.length:Int)))) then
           ah (List.set x22 x13.toNat (x23.1,(x23.2.1,(x23.2.2.1,(x23.2.2.2.1,(x23.2.2.2.2.1,(a9,(x23.2.2.2.2.2.2.1,(x23.2.2.2.2.2.2.2.1,(x23.2.2.2.2.2.2.2.2.1,x23.2.2.2.2.2.2.2.2.2))))))))))[x13.toNat]? fun x24 =>
           bif (decide (x22.length<=(List.length (List.set (List.set x22 x13.toNat (x23.1,(x23.2.1,(x23.2.2.1,(x23.2.2.2.1,(x23.2.2.2.2.1,(a9,(x23.2.2.2.2.2.2.1,(x23.2.2.2.2.2.2.2.1,(x23.2.2.2.2.2.2.2.2.1,x23.2.2.2.2.2.2.2.2.2)))))))))) x13.toNat (x24.1,(x24.2.1,(x24.2.2.1,(x24.2.2.2.1,(a9,(x24.2.2.2.2.2.1,(x24.2.2.2.2.2.2.1,(x24.2.2.2.2.2.2.2.1,(x24.2.2.2.2.2.2.2.2.1,x24.2.2.2.2.2.2.2.2.2))))))))))))) then
            some ((x18,(x19,(x20,((List.take x22.length (List.set (List.set x22 x13.toNat (x23.1,(x23.2.1,(x23.2.2.1,(x23.2.2.2.1,(x23.2.2.2.2.1,(a9,(x23.2.2.2.2.2.2.1,(x23.2.2.2.2.2.2.2.1,(x23.2.2.2.2.2.2.2.2.1,x23.2.2.2.2.2.2.2.2.2)))))))))) x13.toNat (x24.1,(x24.2.1,(x24.2.2.1,(x24.2.2.2.1,(a9,(x24.2.2.2.2.2.1,(x24.2.2.2.2.2.2.1,(x24.2.2.2.2.2.2.2.1,(x24.2.2.2.2.2.2.2.2.1,x24.2.2.2.2.2.2.2.2.2))))))))))),(g.2.2.2.2.1,a9))))),(0:Int))
           else none
          else none
         else
          bif (decide (x22.length<=(List.length (List.set x22 x13.toNat (x23.1,(x23.2.1,(x23.2.2.1,(x23.2.2.2.1,(x23.2.2.2.2.1,(a9,(x23.2.2.2.2.2.2.1,(x23.2.2.2.2.2.2.2.1,(x23.2.2.2.2.2.2.2.2.1,x23.2.2.2.2.2.2.2.2.2))))))))))))) then
           some ((x18,(x19,(x20,((List.take x22.length (List.set x22 x13.toNat (x23.1,(x23.2.1,(x23.2.2.1,(x23.2.2.2.1,(x23.2.2.2.2.1,(a9,(x23.2.2.2.2.2.2.1,(x23.2.2.2.2.2.2.2.1,(x23.2.2.2.2.2.2.2.2.1,x23.2.2.2.2.2.2.2.2.2))))))))))),(g.2.2.2.2.1,a9))))),(0:Int))
          else none
        else none
     else none
    else
     ah (fH ((a9::([]:List Int)),(a8::([]:List (List UInt8))))) fun x25 =>
     ah (bZ ((g.1,(g.2.1,g.2.2.1)),(a7,x25))) fun ((x27,(x28,x29)),x30) =>
     bif (decide (x30≠(0:Int))) then
      some ((([]:List Int),((0:Int),((0:Int),(([]:List BL),((0:Int),(0:Int)))))),x30)
     else
      ah (jV g.2.2.2.1) fun x31 =>
      bif (decide (((0:Int)<=x13)/\(x13<(x31.length:Int)))) then
       ah x31[x13.toNat]? fun x32 =>
       bif (decide (a7=(2:Int))) then
        bif (decide (((0:Int)<=x13)/\(x13<(x31.length:Int)))) then
         ah (List.set x31 x13.toNat (x32.1,(x32.2.1,(x32.2.2.1,(x32.2.2.2.1,(x32.2.2.2.2.1,(a9,(x32.2.2.2.2.2.2.1,(x32.2.2.2.2.2.2.2.1,(x32.2.2.2.2.2.2.2.2.1,x32.2.2.2.2.2.2.2.2.2))))))))))[x13.toNat]? fun x33 =>
         bif (decide (x31.length<=(List.length (List.set (List.set x31 x13.toNat (x32.1,(x32.2.1,(x32.2.2.1,(x32.2.2.2.1,(x32.2.2.2.2.1,(a9,(x32.2.2.2.2.2.2.1,(x32.2.2.2.2.2.2.2.1,(x32.2.2.2.2.2.2.2.2.1,x32.2.2.2.2.2.2.2.2.2)))))))))) x13.toNat (x33.1,(x33.2.1,(x33.2.2.1,(x33.2.2.2.1,(a9,(x33.2.2.2.2.2.1,(x33.2.2.2.2.2.2.1,(x33.2.2.2.2.2.2.2.1,(x33.2.2.2.2.2.2.2.2.1,x33.2.2.2.2.2.2.2.2.2))))))))))))) then
          some ((x27,(x28,(x29,((List.take x31.length (List.set (List.set x31 x13.toNat (x32.1,(x32.2.1,(x32.2.2.1,(x32.2.2.2.1,(x32.2.2.2.2.1,(a9,(x32.2.2.2.2.2.2.1,(x32.2.2.2.2.2.2.2.1,(x32.2.2.2.2.2.2.2.2.1,x32.2.2.2.2.2.2.2.2.2)))))))))) x13.toNat (x33.1,(x33.2.1,(x33.2.2.1,(x33.2.2.2.1,(a9,(x33.2.2.2.2.2.1,(x33.2.2.2.2.2.2.1,(x33.2.2.2.2.2.2.2.1,(x33.2.2.2.2.2.2.2.2.1,x33.2.2.2.2.2.2.2.2.2))))))))))),(g.2.2.2.2.1,a9))))),(0:Int))
         else none
        else none
       else
        bif (decide (x31.length<=(List.length (List.set x31 x13.toNat (x32.1,(x32.2.1,(x32.2.2.1,(x32.2.2.2.1,(x32.2.2.2.2.1,(a9,(x32.2.2.2.2.2.2.1,(x32.2.2.2.2.2.2.2.1,(x32.2.2.2.2.2.2.2.2.1,x32.2.2.2.2.2.2.2.2.2))))))))))))) then
         some ((x27,(x28,(x29,((List.take x31.length (List.set x31 x13.toNat (x32.1,(x32.2.1,(x32.2.2.1,(x32.2.2.2.1,(x32.2.2.2.2.1,(a9,(x32.2.2.2.2.2.2.1,(x32.2.2.2.2.2.2.2.1,(x32.2.2.2.2.2.2.2.2.1,x32.2.2.2.2.2.2.2.2.2))))))))))),(g.2.2.2.2.1,a9))))),(0:Int))
        else none
      else none:=rfl
theorem al4 (g:LG) (a7:List Ra) (a8 a9 a10:Int):jf (g,((a7,a8),(a9,a10))) =
 bif (decide (((0:Int)<=a9)/\(a9<(g.2.2.2.1.length:Int)))) then
  ah g.2.2.2.1[a9.toNat]? fun x11 =>
  ah (jV g.2.2.2.1) fun x12 =>
  bif (decide (x12.length=x12.length)) then
   ah (NQ (x12,(a9,(IntKind.wrap .i64 (a9+(1:Int)))))) fun x14 =>
   aA (bif (decide (x11.2.2.2.2.1≠(-1:Int))) then
 bif (decide (g.2.2.2.2.1>=(1048576:Int))) then
 au (some ((([]:List Int),((0:Int),((0:Int),(([]:List BL),((0:Int),(0:Int)))))),(10:Int)))
 else
 ah (some (IntKind.wrap .i64 (g.2.2.2.2.1+(1:Int)))) fun x15 =>
 ah (bQ (x11.2.2.2.2.1,a10)) fun x16 =>
 ah (bP ((a7,a8),(x11.2.2.1,(x11.2.2.2.2.1,a10)))) fun (x18,x19) =>
 bif (decide (x19=(0:Int))) then
 bif (decide (x14.length<=x14.length)) then
 bif (decide (((List.length ((x14.take x14.length)++((x11.1,(x11.2.1,(x11.2.2.1,(x11.2.2.2.1,(x11.2.2.2.2.1,(a10,(x15,(x16,(x18,x11.2.2.2.2.2.2.2.2.2)))))))))::([]:List BL))))*104)<=140737488355328)) then
 ah (some ((x14.take x14.length)++((x11.1,(x11.2.1,(x11.2.2.1,(x11.2.2.2.1,(x11.2.2.2.2.1,(a10,(x15,(x16,(x18,x11.2.2.2.2.2.2.2.2.2)))))))))::([]:List BL)))) fun x20 =>
 bif (decide (x20.length<=x20.length)) then
 some (Sum.inl ((x20.take x20.length),((x11.1,(x11.2.1,(x11.2.2.1,(x11.2.2.2.1,(x11.2.2.2.2.1,(a10,(x15,(x16,(x18,x11.2.2.2.2.2.2.2.2.2))))))))),(g.1,(g.2.1,(g.2.2.1,(g.2.2.2.1,(x15,g.2.2.2.2.2))))))))
 else none
 else none
 else none
 else
 bif (decide (x14.length<=x14.length)) then
 bif (decide (((List.length ((x14.take x14.length)++((x11.1,(x11.2.1,(x11.2.2.1,(x11.2.2.2.1,(x11.2.2.2.2.1,(a10,(x15,(x16,(x11.2.2.2.2.2.2.2.2.1,x11.2.2.2.2.2.2.2.2.2)))))))))::([]:List BL))))*104)<=140737488355328)) then
 ah (some ((x14.take x14.length)++((x11.1,(x11.2.1,(x11.2.2.1,(x11.2.2.2.1,(x11.2.2.2.2.1,(a10,(x15,(x16,(x11.2.2.2.2.2.2.2.2.1,x11.2.2.2.2.2.2.2.2.2)))))))))::([]:List BL)))) fun x21 =>
 bif (decide (x21.length<=x21.length)) then
 some (Sum.inl ((x21.take x21.length),((x11.1,(x11.2.1,(x11.2.2.1,(x11.2.2.2.1,(x11.2.2.2.2.1,(a10,(x15,(x16,(x11.2.2.2.2.2.2.2.2.1,x11.2.2.2.2.2.2.2.2.2))))))))),(g.1,(g.2.1,(g.2.2.1,(g.2.2.2.1,(x15,g.2.2.2.2.2))))))))
 else none
 else none
 else none
 else
 bif (decide (x14.length<=x14.length)) then
 some (Sum.inl ((x14.take x14.length),((x11.1,(x11.2.1,(x11.2.2.1,(x11.2.2.2.1,(x11.2.2.2.2.1,(a10,(x11.2.2.2.2.2.2.1,(x11.2.2.2.2.2.2.2.1,(x11.2.2.2.2.2.2.2.2.1,x11.2.2.2.2.2.2.2.2.2))))))))),g)))
 else none) fun (v22,((v23,(v24,(v25,(v26,(v27,(v28,(v29,(v30,(v31,v32))))))))),(v33,(v34,(v35,(v36,(v37,v38))))))) =>
   ah (fH ((a10::(v29::(v30::(v31::([]:List Int))))),(v23::([]:List (List UInt8))))) fun x39 =>
   ah (bZ ((v33,(v34,v35)),((4:Int),x39))) fun ((x41,(x42,x43)),x44) =>
   bif (decide (x44≠(0:Int))) then
    some ((([]:List Int),((0:Int),((0:Int),(([]:List BL),((0:Int),(0:Int)))))),x44)
   else
    bif (decide (v22.length<=v22.length)) then
     some ((x41,(x42,(x43,((v22.take v22.length),(v37,v38))))),(0:Int))
    else none
  else none
 else none:=rfl
theorem aox (g:LG) (a7:List Ra) (a8:Int) (a9:Tx) (a10:Int):pq (g,((a7,a8),(a9,a10))) =
 aA (ah (bY g) fun x11 =>
 bif (!x11) then
 au (some ((([]:List Int),((0:Int),((0:Int),(([]:List BL),((0:Int),(0:Int)))))),(2:Int)))
 else
 ah (aZ (a10,(g.2.2.2.2.2,(1099511627776:Int)))) fun x12 =>
 bif (!x12) then
 au (some ((([]:List Int),((0:Int),((0:Int),(([]:List BL),((0:Int),(0:Int)))))),(2:Int)))
 else
 ah (aV (a7,a8)) fun x13 =>
 bif (!x13) then
 au (some ((([]:List Int),((0:Int),((0:Int),(([]:List BL),((0:Int),(0:Int)))))),(2:Int)))
 else
 some (Sum.inl ())) fun _ =>
 ah (iY (g,a9)) fun (x15,x16) =>
 bif (!x16) then
  some ((([]:List Int),((0:Int),((0:Int),(([]:List BL),((0:Int),(0:Int)))))),(8:Int))
 else
  ah (jf (g,((a7,a8),(x15,a10)))) fun ((x18,(x19,(x20,(x21,(x22,x23))))),x24) =>
  bif (decide (x24≠(0:Int))) then
   some ((([]:List Int),((0:Int),((0:Int),(([]:List BL),((0:Int),(0:Int)))))),x24)
  else
   some ((x18,(x19,(x20,(x21,(x22,a10))))),(0:Int)):=rfl
theorem aoy (g:LG):kJ g =
 ah (bY g) fun x7 =>
 bif (!x7) then
  some (([]:List Int),((0:Int),((0:Int),(([]:List BL),((0:Int),(0:Int))))))
 else
  ah (kF (g.1,(g.2.1,g.2.2.1))) fun (x9,(x10,x11)) =>
  ah (jV g.2.2.2.1) fun x12 =>
  bif (decide (x12.length<=x12.length)) then
   some (x9,(x10,(x11,((x12.take x12.length),(g.2.2.2.2.1,g.2.2.2.2.2)))))
  else none:=rfl
theorem aoz (g:LG):lJ g =
 some (decide (g.2.2.1>=(1048576:Int))):=rfl
theorem aoA (g:LG) (a:AC):jh (g,a) =
 bif (decide (a.1=(5:Int))) then
  ah (dN (g,a.2.2.1)) fun x15 =>
  bif (decide (x15<(0:Int))) then
   some (g,false)
  else
   bif (decide (((0:Int)<=x15)/\(x15<(g.2.2.2.1.length:Int)))) then
    ah g.2.2.2.1[x15.toNat]? fun x16 =>
    bif x16.2.2.2.2.2.2.2.2.2 then
     some (g,false)
    else
     bif (decide ((g.2.2.2.1.length*104)<=140737488355328)) then
      bif (decide (((0:Int)<=x15)/\(x15<(g.2.2.2.1.length:Int)))) then
       ah g.2.2.2.1[x15.toNat]? fun x18 =>
       bif (decide (g.2.2.2.1.length<=(List.length (List.set g.2.2.2.1 x15.toNat (x18.1,(x18.2.1,(x18.2.2.1,(x18.2.2.2.1,(x18.2.2.2.2.1,(x18.2.2.2.2.2.1,(x18.2.2.2.2.2.2.1,(x18.2.2.2.2.2.2.2.1,(x18.2.2.2.2.2.2.2.2.1,true))))))))))))) then
        some ((g.1,(g.2.1,(g.2.2.1,((List.take g.2.2.2.1.length (List.set g.2.2.2.1 x15.toNat (x18.1,(x18.2.1,(x18.2.2.1,(x18.2.2.2.1,(x18.2.2.2.2.1,(x18.2.2.2.2.2.1,(x18.2.2.2.2.2.2.1,(x18.2.2.2.2.2.2.2.1,(x18.2.2.2.2.2.2.2.2.1,true))))))))))),(g.2.2.2.2.1,g.2.2.2.2.2))))),true)
       else none
      else none
     else none
   else none
 else
  ah (uX ((g.1,(g.2.1,(g.2.2.1,(g.2.2.2.1,(g.2.2.2.2.1,(dK g.2.2.2.2.2 a.2.1)))))),a.2.2.2.2.2.1)) fun x19 =>
  bif (decide (a.1=(1:Int))) then
   aA (bif (decide (x19>=(0:Int))) then
 au (some ((g.1,(g.2.1,(g.2.2.1,(g.2.2.2.1,(g.2.2.2.2.1,(dK g.2.2.2.2.2 a.2.1)))))),false))
 else
 ah (dQ (g.1,(g.2.1,(g.2.2.1,(g.2.2.2.1,(g.2.2.2.2.1,(dK g.2.2.2.2.2 a.2.1))))))) fun x20 =>
 bif (decide (x20>=(256:Int))) then
 au (some ((g.1,(g.2.1,(g.2.2.1,(g.2.2.2.1,(g.2.2.2.2.1,(dK g.2.2.2.2.2 a.2.1)))))),false))
 else
 bif (decide (a.2.2.2.2.2.1=([]:List UInt8))) then
 au (some ((g.1,(g.2.1,(g.2.2.1,(g.2.2.2.1,(g.2.2.2.2.1,(dK g.2.2.2.2.2 a.2.1)))))),false))
 else
 bif (decide ((a.2.2.2.2.2.1.length:Int) > (200:Int))) then
 au (some ((g.1,(g.2.1,(g.2.2.1,(g.2.2.2.1,(g.2.2.2.2.1,(dK g.2.2.2.2.2 a.2.1)))))),false))
 else
 bif (decide ((a.2.2.2.2.2.2.1.length:Int) > (200:Int))) then
 au (some ((g.1,(g.2.1,(g.2.2.1,(g.2.2.2.1,(g.2.2.2.2.1,(dK g.2.2.2.2.2 a.2.1)))))),false))
 else
 bif (decide ((a.2.2.2.2.2.2.2.length:Int) > (200:Int))) then
 au (some ((g.1,(g.2.1,(g.2.2.1,(g.2.2.2.1,(g.2.2.2.2.1,(dK g.2.2.2.2.2 a.2.1)))))),false))
 else
 some (Sum.inl ())) fun _ =>
   ah (lH (g.2.2.2.1,(a.2.2.2.2.2.1,(a.2.2.2.2.2.2.1,(a.2.2.2.2.2.2.2,(a.2.1,((-1:Int),(a.2.1,((0:Int),((0:Int),((0:Int),false))))))))))) fun x21 =>
   some ((g.1,(g.2.1,(g.2.2.1,(x21,(g.2.2.2.2.1,(dK g.2.2.2.2.2 a.2.1)))))),true)
  else
   aA (bif (decide (x19<(0:Int))) then
 au (some ((g.1,(g.2.1,(g.2.2.1,(g.2.2.2.1,(g.2.2.2.2.1,(dK g.2.2.2.2.2 a.2.1)))))),false))
 else
 bif (decide (((0:Int)<=x19)/\(x19<(g.2.2.2.1.length:Int)))) then
 ah g.2.2.2.1[x19.toNat]? fun x22 =>
 bif (decide (a.2.1<x22.2.2.2.2.2.1)) then
 au (some ((g.1,(g.2.1,(g.2.2.1,(g.2.2.2.1,(g.2.2.2.2.1,(dK g.2.2.2.2.2 a.2.1)))))),false))
 else
 bif (decide (a.1=(2:Int))) then
 bif (decide (((0:Int)<=x19)/\(x19<(g.2.2.2.1.length:Int)))) then
 ah g.2.2.2.1[x19.toNat]? fun x23 =>
 bif (decide (x23.2.2.2.2.1>=(0:Int))) then
 au (some ((g.1,(g.2.1,(g.2.2.1,(g.2.2.2.1,(g.2.2.2.2.1,(dK g.2.2.2.2.2 a.2.1)))))),false))
 else
 some (Sum.inl ())
 else none
 else
 some (Sum.inl ())
 else none) fun _ =>
   bif (decide (((0:Int)<=x19)/\(x19<(g.2.2.2.1.length:Int)))) then
    ah g.2.2.2.1[x19.toNat]? fun x24 =>
    bif (decide (((0:Int)<=x19)/\(x19<=(g.2.2.2.1.length:Int)))) then
     ah (some (List.take x19.toNat g.2.2.2.1)) fun x25 =>
     bif (decide ((x25.length*104)<=140737488355328)) then
      ah (some (IntKind.wrap .i64 (x19+(1:Int)))) fun x27 =>
      bif (decide (((0:Int)<=x27)/\(x27<=(g.2.2.2.1.length:Int)))) then
       ah (some (List.drop x27.toNat g.2.2.2.1)) fun x28 =>
       bif (decide (x25.length<=x25.length)) then
        bif (decide (((List.length ((x25.take x25.length)++x28))*104)<=140737488355328)) then
         ah (some ((x25.take x25.length)++x28)) fun x29 =>
         aA (bif (decide (a.1=(2:Int))) then
 some (Sum.inl (x24.1,(x24.2.1,(x24.2.2.1,(x24.2.2.2.1,(a.2.1,(a.2.1,(x24.2.2.2.2.2.2.1,(x24.2.2.2.2.2.2.2.1,(x24.2.2.2.2.2.2.2.2.1,x24.2.2.2.2.2.2.2.2.2))))))))))
 else
 some (Sum.inl (x24.1,(x24.2.1,(x24.2.2.1,(x24.2.2.2.1,(x24.2.2.2.2.1,(a.2.1,(x24.2.2.2.2.2.2.1,(x24.2.2.2.2.2.2.2.1,(x24.2.2.2.2.2.2.2.2.1,x24.2.2.2.2.2.2.2.2.2))))))))))) fun (v30,(v31,(v32,(v33,(v34,(v35,(v36,(v37,(v38,v39))))))))) =>
         bif (decide (a.1<(4:Int))) then
          bif (decide (x29.length<=x29.length)) then
           ah (lH ((x29.take x29.length),(v30,(v31,(v32,(v33,(v34,(v35,(v36,(v37,(v38,v39))))))))))) fun x40 =>
           some ((g.1,(g.2.1,(g.2.2.1,(x40,(g.2.2.2.2.1,(dK g.2.2.2.2.2 a.2.1)))))),true)
          else none
         else
          bif (decide (a.2.2.1=(0:Int))) then
           bif (decide (x29.length<=x29.length)) then
            some ((g.1,(g.2.1,(g.2.2.1,((x29.take x29.length),(g.2.2.2.2.1,(dK g.2.2.2.2.2 a.2.1)))))),(decide (v34=(-1:Int))))
           else none
          else
           aA (bif (decide (v34=(-1:Int))) then
 au (some ((g.1,(g.2.1,(g.2.2.1,(g.2.2.2.1,(g.2.2.2.2.1,(dK g.2.2.2.2.2 a.2.1)))))),false))
 else
 bif (decide (a.2.2.1≠(IntKind.wrap .i64 (g.2.2.2.2.1+(1:Int))))) then
 au (some ((g.1,(g.2.1,(g.2.2.1,(g.2.2.2.1,(g.2.2.2.2.1,(dK g.2.2.2.2.2 a.2.1)))))),false))
 else
 bif (decide (a.2.2.1 > (1048576:Int))) then
 au (some ((g.1,(g.2.1,(g.2.2.1,(g.2.2.2.1,(g.2.2.2.2.1,(dK g.2.2.2.2.2 a.2.1)))))),false))
 else
 ah (bJ (v34,v35)) fun x42 =>
 bif (decide (a.2.2.2.1≠x42)) then
 au (some ((g.1,(g.2.1,(g.2.2.1,(g.2.2.2.1,(g.2.2.2.2.1,(dK g.2.2.2.2.2 a.2.1)))))),false))
 else
 some (Sum.inl ())) fun _ =>
           bif (decide (x29.length<=x29.length)) then
            bif (decide (((List.length ((x29.take x29.length)++((v30,(v31,(v32,(v33,(v34,(v35,(a.2.2.1,(a.2.2.2.1,(a.2.2.2.2.1,v39)))))))))::([]:List BL))))*104)<=140737488355328)) then
             ah (some ((x29.take x29.length)++((v30,(v31,(v32,(v33,(v34,(v35,(a.2.2.1,(a.2.2.2.1,(a.2.2.2.2.1,v39)))))))))::([]:List BL)))) fun x43 =>
             bif (decide (x43.length<=x43.length)) then
              some ((g.1,(g.2.1,(g.2.2.1,((x43.take x43.length),(a.2.2.1,(dK g.2.2.2.2.2 a.2.1)))))),true)
             else none
            else none
           else none
        else none
       else none
      else none
     else none
    else none
   else none:=rfl
theorem aoB (g:LG) (a:AC):lK (g,a) =
 ah (jh (g,a)) fun ((x16,(x17,(x18,(x19,(x20,x21))))),x22) =>
 ah (xE a) fun (x24,x25) =>
 ah (jg ((g.1,(g.2.1,g.2.2.1)),(x24,x25))) fun ((x27,(x28,x29)),x30) =>
 some (x27,(x28,(x29,(x19,(x20,x21))))):=rfl
theorem al5 (g:LG) (a7:Int):sZ (g,a7) =
 ah (iD g) fun x8 =>
 bif (!x8) then
  some ((([]:List Int),((0:Int),((0:Int),(([]:List BL),((0:Int),(0:Int)))))),(2:Int))
 else
  ah (dN (g,a7)) fun x9 =>
  bif (decide (x9<(0:Int))) then
   some ((([]:List Int),((0:Int),((0:Int),(([]:List BL),((0:Int),(0:Int)))))),(8:Int))
  else
   bif (decide (((0:Int)<=x9)/\(x9<(g.2.2.2.1.length:Int)))) then
    ah g.2.2.2.1[x9.toNat]? fun x10 =>
    bif x10.2.2.2.2.2.2.2.2.2 then
     some ((([]:List Int),((0:Int),((0:Int),(([]:List BL),((0:Int),(0:Int)))))),(9:Int))
    else
     ah (lJ g) fun x11 =>
     bif x11 then
      some ((([]:List Int),((0:Int),((0:Int),(([]:List BL),((0:Int),(0:Int)))))),(10:Int))
     else
      ah (lK (g,((5:Int),((0:Int),(a7,((0:Int),((0:Int),(([]:List UInt8),(([]:List UInt8),([]:List UInt8)))))))))) fun (x13,(x14,(x15,(x16,(x17,x18))))) =>
      some ((x13,(x14,(x15,(x16,(x17,x18))))),(0:Int))
   else none:=rfl
theorem aoC (a:AC):xE a =
 bif (decide (a.1=(1:Int))) then
  ah (dw ((a.2.1::([]:List Int)),(a.2.2.2.2.2.1::(a.2.2.2.2.2.2.1::(a.2.2.2.2.2.2.2::([]:List (List UInt8))))))) fun x9 =>
  some ((1:Int),x9)
 else
  bif (decide (a.1=(4:Int))) then
   ah (dw ((a.2.1::(a.2.2.1::(a.2.2.2.1::(a.2.2.2.2.1::([]:List Int))))),(a.2.2.2.2.2.1::([]:List (List UInt8))))) fun x10 =>
   some ((4:Int),x10)
  else
   bif (decide (a.1=(5:Int))) then
    ah (dw ((a.2.2.1::([]:List Int)),([]:List (List UInt8)))) fun x11 =>
    some ((5:Int),x11)
   else
    ah (dw ((a.2.1::([]:List Int)),(a.2.2.2.2.2.1::([]:List (List UInt8))))) fun x12 =>
    some (a.1,x12):=rfl
noncomputable def tf (p:Prop):Bool:=@decide p (Classical.propDecidable p)
theorem dM {p:Prop} (h:p):tf p=true:=by unfold tf;exact @decide_eq_true p (Classical.propDecidable p) h
theorem jL {p:Prop} (h:¬p):tf p=false:=by unfold tf;exact @decide_eq_false p (Classical.propDecidable p) h
theorem Is.tf {o:Option Bool} {P:Prop} (h:Is o P):o=Option.some (Go.Proofs.Ytkpijdndakljjaa.tf P):=by
 rcases h with ⟨h,e⟩ | ⟨h,e⟩
 ·rw [e,dM h]
 ·rw [e,jL h]
theorem Is.b {o:Option Bool} {P:Prop} (h:Is o P) {β:Type} (f:Bool->Option β):ah o f=f (Go.Proofs.Ytkpijdndakljjaa.tf P):=by rw [h.tf];rfl
theorem Is.ite' {c:Prop} [Decidable c] {a b:Option Bool} {P:Prop} (h1:c->Is a P) (h2:¬c->Is b P):Is (if c then a else b) P:=by
 by_cases h:c
 ·rw [if_pos h];exact h1 h
 ·rw [if_neg h];exact h2 h
def opn:List BL->Nat
 | []=>0
 | b::l=>if b.2.2.2.2.2.2.1=0 then opn l+1 else 0
theorem sK:∀l:List BL,opn l<=l.length
 | []=>Nat.le_refl _
 | b::l=>by
   have:=sK l;rw [opn,List.length_cons];split<;>omega
theorem MF:∀ {l:List BL} {i:Nat},i<opn l->(l.getD i b0).2.2.2.2.2.2.1=0
 | [],i,h=>by simp [opn] at h
 | b::l,i,h=>by
   rw [opn] at h;split at h
   ·rename_i hb;cases i with
    | zero=>exact hb
    | succ i =>
      rw [List.getD_cons_succ];exact MF (by omega)
   ·omega
theorem aeS:∀ {l:List BL},opn l<l.length->(l.getD (opn l) b0).2.2.2.2.2.2.1≠0
 | [],h=>by simp [opn] at h
 | b::l,h=>by
   rw [opn] at h ⊢;split at h
   ·rename_i hb;rw [if_pos hb,List.getD_cons_succ];exact aeS (by simpa using h)
   ·rename_i hb;rw [if_neg hb];exact hb
theorem Zo {δ:Type} (l:List BL) (hl:l.length<=1000000):ay (ocB (δ:=δ) l) (0:Int)=some (.inl ((opn l:Nat):Int)):=by
 have h1:=sK l;refine bI (fun i=>((i:Nat):Int)) (opn l) rfl (fun i hi => ?_) ?_
 ·have hz:=MF hi;obtain ⟨x,hx,hxb⟩:=get_at b0 (show i<l.length by omega);rw [hx] at hz;unfold ocB;simp (disch:=(first | omega | (simp only [bM];omega))) only [↓aF,aG,if_pos,↓hxb,hz,aj];rfl
 ·unfold ocB;by_cases h2:opn l<l.length
  ·have hz:=aeS h2;obtain ⟨x,hx,hxb⟩:=get_at b0 h2;rw [hx] at hz;simp (disch:=(first | omega | (simp only [bM];omega))) only [↓aF,aG,if_pos,if_neg,↓hxb,hz]
  ·simp (disch:=(first | omega | (simp only [bM];omega))) only [↓aF,aG,if_neg]
theorem ap8 (l:List BL) (hl:l.length<=1000000):dZ l=some ((opn l:Nat):Int):=by rw [aof,Zo l hl];rfl
theorem ap9 (g:LG) (hl:g.2.2.2.1.length<=1000000):dQ g=some ((opn g.2.2.2.1:Nat):Int):=by rw [or_eq,Zo _ hl];rfl
theorem Rk {β:Type} (l:List BL) (hl:l.length<=1000000) (f:Int->Option β):ah (dZ l) f=f ((opn l:Nat):Int):=by rw [ap8 l hl];rfl
theorem al6 {β:Type} (g:LG) (hl:g.2.2.2.1.length<=1000000) (f:Int->Option β):ah (dQ g) f=f ((opn g.2.2.2.1:Nat):Int):=by rw [ap9 g hl];rfl
theorem jB {β:Type} (a b c:Int) (f:Bool->Option β):ah (aZ (a,(b,c))) f=f (decide (b<=a/\a<=c)):=by
 unfold aZ;by_cases h:b<=a
 ·simp only [aO];rw [if_pos h,aB];congr 1;rw [decide_eq_decide];omega
 ·simp only [aO];rw [if_neg h,aB];congr 1;rw [eq_comm,decide_eq_false_iff_not];omega
def BK (n:Int) (b:BL):Prop :=
 (1<=b.1.length/\b.1.length<=200/\b.2.1.length<=200/\b.2.2.1.length<=200)/\(0<=b.2.2.2.1/\b.2.2.2.1<=n)/\(b.2.2.2.2.1 = -1\/(b.2.2.2.1<=b.2.2.2.2.1/\b.2.2.2.2.1<=b.2.2.2.2.2.1))/\(b.2.2.2.1<=b.2.2.2.2.2.1/\b.2.2.2.2.2.1<=n) /\
 ((b.2.2.2.2.2.2.1=0/\b.2.2.2.2.2.2.2.1=0/\b.2.2.2.2.2.2.2.2.1=0/\b.2.2.2.2.2.2.2.2.2=false)\/(b.2.2.2.2.2.2.1≠0/\b.2.2.2.2.1 ≠ -1/\0<=b.2.2.2.2.2.2.2.2.1/\b.2.2.2.2.2.2.2.1=Rt.SE b.2.2.2.2.1 b.2.2.2.2.2.1))
theorem BN {β:Type} (a b:Int) (f:Int->Option β):ah (bQ (a,b)) f=f (Rt.SE a b):=by rw [Rt.qN];rfl
theorem al7 {β:Type} (a b:Int) (f:Int->Option β):ah (bJ (a,b)) f=f (Rt.SE a b):=by rw [Rt.yF];rfl
set_option maxHeartbeats 4000000 in
theorem abB (n:Int) (b:BL):Is (kH (b,n)) (BK n b):=by
 obtain ⟨a1,a2,a3,a4,a5,a6,a7,a8,a9,a10⟩:=b;unfold kH BK;generalize hs:Rt.SE a5 a6=sv;cases a10<;>simp only [↓aF,aG,jB,BN,hs,dK,aO,<-decide_not,Gn,KH,Gm,and_true,and_false,true_and,false_and,or_false,false_or,eq_self_iff_true,Bool.not_true,Bool.not_false,reduceCtorEq]<;>repeat' (refine Is.ite' (fun _ => ?_) (fun _ => ?_))
 all_goals first | exact Is.f (by omega) | exact Is.t (by omega) | exact Is.d (by omega)
set_option maxHeartbeats 4000000 in
theorem MG (n:Int) (b:BL):Is (lG (b,n)) (BK n b):=by
 obtain ⟨a1,a2,a3,a4,a5,a6,a7,a8,a9,a10⟩:=b;cases a1 with
 | nil =>
   show Is (some false) _;exact Is.f (fun h=>by
    have:=h.1.1;simp at this)
 | cons x a1 =>
 unfold lG BK;generalize hs:Rt.SE a5 a6=sv;have e0:decide (x::a1=([]:Tx))=false:=decide_eq_false (by simp);have hpos:1<=List.length (x::a1):=by simp
 dsimp only;rw [e0,cond_false];clear e0;generalize (x::a1:Tx)=a1 at *
 cases a10<;>simp only [↓aF,aG,al7,hs,aO,<-decide_not,Gn,KH,Gm,and_true,and_false,true_and,false_and,or_false,false_or,eq_self_iff_true,Bool.not_true,Bool.not_false,reduceCtorEq]<;>repeat' (refine Is.ite' (fun _ => ?_) (fun _ => ?_))
 all_goals first | exact Is.f (by omega) | exact Is.t (by omega) | exact Is.d (by omega)
def pv (l:List BL) (i:Nat):Int:=if i<=opn l then 0 else (l.getD (i-1) b0).2.2.2.2.2.2.1
theorem PD {l:List BL} {i:Nat} (h:i<=opn l):pv l i=0:=if_pos h
theorem aeT {l:List BL} {i:Nat} (h:opn l<=i):pv l (i+1)=(l.getD i b0).2.2.2.2.2.2.1:=by
 unfold pv;rw [if_neg (by omega),Nat.add_sub_cancel]
def OKi (g:LG) (i:Nat):Prop:=BK g.2.2.2.2.2 (g.2.2.2.1.getD i b0)/\((i<opn g.2.2.2.1/\(0<i->Op.bytesLess (g.2.2.2.1.getD (i-1) b0).1 (g.2.2.2.1.getD i b0).1=true))\/(opn g.2.2.2.1<=i/\pv g.2.2.2.1 i+1<=(g.2.2.2.1.getD i b0).2.2.2.2.2.2.1/\(g.2.2.2.1.getD i b0).2.2.2.2.2.2.1<=g.2.2.2.2.1))
theorem PE {g:LG} (h:0<=g.2.2.2.2.1/\g.2.2.2.2.1<=1048576):∀ {i:Nat},(∀j,j<i->OKi g j)->0<=pv g.2.2.2.1 i/\pv g.2.2.2.1 i<=1048576
 | 0,_=>by simp [pv]
 | i+1,hj=>by
   have ih:=PE h (i:=i) (fun j hj'=>hj j (by omega));rcases (hj i (by omega)).2 with ⟨h1,_⟩ | ⟨h1,h2,h3⟩
   ·rw [PD (by omega)];omega
   ·rw [aeT h1];omega
set_option maxHeartbeats 4000000 in
theorem ahS (g:LG) (hl:g.2.2.2.1.length<=1000000) (h5:0<=g.2.2.2.2.1/\g.2.2.2.2.1<=1048576) :
 ((∀i,i<g.2.2.2.1.length->OKi g i)/\ay (vaB g ((opn g.2.2.2.1:Nat):Int)) ((0:Int),(0:Int))=some (.inl ()))\/(¬(∀i,i<g.2.2.2.1.length->OKi g i)/\ay (vaB g ((opn g.2.2.2.1:Nat):Int)) ((0:Int),(0:Int))=some (.inr false)):=by
 have ho:=sK g.2.2.2.1;refine Pq (fun i=>(((i:Nat):Int),pv g.2.2.2.1 i)) _ (OKi g) _ _ (by simp [pv]) (fun i hi hj hok => ?_) (fun i hi hj hno => ?_) (fun _ => ?_)
 ·have hp:=PE h5 hj;obtain ⟨x,hx,hxb⟩:=get_at b0 hi;obtain ⟨hb,hok⟩:=hok;rw [hx] at hb hok;unfold vaB;rcases hok with ⟨h1,h2⟩ | ⟨h1,h2,h3⟩
  ·rw [PD (by omega),PD (show i+1<=_ by omega)];by_cases h0:0<i
   ·obtain ⟨y,hy,hyb⟩:=get_at b0 (show i-1<g.2.2.2.1.length by omega);have hbl:=h2 h0;rw [hy] at hbl;have hc:((i:Int)-1)=((i-1:Nat):Int):=by omega
    simp (disch:=(first | omega | (simp only [bM];omega))) only [↓aF,aG,if_pos,if_neg,↓hxb,↓(abB g.2.2.2.2.2 x).b,dM hb,↓hyb,hc,hbl,aj,Bool.not_true];rfl
   ·simp (disch:=(first | omega | (simp only [bM];omega))) only [↓aF,aG,if_pos,if_neg,↓hxb,↓(abB g.2.2.2.2.2 x).b,dM hb,aj,Bool.not_true];rfl
  ·rw [aeT h1,hx];simp (disch:=(first | omega | (simp only [bM];omega))) only [↓aF,aG,if_pos,if_neg,↓hxb,↓(abB g.2.2.2.2.2 x).b,dM hb,↓jB,aj,Bool.not_true];rfl
 ·have hp:=PE h5 hj;obtain ⟨x,hx,hxb⟩:=get_at b0 hi;unfold OKi at hno;rw [hx] at hno;unfold vaB;by_cases hb:BK g.2.2.2.2.2 x
  ·by_cases h1:i<opn g.2.2.2.1
   ·by_cases h0:0<i
    ·obtain ⟨y,hy,hyb⟩:=get_at b0 (show i-1<g.2.2.2.1.length by omega);rw [hy] at hno;have hc:((i:Int)-1)=((i-1:Nat):Int):=by omega
     cases hbl:Op.bytesLess y.1 x.1 with
     | true=>exact (hno ⟨hb,.inl ⟨h1,fun _=>hbl⟩⟩).elim
     | false=>simp (disch:=(first | omega | (simp only [bM];omega))) only [↓aF,aG,if_pos,if_neg,↓hxb,↓(abB g.2.2.2.2.2 x).b,dM hb,↓hyb,hc,hbl,aj,Bool.not_true,Bool.not_false]
    ·exact (hno ⟨hb,.inl ⟨h1,fun h=>(h0 h).elim⟩⟩).elim
   ·simp (disch:=(first | omega | (simp only [bM];omega))) only [↓aF,aG,if_pos,if_neg,↓hxb,↓(abB g.2.2.2.2.2 x).b,dM hb,↓jB,aj,Bool.not_true];have h4:¬(pv g.2.2.2.1 i+1<=x.2.2.2.2.2.2.1/\x.2.2.2.2.2.2.1<=g.2.2.2.2.1):=fun h=>hno ⟨hb,.inr ⟨by omega,h⟩⟩;simp (disch:=(first | omega | (simp only [bM];omega))) only [↓aF,aG,if_neg,h4]
  ·simp (disch:=(first | omega | (simp only [bM];omega))) only [↓aF,aG,if_pos,↓hxb,↓(abB g.2.2.2.2.2 x).b,jL hb,Bool.not_false]
 ·unfold vaB;simp (disch:=(first | omega | (simp only [bM];omega))) only [↓aF,aG,if_neg]
set_option maxHeartbeats 4000000 in
theorem QX (g:LG) (hl:g.2.2.2.1.length<=1000000) (h5:0<=g.2.2.2.2.1/\g.2.2.2.2.1<=1048576) :
 ((∀i,i<g.2.2.2.1.length->OKi g i)/\ay (WY g ((opn g.2.2.2.1:Nat):Int)) ((0:Int),(0:Int))=some (.inl ()))\/(¬(∀i,i<g.2.2.2.1.length->OKi g i)/\ay (WY g ((opn g.2.2.2.1:Nat):Int)) ((0:Int),(0:Int))=some (.inr false)):=by
 have ho:=sK g.2.2.2.1;refine Pq (fun i=>(((i:Nat):Int),pv g.2.2.2.1 i)) _ (OKi g) _ _ (by simp [pv]) (fun i hi hj hok => ?_) (fun i hi hj hno => ?_) (fun _ => ?_)
 ·have hp:=PE h5 hj;obtain ⟨x,hx,hxb⟩:=get_at b0 hi;obtain ⟨hb,hok⟩:=hok;rw [hx] at hb hok;unfold WY;rcases hok with ⟨h1,h2⟩ | ⟨h1,h2,h3⟩
  ·rw [PD (by omega),PD (show i+1<=_ by omega)];by_cases h0:0<i
   ·obtain ⟨y,hy,hyb⟩:=get_at b0 (show i-1<g.2.2.2.1.length by omega);have hbl:=h2 h0;rw [hy] at hbl;have hc:((i:Int)-1)=((i-1:Nat):Int):=by omega
    simp (disch:=(first | omega | (simp only [bM];omega))) only [↓aF,aG,if_pos,if_neg,↓hxb,↓(MG g.2.2.2.2.2 x).b,dM hb,↓hyb,hc,hbl,aj,Bool.not_true];rfl
   ·simp (disch:=(first | omega | (simp only [bM];omega))) only [↓aF,aG,if_pos,if_neg,↓hxb,↓(MG g.2.2.2.2.2 x).b,dM hb,aj,Bool.not_true];rfl
  ·rw [aeT h1,hx];simp (disch:=(first | omega | (simp only [bM];omega))) only [↓aF,aG,if_pos,if_neg,↓hxb,↓(MG g.2.2.2.2.2 x).b,dM hb,aj,Bool.not_true];rfl
 ·have hp:=PE h5 hj;obtain ⟨x,hx,hxb⟩:=get_at b0 hi;unfold OKi at hno;rw [hx] at hno;unfold WY;by_cases hb:BK g.2.2.2.2.2 x
  ·by_cases h1:i<opn g.2.2.2.1
   ·by_cases h0:0<i
    ·obtain ⟨y,hy,hyb⟩:=get_at b0 (show i-1<g.2.2.2.1.length by omega);rw [hy] at hno;have hc:((i:Int)-1)=((i-1:Nat):Int):=by omega
     cases hbl:Op.bytesLess y.1 x.1 with
     | true=>exact (hno ⟨hb,.inl ⟨h1,fun _=>hbl⟩⟩).elim
     | false=>simp (disch:=(first | omega | (simp only [bM];omega))) only [↓aF,aG,if_pos,if_neg,↓hxb,↓(MG g.2.2.2.2.2 x).b,dM hb,↓hyb,hc,hbl,aj,Bool.not_true,Bool.not_false]
    ·exact (hno ⟨hb,.inl ⟨h1,fun h=>(h0 h).elim⟩⟩).elim
   ·have h4:¬(pv g.2.2.2.1 i+1<=x.2.2.2.2.2.2.1/\x.2.2.2.2.2.2.1<=g.2.2.2.2.1):=fun h=>hno ⟨hb,.inr ⟨by omega,h⟩⟩;by_cases h6:x.2.2.2.2.2.2.1<=pv g.2.2.2.1 i
    ·simp (disch:=(first | omega | (simp only [bM];omega))) only [↓aF,aG,if_pos,if_neg,↓hxb,↓(MG g.2.2.2.2.2 x).b,dM hb,aj,Bool.not_true]
    ·simp (disch:=(first | omega | (simp only [bM];omega))) only [↓aF,aG,if_pos,if_neg,↓hxb,↓(MG g.2.2.2.2.2 x).b,dM hb,aj,Bool.not_true]
  ·simp (disch:=(first | omega | (simp only [bM];omega))) only [↓aF,aG,if_pos,↓hxb,↓(MG g.2.2.2.2.2 x).b,jL hb,Bool.not_false]
 ·unfold WY;simp (disch:=(first | omega | (simp only [bM];omega))) only [↓aF,aG,if_neg]
def VL (g:LG):Prop:=(0<=g.2.1/\g.2.1<=(g.1.length:Int)/\0<=g.2.2.1/\g.2.2.1<=1048576)/\(0<=g.2.2.2.2.2/\g.2.2.2.2.2<=1099511627776)/\(0<=g.2.2.2.2.1/\g.2.2.2.2.1<=1048576)/\opn g.2.2.2.1<=256/\∀i,i<g.2.2.2.1.length->OKi g i
theorem aeV {β:Type} (b:List Int) (s c:Int) (f:Bool->Option β):ah (gu (b,(s,c))) f=f (decide (0<=s/\s<=(b.length:Int)/\0<=c/\c<=1048576)):=by rw [Jn.Jd];rfl
theorem nK (g:LG) (hl:g.2.2.2.1.length<=1000000):Is (bY g) (VL g):=by
 rw [aog];by_cases h1:0<=g.2.1/\g.2.1<=(g.1.length:Int)/\0<=g.2.2.1/\g.2.2.1<=1048576
 ·skip
  by_cases h2:0<=g.2.2.2.2.2/\g.2.2.2.2.2<=1099511627776
  ·skip
   by_cases h3:0<=g.2.2.2.2.1/\g.2.2.2.2.1<=1048576
   ·skip
    by_cases h4:¬((opn g.2.2.2.1:Nat):Int) > 256
    ·skip
     simp (disch:=(first | omega | (simp only [bM];omega))) only [↓aF,aG,↓aeV,↓jB,↓Rk _ hl,and_self,decide_true,decide_false,if_neg,h1,h2,h3,h4];rcases ahS g hl h3 with ⟨h,e⟩ | ⟨h,e⟩
     ·rw [e];exact Is.t ⟨h1,h2,h3,by omega,h⟩
     ·rw [e];exact Is.f fun k=>h k.2.2.2.2
    ·(simp (disch:=(first | omega | (simp only [bM];omega))) only [↓aF,aG,↓aeV,↓jB,↓Rk _ hl,and_self,decide_true,decide_false,if_pos,if_neg,h1,h2,h3,h4];exact Is.f fun k=>by unfold VL at k;omega)
   ·(simp (disch:=(first | omega | (simp only [bM];omega))) only [↓aF,aG,↓aeV,↓jB,↓Rk _ hl,and_self,decide_true,decide_false,if_pos,if_neg,h1,h2,h3];exact Is.f fun k=>by unfold VL at k;omega)
  ·(simp (disch:=(first | omega | (simp only [bM];omega))) only [↓aF,aG,↓aeV,↓jB,↓Rk _ hl,and_self,decide_true,decide_false,if_pos,if_neg,h1,h2];exact Is.f fun k=>by unfold VL at k;omega)
 ·(simp (disch:=(first | omega | (simp only [bM];omega))) only [↓aF,aG,↓aeV,↓jB,↓Rk _ hl,and_self,decide_true,decide_false,if_pos,if_neg,h1];exact Is.f fun k=>by unfold VL at k;omega)
theorem MH {β:Type} (b:List Int) (s c:Int) (f:Bool->Option β):ah (fA (b,(s,c))) f=f (decide (0<=s/\s<=(b.length:Int)/\0<=c/\c<=1048576)):=by
 have h:Is (fA (b,(s,c))) (0<=s/\s<=(b.length:Int)/\0<=c/\c<=1048576):=by
  unfold fA;simp only [↓aF,aG,aO,<-decide_not,Gn,KH,Gm]
  repeat' (refine Is.ite' (fun _ => ?_) (fun _ => ?_))
  all_goals first | exact Is.f (by omega) | exact Is.t (by omega) | exact Is.d (by omega)
 rcases h with ⟨k,e⟩ | ⟨k,e⟩
 ·rw [e,decide_eq_true k];rfl
 ·rw [e,decide_eq_false k];rfl
theorem Rl (g:LG) (hl:g.2.2.2.1.length<=1000000):Is (iD g) (VL g):=by
 rw [aoh];by_cases h1:0<=g.2.1/\g.2.1<=(g.1.length:Int)/\0<=g.2.2.1/\g.2.2.1<=1048576
 ·skip
  by_cases h2:¬g.2.2.2.2.2<0
  ·skip
   by_cases h2':¬g.2.2.2.2.2 > 1099511627776
   ·skip
    by_cases h3:¬g.2.2.2.2.1<0
    ·skip
     by_cases h3':¬g.2.2.2.2.1 > 1048576
     ·skip
      simp (disch:=(first | omega | (simp only [bM];omega))) only [↓aF,aG,↓MH,↓al6 _ hl,and_self,decide_true,decide_false,if_neg,h1,h2,h2',h3,h3'];rcases QX g hl ⟨by omega,by omega⟩ with ⟨h,e⟩ | ⟨h,e⟩
      ·rw [e,aX];exact Is.d ⟨fun k=>⟨h1,by omega,by omega,by omega,h⟩,fun k=>by unfold VL at k;omega⟩
      ·rw [e];exact Is.f fun k=>h k.2.2.2.2
     ·(simp (disch:=(first | omega | (simp only [bM];omega))) only [↓aF,aG,↓MH,and_self,decide_true,decide_false,if_pos,if_neg,h1,h2,h2',h3,h3'];exact Is.f fun k=>by unfold VL at k;omega)
    ·(simp (disch:=(first | omega | (simp only [bM];omega))) only [↓aF,aG,↓MH,and_self,decide_true,decide_false,if_pos,if_neg,h1,h2,h2',h3];exact Is.f fun k=>by unfold VL at k;omega)
   ·(simp (disch:=(first | omega | (simp only [bM];omega))) only [↓aF,aG,↓MH,and_self,decide_true,decide_false,if_pos,if_neg,h1,h2,h2'];exact Is.f fun k=>by unfold VL at k;omega)
  ·(simp (disch:=(first | omega | (simp only [bM];omega))) only [↓aF,aG,↓MH,and_self,decide_true,decide_false,if_pos,if_neg,h1,h2];exact Is.f fun k=>by unfold VL at k;omega)
 ·(simp (disch:=(first | omega | (simp only [bM];omega))) only [↓aF,aG,↓MH,and_self,decide_true,decide_false,if_pos,if_neg,h1];exact Is.f fun k=>by unfold VL at k;omega)
theorem Xh:∀a:Tx,Op.bytesLess a a=false
 | []=>rfl
 | x::a=>by rw [Op.bytesLess,Xh a];simp
theorem Rn {x y:UInt8} {a b:Tx}:Op.bytesLess (x::a) (y::b)=true↔x.toNat<y.toNat\/(x=y/\Op.bytesLess a b=true):=by
 rw [Op.bytesLess];simp [UInt8.lt_iff_toNat_lt]
theorem Zp:∀ {a b c:Tx},Op.bytesLess a b=true->Op.bytesLess b c=true->Op.bytesLess a c=true
 | _,_,[],_,h=>by cases ‹Tx› <;> simp [Op.bytesLess] at h
 | _,[],_::_,h,_=>by cases ‹Tx› <;> simp [Op.bytesLess] at h
 | [],_::_,_::_,_,_=>rfl
 | x::a,y::b,z::c,h,k=>by
   rw [Rn] at h k ⊢;rcases h with h | ⟨rfl,h⟩<;>rcases k with k | ⟨rfl,k⟩
   ·exact .inl (by omega)
   ·exact .inl h
   ·exact .inl k
   ·exact .inr ⟨rfl,Zp h k⟩
theorem aeW:∀(a b:Tx),Op.bytesLess a b=true\/Op.bytesLess b a=true\/a=b
 | [],[] => .inr (.inr rfl)
 | [],_::_ => .inl rfl
 | _::_,[] => .inr (.inl rfl)
 | x::a,y::b=>by
   rw [Rn,Rn];rcases Nat.lt_trichotomy x.toNat y.toNat with h | h | h
   ·exact .inl (.inl h)
   ·have e:x=y:=UInt8.toNat_inj.1 h;subst e;rcases aeW a b with g | g | g
    ·exact .inl (.inr ⟨rfl,g⟩)
    ·exact .inr (.inl (.inr ⟨rfl,g⟩))
    ·exact .inr (.inr (by rw [g]))
   ·exact .inr (.inl (.inl h))
def gZ (c:Tx):List BL->Nat
 | []=>0
 | b::l=>if b.2.2.2.2.2.2.1=0/\Op.bytesLess b.1 c=true then gZ c l+1 else 0
theorem wJ (c:Tx):∀l:List BL,gZ c l<=opn l
 | []=>Nat.le_refl _
 | b::l=>by
   have:=wJ c l;rw [gZ,opn];split
   ·rename_i h;rw [if_pos h.1];omega
   ·exact Nat.zero_le _
theorem Xi {c:Tx}:∀ {l:List BL} {i:Nat},i<gZ c l->Op.bytesLess (l.getD i b0).1 c=true
 | [],i,h=>by simp [gZ] at h
 | b::l,i,h=>by
   rw [gZ] at h;split at h
   ·rename_i hb;cases i with
    | zero=>exact hb.2
    | succ i=>rw [List.getD_cons_succ];exact Xi (by omega)
   ·omega
theorem Xj {c:Tx}:∀ {l:List BL},gZ c l<opn l->Op.bytesLess (l.getD (gZ c l) b0).1 c=false
 | [],h=>by simp [gZ,opn] at h
 | b::l,h=>by
   rw [gZ] at h ⊢;split at h
   ·rename_i hb;rw [if_pos hb,List.getD_cons_succ];rw [opn,if_pos hb.1] at h;exact Xj (by omega)
   ·rename_i hb;rw [if_neg hb];rw [opn] at h;split at h
    ·rename_i h0;cases hbl:Op.bytesLess b.1 c with
     | true=>exact (hb ⟨h0,hbl⟩).elim
     | false=>exact hbl
    ·omega
def Srt (l:List BL):Prop:=∀i j,i<j->j<opn l->Op.bytesLess (l.getD i b0).1 (l.getD j b0).1=true
theorem VL.srt {g:LG} (h:VL g):Srt g.2.2.2.1:=fun i j hij hj=>by
 have ho:=sK g.2.2.2.1
 induction j with
 | zero=>omega
 | succ j ih =>
   have hok:=(h.2.2.2.2 (j+1) (by omega)).2;rcases hok with ⟨_,h2⟩ | ⟨h1,_⟩
   ·have h3:=h2 (by omega);rw [Nat.add_sub_cancel] at h3;by_cases e:i=j
    ·subst e;exact h3
    ·exact Zp (ih (by omega) (by omega)) h3
   ·omega
theorem Je {c:Tx} {l:List BL} (hs:Srt l) {m:Nat} (hm:m<opn l):Op.bytesLess (l.getD m b0).1 c=true↔m<gZ c l:=by
 constructor
 ·intro h;by_cases hp:m<gZ c l
  ·exact hp
  ·exfalso;have h1:=Xj (c:=c) (l:=l) (by omega);by_cases e:m=gZ c l
   ·subst e;rw [h1] at h;cases h
   ·have:=Zp (hs _ _ (show gZ c l<m by omega) hm) h;rw [h1] at this;cases this
 ·exact Xi
def Di (c:Tx) (l:List BL):Prop:=gZ c l<opn l/\(l.getD (gZ c l) b0).1=c
theorem Zq (l:List BL) (c:Tx) (hl:l.length<=1000000) {p:Nat} (hp:p<=l.length) (hs:∀m,m<l.length->(Op.bytesLess (l.getD m b0).1 c=true↔m<p)):iW (l,c)=some (((p:Nat):Int),decide (p<l.length/\(l.getD p b0).1=c)):=by
 rw [aoi];have hloop:∀ {δ:Type},∃r:Int ⊕ δ,ay (plB (δ:=δ) l c) ((l.length:Int),(0:Int))=some r/\r = .inl ((p:Nat):Int):=fun {δ}=>by
  refine Dc (fun x=>∃lo hi:Nat,x=(((hi:Nat):Int),((lo:Nat):Int))/\lo<=p/\p<=hi/\hi<=l.length) (fun r=>r=(.inl ((p:Nat):Int):Int ⊕ δ)) (fun x=>(x.1-x.2).toNat) (x:=(((l.length:Nat):Int),(0:Int))) (fun x hx => ?_) ⟨0,l.length,rfl,by omega,hp,Nat.le_refl _⟩;obtain ⟨lo,hi,rfl,h1,h2,h3⟩:=hx;by_cases hlt:lo<hi
  ·have hmid:∃m:Nat,IntKind.wrap .i64 (Int.fdiv (IntKind.wrap .u64 (((lo:Nat):Int)+((hi:Nat):Int))) (2:Int))=((m:Nat):Int)/\lo<=m/\m<hi:=by
    refine ⟨(lo+hi) / 2,?_,by omega,by omega⟩;rw [Df,Int.fdiv_eq_ediv_of_nonneg _ (by omega),aj (by omega)];omega
   obtain ⟨m,hm,m1,m2⟩:=hmid;obtain ⟨x,hx,hxb⟩:=get_at b0 (show m<l.length by omega);have hsm:=hs m (by omega);rw [hx] at hsm;refine .inr ?_;unfold plB;cases hbl:Op.bytesLess x.1 c with
   | true =>
     have hmp:m<p:=hsm.1 hbl;refine ⟨(((hi:Nat):Int),(((m+1:Nat)):Int)),?_,⟨m+1,hi,rfl,by omega,h2,h3⟩,by simp only;omega⟩;simp (disch:=(first | omega | (simp only [bM];omega))) only [↓aF,aG,if_pos,hm,↓hxb,hbl,aj,Bool.not_true,Bool.not_false];rfl
   | false =>
     have hmp:¬m<p:=fun h=>by rw [hsm.2 h] at hbl;cases hbl
     refine ⟨(((m:Nat):Int),((lo:Nat):Int)),?_,⟨lo,m,rfl,h1,by omega,by omega⟩,by simp only;omega⟩;simp (disch:=(first | omega | (simp only [bM];omega))) only [↓aF,aG,if_pos,hm,↓hxb,hbl,aj,Bool.not_true,Bool.not_false]
  ·refine .inl ⟨_,?_,rfl⟩;obtain rfl:lo=p:=by omega
   unfold plB;simp (disch:=(first | omega | (simp only [bM];omega))) only [↓aF,aG,if_neg]
 obtain ⟨r,hr,rfl⟩:=hloop;rw [hr];by_cases hpl:p<l.length
 ·obtain ⟨x,hx,hxb⟩:=get_at b0 hpl;rw [hx];simp (disch:=(first | omega | (simp only [bM];omega))) only [↓aF,aG,if_pos,↓hxb];rw [Option.some.injEq,Prod.mk.injEq];exact ⟨rfl,by rw [decide_eq_decide];exact ⟨fun h=>⟨hpl,h⟩,fun h=>h.2⟩⟩
 ·simp (disch:=(first | omega | (simp only [bM];omega))) only [↓aF,aG,if_neg];rw [decide_eq_false (fun h=>hpl h.1)]
theorem al9 (g:LG) (c:Tx) (hl:g.2.2.2.1.length<=1000000) (hs:Srt g.2.2.2.1):iY (g,c)=some (((gZ c g.2.2.2.1:Nat):Int),tf (Di c g.2.2.2.1)):=by
 have ho:=sK g.2.2.2.1;have hp:=wJ c g.2.2.2.1;rw [aov];have hlen:(g.2.2.2.1.take (opn g.2.2.2.1)).length=opn g.2.2.2.1:=by rw [List.length_take];omega
 have h:=Zq (g.2.2.2.1.take (opn g.2.2.2.1)) c (by omega) (p:=gZ c g.2.2.2.1) (by omega) (fun m hm=>by rw [getD_take _ _ (by omega)];exact Je hs (by omega));simp (disch:=(first | omega | (simp only [bM];omega))) only [↓aF,aG,↓Rk _ hl,if_pos,Int.toNat_natCast];rw [h,hlen];simp only [↓aF];congr 2;unfold Di;by_cases hq:gZ c g.2.2.2.1<opn g.2.2.2.1
 ·rw [getD_take _ _ hq];by_cases hc:(g.2.2.2.1.getD (gZ c g.2.2.2.1) b0).1=c
  ·rw [dM ⟨hq,hc⟩,decide_eq_true ⟨hq,hc⟩]
  ·rw [jL (fun k=>hc k.2),decide_eq_false (fun k=>hc k.2)]
 ·rw [jL (fun k=>hq k.1),decide_eq_false (fun k=>hq k.1)]
open Jn (be bT oG nI)
def txB (t:Tx):List Int:=t.map fun x=>((x.toNat:Nat):Int)
def tB (t:Tx):List Int:=be 2 ((t.length:Nat):Int)++txB t
def lW (ns:List Int) (ts:List Tx):List Int:=ns.flatMap (be 8)++ts.flatMap tB
theorem Zr (n:Int):∀(k m:Nat),(be (k+m) n).drop k=be m n
 | 0,m=>by rw [List.drop_zero,Nat.zero_add]
 | k+1,m=>by
   rw [show k+1+m=(k+m)+1 from by omega,oG,List.drop_succ_cons];exact Zr n k m
theorem ahT (n:Int) {k:Nat} (h:k<8):(be 8 n).take (k+1)=(be 8 n).take k++[n / 256 ^ (7-k) % 256]:=by
 have h1:=Zr n k (8-k);rw [show k+(8-k)=8 from by omega] at h1;have h2:be (8-k) n=(n / 256 ^ (7-k) % 256)::be (7-k) n:=by
  rw [show 8-k=(7-k)+1 from by omega,oG]
 rw [List.take_add_one];congr 1;have h3:(be 8 n)[k]? = ((be 8 n).drop k)[0]? := by rw [List.getElem?_drop];rfl
 rw [h3,h1,h2];rfl
theorem aqa (m:Nat):(2:Int) ^ (8*m)=256 ^ m:=by rw [Int.pow_mul];rfl
theorem ahU {δ:Type} (x:Int) (hx:0<=x/\x<9223372036854775808) (L:List Int) (hL:L.length<=1000000):ay (d8B (δ:=δ) x) ((56:Int),L)=some (.inl ((-8:Int),(L++be 8 x,x))):=by
 refine bI (fun k=>((56:Int)-8*((k:Nat):Int),L++(be 8 x).take k)) 8 (by simp) (fun k hk => ?_) ?_
 ·have hl:((be 8 x).take k).length=k:=by rw [List.length_take,bT];omega
  have hp:(2:Int) ^ (Min.min (Int.toNat ((56:Int)-8*((k:Nat):Int))) 64)=256 ^ (7-k):=by
   rw [show Min.min (Int.toNat ((56:Int)-8*((k:Nat):Int))) 64=8*(7-k) from by omega,aqa]
  have hpos:(0:Int)<=256 ^ (7-k):=Int.pow_nonneg (by decide);have hv:IntKind.wrap .u8 (Int.fdiv (IntKind.wrap .u64 x) ((2:Int) ^ (Min.min (Int.toNat ((56:Int)-8*((k:Nat):Int))) 64)))=x / 256 ^ (7-k) % 256:=by
   rw [hp,Df,yS,show x % 18446744073709551616=x from by omega,Int.fdiv_eq_ediv_of_nonneg _ hpos]
  rw [ahT x hk,<-List.append_assoc];unfold d8B;simp (disch:=(first | omega | (simp only [bM];omega))) only [↓aF,aG,if_pos,hv,aj];rw [show (56:Int)-8*((k:Nat):Int)-8=56-8*((k+1:Nat):Int) from by omega]
 ·unfold d8B;rw [List.take_of_length_le (show (be 8 x).length<=8 by rw [bT];omega)];simp (disch:=(first | omega | (simp only [bM];omega))) only [↓aF,aG,if_neg];rfl
theorem Jf {α β:Type} (f:α->List β) (l:List α) (d:α) {i:Nat} (h:i<l.length):(l.take (i+1)).flatMap f=(l.take i).flatMap f++f (l.getD i d):=by
 rw [take_snoc l d h,List.flatMap_append,List.flatMap_singleton]
theorem EO (l:List Int):(l.flatMap (be 8)).length=8*l.length:=by
 induction l with
 | nil=>rfl
 | cons x l ih=>rw [List.flatMap_cons,List.length_append,ih,bT,List.length_cons];omega
theorem uZ (t:Tx):(tB t).length=2+t.length:=by rw [tB,List.length_append,bT,txB,List.length_map]
theorem Zt {l:List Tx} (h:∀t∈l,t.length<=1000):(l.flatMap tB).length<=1002*l.length:=by
 induction l with
 | nil=>simp
 | cons x l ih =>
   rw [List.flatMap_cons,List.length_append,uZ,List.length_cons];have:=ih fun t ht=>h t (List.mem_cons_of_mem _ ht);have:=h x List.mem_cons_self;omega
theorem getD_mem {α:Type} {l:List α} {d:α} {i:Nat} (h:i<l.length):l.getD i d∈l:=by
 rw [List.getD_eq_getElem?_getD,List.getElem?_eq_getElem h];exact List.getElem_mem h
def DOk (ns:List Int) (ts:List Tx):Prop:=(ns.length<=10/\∀n∈ns,0<=n/\n<9223372036854775808)/\(ts.length<=10/\∀t∈ts,t.length<=1000)
theorem be2 (n:Int):be 2 n=[n / 256 % 256,n % 256]:=by
 rw [oG,oG];simp [be]
theorem ama {ns:List Int} {ts:List Tx} (h:DOk ns ts):fH (ns,ts)=some (lW ns ts):=by
 obtain ⟨⟨h1,h2⟩,h3,h4⟩:=h;rw [aoj];have hn:∀ {δ:Type},ay (dnB (δ:=δ) ns) ((0:Int),([]:List Int))=some (.inl (ns.flatMap (be 8))):=fun {δ}=>by
  refine bI (fun i=>(((i:Nat):Int),(ns.take i).flatMap (be 8))) ns.length (by simp) (fun i hi => ?_) ?_
  ·obtain ⟨x,hx,hxb⟩:=get_at (0:Int) hi;have hm:=h2 _ (getD_mem (d:=(0:Int)) hi);rw [Jf (be 8) ns 0 hi];rw [hx] at hm ⊢;have hl:((ns.take i).flatMap (be 8)).length<=1000:=by rw [EO,List.length_take];omega
   generalize (ns.take i).flatMap (be 8)=L at *
   unfold dnB;simp (disch:=(first | omega | (simp only [bM];omega))) only [↓aF,aG,if_pos,↓hxb,↓ahU x hm L (by omega),aj];rfl
  ·unfold dnB;simp (disch:=(first | omega | (simp only [bM];omega))) only [↓aF,aG,if_neg]
 have ht:∀ {δ:Type} (L:List Int),L.length<=1000->ay (dtB (δ:=δ) ts) ((0:Int),L)=some (.inl (L++ts.flatMap tB)):=fun {δ} L hL=>by
  refine bI (fun i=>(((i:Nat):Int),L++(ts.take i).flatMap tB)) ts.length (by simp) (fun i hi => ?_) ?_
  ·obtain ⟨x,hx,hxb⟩:=get_at ([]:Tx) hi;have hm:=h4 _ (getD_mem (d:=([]:Tx)) hi);have hl:=Zt (l:=ts.take i) fun t ht=>h4 t (List.mem_of_mem_take ht);rw [List.length_take] at hl;rw [Jf tB ts [] hi,<-List.append_assoc];rw [hx] at hm ⊢;generalize hM:L++(ts.take i).flatMap tB=M;have hMl:M.length<=20000:=by rw [<-hM,List.length_append];omega
   have e1:IntKind.wrap .u8 (Int.fdiv (x.length:Int) (256:Int))=((x.length:Nat):Int) / 256 % 256:=by rw [yS,Int.fdiv_eq_ediv_of_nonneg _ (by decide)]
   have e2:IntKind.wrap .u8 (x.length:Int)=((x.length:Nat):Int) % 256:=by rw [yS]
   rw [tB,be2];unfold dtB;have hl2:∀f:UInt8->Int,(List.map f x).length=x.length:=fun f=>List.length_map ..;simp (disch:=first | omega | (simp only [List.length_append,List.length_cons,List.length_nil,List.length_map];omega)) only [↓aF,aG,if_pos,↓hxb,e1,e2,aj,List.append_assoc];rfl
  ·unfold dtB;simp (disch:=(first | omega | (simp only [bM];omega))) only [↓aF,aG,if_neg]
 rw [hn];simp only [↓aF,aG];rw [ht _ (by rw [EO];omega)];simp only [↓aF,aG];rfl
end Go.Proofs.Ytkpijdndakljjaa

namespace Go.Proofs.Ytkpijdndakljjaa
open Go.RowKit
open Jn (be bT oG nI)
theorem ahV (n:Int) (m:Nat) (v:Int) (L:List Int):(List.replicate (m+1) (0:Int)++L).set m v=List.replicate m 0++(v::L):=by
 rw [List.set_append];rw [if_pos (by simp)];rw [List.replicate_succ',List.set_append];rw [if_neg (by simp),List.length_replicate,Nat.sub_self,List.set_cons_zero,List.append_assoc];rfl
theorem aeX (n:Int) (hn:0<=n/\n<9223372036854775808):kK n=some (be 8 n):=by
 rw [aok];have hloop:∀ {δ:Type},ay (nuB (δ:=δ)) ((7:Int),(n,(List.replicate 8 (0:Int))))=some (.inl (be 8 n)):=fun {δ}=>by
  refine bI (fun k=>((7:Int)-((k:Nat):Int),(n / 256 ^ k,List.replicate (8-k) (0:Int)++be k n))) 8 (by simp [be]) (fun k hk => ?_) ?_
  ·have hp:(0:Int)<256 ^ k:=Int.pow_pos (by decide);have h0:0<=n / 256 ^ k:=Int.ediv_nonneg hn.1 (Int.le_of_lt hp);have h1:n / 256 ^ k<=n:=Int.ediv_le_self _ hn.1;have hlen:(List.replicate (8-k) (0:Int)++be k n).length=8:=by rw [List.length_append,List.length_replicate,bT];omega
   have e1:Int.tdiv (n / 256 ^ k) (256:Int)=n / 256 ^ (k+1):=by rw [Int.tdiv_eq_ediv_of_nonneg h0,Int.ediv_ediv_of_nonneg (Int.le_of_lt hp),Int.pow_succ]
   have e2:Int.tmod (n / 256 ^ k) (256:Int)=n / 256 ^ k % 256:=Int.tmod_eq_emod_of_nonneg h0;have h2:n / 256 ^ (k+1)<=n:=Int.ediv_le_self _ hn.1;have h3:0<=n / 256 ^ (k+1):=Int.ediv_nonneg hn.1 (Int.le_of_lt (Int.pow_pos (by decide)));have hset:=ahV n (7-k) (n / 256 ^ k % 256) (be k n);rw [show 7-k+1=8-k from by omega] at hset;have hix:Int.toNat ((7:Int)-((k:Nat):Int))=7-k:=by omega
   obtain ⟨y,hy⟩:∃y,(List.replicate (8-k) (0:Int)++be k n)[7-k]? = some y:=⟨_,List.getElem?_eq_getElem (by rw [hlen];omega)⟩
   have hw:IntKind.wrap .u8 (n / 256 ^ k % 256)=n / 256 ^ k % 256:=by rw [yS];omega
   rw [oG,show 8-(k+1)=7-k from by omega,show (7:Int)-((k+1:Nat):Int)=7-((k:Nat):Int)-1 from by omega];unfold nuB;simp only [↓aF,aG,if_pos (show (7:Int)-((k:Nat):Int)>=0 by omega),if_pos (show (0:Int)<=(7:Int)-((k:Nat):Int)/\(7:Int)-((k:Nat):Int)<8 by omega),hix,hy,e1,e2,hw,hset,aj (show -9223372036854775808<=n / 256 ^ (k+1)/\n / 256 ^ (k+1)<=9223372036854775807 by omega),aj (show -9223372036854775808<=(7:Int)-((k:Nat):Int)-1/\(7:Int)-((k:Nat):Int)-1<=9223372036854775807 by omega)]
  ·unfold nuB;simp (disch:=(first | omega | (simp only [bM];omega))) only [↓aF,aG,if_neg];rfl
 rw [hloop];have hl:=bT 8 n;simp only [↓aF,aG,hl];rw [List.take_of_length_le (by omega)]
theorem ahW {ns:List Int} {ts:List Tx} (h:DOk ns ts):dw (ns,ts)=some (lW ns ts):=by
 obtain ⟨⟨h1,h2⟩,h3,h4⟩:=h;rw [aol];have hn:∀ {δ:Type},ay (drB (δ:=δ) ns) ((0:Int),([]:List Int))=some (.inl (ns.flatMap (be 8))):=fun {δ}=>by
  refine bI (fun i=>(((i:Nat):Int),(ns.take i).flatMap (be 8))) ns.length (by simp) (fun i hi => ?_) ?_
  ·obtain ⟨x,hx,hxb⟩:=get_at (0:Int) hi;have hm:=h2 _ (getD_mem (d:=(0:Int)) hi);rw [Jf (be 8) ns 0 hi];rw [hx] at hm ⊢;have hl:((ns.take i).flatMap (be 8)).length<=1000:=by rw [EO,List.length_take];omega
   have hl8:=bT 8 x;generalize (ns.take i).flatMap (be 8)=L at *
   unfold drB;simp (disch:=first | omega | (simp only [List.length_append,hl8];omega)) only [↓aF,aG,if_pos,↓hxb,aeX x hm,aj];rfl
  ·unfold drB;simp (disch:=(first | omega | (simp only [bM];omega))) only [↓aF,aG,if_neg]
 have ht:∀ {δ:Type} (L:List Int),L.length<=1000->ay (trB (δ:=δ) ts) ((0:Int),L)=some (.inl (L++ts.flatMap tB)):=fun {δ} L hL=>by
  refine bI (fun i=>(((i:Nat):Int),L++(ts.take i).flatMap tB)) ts.length (by simp) (fun i hi => ?_) ?_
  ·obtain ⟨x,hx,hxb⟩:=get_at ([]:Tx) hi;have hm:=h4 _ (getD_mem (d:=([]:Tx)) hi);have hl:=Zt (l:=ts.take i) fun t ht=>h4 t (List.mem_of_mem_take ht);rw [List.length_take] at hl;rw [Jf tB ts [] hi,<-List.append_assoc];rw [hx] at hm ⊢;generalize hM:L++(ts.take i).flatMap tB=M;have hMl:M.length<=20000:=by rw [<-hM,List.length_append];omega
   have e1:IntKind.wrap .u8 (IntKind.wrap .i64 (Int.tdiv (x.length:Int) (256:Int)))=((x.length:Nat):Int) / 256 % 256:=by
    rw [Int.tdiv_eq_ediv_of_nonneg (by omega),aj (by omega),yS]
   have e2:IntKind.wrap .u8 (Int.tmod (x.length:Int) (256:Int))=((x.length:Nat):Int) % 256:=by
    rw [Int.tmod_eq_emod_of_nonneg (by omega),yS];omega
   rw [tB,be2];unfold trB;simp (disch:=first | omega | (simp only [List.length_append,List.length_cons,List.length_nil,List.length_map];omega)) only [↓aF,aG,if_pos,↓hxb,e1,e2,aj,List.append_assoc];rfl
  ·unfold trB;simp (disch:=(first | omega | (simp only [bM];omega))) only [↓aF,aG,if_neg]
 rw [hn];simp only [↓aF,aG];rw [ht _ (by rw [EO];omega)];simp only [↓aF,aG];rfl
theorem aeY (t:Tx):Bytes (txB t):=fun x hx=>by
 rw [txB,List.mem_map] at hx;obtain ⟨y,_,rfl⟩:=hx;have:=y.toNat_lt;omega
theorem MI {α:Type} (f:α->List Int) (h:∀a,Bytes (f a)):∀l:List α,Bytes (l.flatMap f)
 | []=>fun x hx=>by cases hx
 | a::l=>by rw [List.flatMap_cons];exact (h a).app (MI f h l)
theorem iQ (ns:List Int) (ts:List Tx):Bytes (lW ns ts):=(MI _ (nI 8) ns).app (MI _ (fun t=>(nI 2 _).app (aeY t)) ts)
theorem iG (ns:List Int) (ts:List Tx):(lW ns ts).length=8*ns.length+(ts.flatMap tB).length:=by rw [lW,List.length_append,EO]
def aoD (lg:List Int×(Int×Int)) (k:Int) (d:List Int):List Int×(Int×Int):=(lg.1++Jn.jR lg.2.2 k d,(lg.2.1,lg.2.2+1))
def UZ (lg:List Int×(Int×Int)):Prop:=lg.1.length<=900000/\(0<=lg.2.1/\lg.2.1<=(lg.1.length:Int))/\(0<=lg.2.2/\lg.2.2<1048576)
theorem ahX {lg:List Int×(Int×Int)} {k:Int} {d:List Int} (h:UZ lg) (hk:0<=k/\k<=255) (hd:Bytes d) (hl:d.length<=4096):bZ (lg,(k,d))=some (aoD lg k d,0):=by
 obtain ⟨B,s,n⟩:=lg;obtain ⟨h1,h2,h3⟩:=h;simp only at h1 h2 h3;unfold bZ;simp (disch:=(first | omega | (simp only [bM];omega))) only [↓aF,aG,if_neg,↓Jn.aeR B s n k d h1 h2 h3 ⟨hk,hd,hl⟩];rfl
theorem Xk {lg:List Int×(Int×Int)} {k:Int} {d:List Int} (h:lg.2.2>=1048576):bZ (lg,(k,d))=some (([],(0,0)),10):=by
 obtain ⟨B,s,n⟩:=lg;unfold bZ;simp (disch:=(first | omega | (simp only [bM];omega))) only [↓aF,aG,if_pos]
theorem amb {lg:List Int×(Int×Int)} {k:Int} {d:List Int} (h:UZ lg) (hk:0<=k/\k<=255) (hd:Bytes d) (hl:d.length<=4096):jg (lg,(k,d))=some (aoD lg k d,0):=by
 obtain ⟨B,s,n⟩:=lg;obtain ⟨h1,h2,h3⟩:=h;simp only at h1 h2 h3;have he:Jn.encS n k d=(Jn.jR n k d,0):=by
  unfold Jn.encS;rw [if_neg (by omega),if_neg (by omega),if_neg (by omega)]
 have hen:=Jn.aeL n k d (by omega) hk hd;rw [he] at hen;have lB:=Jn.fB n k d;unfold jg;simp (disch:=(first | omega | (simp only [bM];omega))) only [↓aF,aG,↓MH,decide_true,hen,if_pos,if_neg,ne_eq,not_true_eq_false,decide_false,aj];rfl
end Go.Proofs.Ytkpijdndakljjaa

set_option maxHeartbeats 4000000
namespace Go.Proofs.Ytkpijdndakljjaa
open Go.RowKit
theorem Xl {β:Type} {B:List Int} {s n k:Int} {d:List Int} (h:UZ (B,(s,n))) (hk:0<=k/\k<=255) (hd:Bytes d) (hl:d.length<=4096) (f:(List Int×(Int×Int))×Int->Option β):ah (bZ ((B,(s,n)),(k,d))) f=f ((B++Jn.jR n k d,(s,n+1)),0):=by rw [ahX h hk hd hl];rfl
theorem Xm {β:Type} {B:List Int} {s n k:Int} {d:List Int} (h:n>=1048576) (f:(List Int×(Int×Int))×Int->Option β):ah (bZ ((B,(s,n)),(k,d))) f=f (([],(0,0)),10):=by rw [Xk (lg:=(B,(s,n))) h];rfl
theorem aoE {β:Type} {B:List Int} {s n k:Int} {d:List Int} (h:UZ (B,(s,n))) (hk:0<=k/\k<=255) (hd:Bytes d) (hl:d.length<=4096) (f:(List Int×(Int×Int))×Int->Option β):ah (jg ((B,(s,n)),(k,d))) f=f ((B++Jn.jR n k d,(s,n+1)),0):=by rw [amb h hk hd hl];rfl
theorem qh {β:Type} {ns:List Int} {ts:List Tx} (h:DOk ns ts) (f:List Int->Option β):ah (fH (ns,ts)) f=f (lW ns ts):=by rw [ama h];rfl
theorem ahY {β:Type} {ns:List Int} {ts:List Tx} (h:DOk ns ts) (f:List Int->Option β):ah (dw (ns,ts)) f=f (lW ns ts):=by rw [ahW h];rfl
theorem oH {α β:Type} {l:List α} (h:l.length<=1000000) (f:List α->Option β):ah (jV l) f=f l:=by
 unfold jV;rw [decide_eq_true h];rfl
theorem ajg {α β:Type} {l:List α} {p:Nat} {v:α} (h:l.length<=1000000) (hp:p<=l.length) (f:List α->Option β):ah (QS (l,(((p:Nat):Int),[v]))) f=f (l.take p++[v]++l.drop p):=by
 unfold QS;simp only [aO];rw [if_pos h,if_pos (by omega),if_pos (show [v].length=1 from rfl),Int.toNat_natCast];rfl
theorem aeZ {α β:Type} {l:List α} {p:Nat} {j:Int} (h:l.length<=1000000) (hp:p<l.length) (hj:j=((p:Nat):Int)+1) (f:List α->Option β):ah (NQ (l,(((p:Nat):Int),j))) f=f (l.take p++l.drop (p+1)):=by
 unfold NQ;simp only [aO];rw [if_pos h,if_pos (by omega),if_pos hj,Int.toNat_natCast];rfl
theorem Zu {β:Type} (t:Int) (a b c:Tx) (f:BL->Option β):ah (oq (t,(a,(b,c)))) f=f (a,(b,(c,(t,(-1,(t,(0,(0,(0,false))))))))):=rfl
theorem sO {β:Type} (g:LG) (c:Tx) (hl:g.2.2.2.1.length<=1000000) (hs:Srt g.2.2.2.1) (f:Int×Bool->Option β):ah (iY (g,c)) f=f (((gZ c g.2.2.2.1:Nat):Int),tf (Di c g.2.2.2.1)):=by rw [al9 g c hl hs];rfl
theorem ae0 {β:Type} (g:LG) (f:Bool->Option β):ah (lJ g) f=f (decide (g.2.2.1>=1048576)):=by rw [aoz];rfl
def Tm (g:LG) (n:Int):Prop:=VL g/\g.2.2.2.2.2<=n/\n<=1099511627776
def zG:LG:=([],(0,(0,([],(0,0)))))
def bgn (b:BL):BL:=(b.1,(b.2.1,(b.2.2.1,(b.2.2.2.1,(-1,(b.2.2.2.1,(0,(0,(0,false)))))))))
def Ai (l:List BL) (b:BL):List BL:=l.take (gZ b.1 l)++[b]++l.drop (gZ b.1 l)
def BA (g:LG) (b:BL):Prop:=Tm g b.2.2.2.1/\(1<=b.1.length/\b.1.length<=200/\b.2.1.length<=200/\b.2.2.1.length<=200)
def dB (b:BL):List Int:=lW [b.2.2.2.1] [b.1,b.2.1,b.2.2.1]
open Classical in
noncomputable def Ro (g:LG) (b:BL):LG×Int :=
 if BA g b then (if Di b.1 g.2.2.2.1 then (zG,7) else if opn g.2.2.2.1>=256\/g.2.2.1>=1048576 then (zG,10) else
  ((g.1++Jn.jR g.2.2.1 1 (dB b),(g.2.1,(g.2.2.1+1,(Ai g.2.2.2.1 (bgn b),(g.2.2.2.2.1,b.2.2.2.1))))),0)) else (zG,2)
theorem VL.lg {g:LG} (h:VL g) (hB:g.1.length<=900000) (hc:g.2.2.1<1048576):UZ (g.1,(g.2.1,g.2.2.1)):=⟨hB,⟨h.1.1,h.1.2.1⟩,⟨h.1.2.2.1,hc⟩⟩
theorem aoF {g:LG} {b:BL} (h:BA g b):DOk [b.2.2.2.1] [b.1,b.2.1,b.2.2.1]/\(dB b).length<=4096:=by
 obtain ⟨⟨hv,h1,h2⟩,h3⟩:=h;have h0:=hv.2.1;refine ⟨⟨⟨by simp,fun n hn => ?_⟩,by simp,fun t ht => ?_⟩,?_⟩
 ·rw [List.mem_singleton] at hn;subst hn;omega
 ·simp only [List.mem_cons,List.not_mem_nil,or_false] at ht;rcases ht with rfl | rfl | rfl<;>omega
 ·rw [dB,iG];simp only [List.flatMap_cons,List.flatMap_nil,List.length_append,uZ,List.length_cons,List.length_nil];omega
theorem Zv (g:LG) (b:BL) (hl:g.2.2.2.1.length<=1000000) (hB:g.1.length<=900000):mD (g,b)=some (Ro g b):=by
 have ho:=sK g.2.2.2.1;rw [aow];unfold Ro;by_cases h:BA g b
 ·rw [if_pos h];have hd:=aoF h;obtain ⟨⟨hv,t1,t2⟩,l1,l2,l3,l4⟩:=h;have hs:=hv.srt;have hp:=wJ b.1 g.2.2.2.1;by_cases hf:Di b.1 g.2.2.2.1
  ·rw [if_pos hf];simp (disch:=(first | omega | (simp only [bM];omega))) only [↓aF,aG,↓(nK g hl).b,dM hv,↓jB,if_pos,if_neg,↓sO g b.1 hl hs,dM hf];rfl
  ·rw [if_neg hf];by_cases hfull:opn g.2.2.2.1>=256\/g.2.2.1>=1048576
   ·rw [if_pos hfull];by_cases ho6:opn g.2.2.2.1>=256
    ·simp (disch:=(first | omega | (simp only [bM];omega))) only [↓aF,aG,↓(nK g hl).b,dM hv,↓jB,if_pos,if_neg,↓sO g b.1 hl hs,jL hf,↓Rk _ hl];rfl
    ·have hc:g.2.2.1>=1048576:=by omega
     simp (disch:=(first | omega | (simp only [bM];omega))) only [↓aF,aG,↓(nK g hl).b,dM hv,↓jB,if_pos,if_neg,↓sO g b.1 hl hs,jL hf,↓Rk _ hl,↓qh hd.1,↓Xm hc];rfl
   ·rw [if_neg hfull];have hlg:=hv.lg hB (by omega);simp (disch:=(first | omega | (simp only [bM];omega))) only [↓aF,aG,↓(nK g hl).b,dM hv,↓jB,if_pos,if_neg,↓sO g b.1 hl hs,jL hf,↓Rk _ hl,↓qh hd.1,↓Xl hlg (show (0:Int)<=1/\(1:Int)<=255 by omega) (iQ _ _) hd.2,↓oH hl,↓Zu,↓ajg hl (show gZ b.1 g.2.2.2.1<=g.2.2.2.1.length by omega),decide_true,Bool.and_true,Bool.true_and];rfl
 ·rw [if_neg h];by_cases hv:VL g
  ·have h0:=hv.2.1;by_cases h1:g.2.2.2.2.2<=b.2.2.2.1/\b.2.2.2.1<=1099511627776
   ·by_cases h2:1<=b.1.length/\b.1.length<=200
    ·by_cases h3:b.2.1.length<=200
     ·by_cases h4:b.2.2.1.length<=200
      ·exact (h ⟨⟨hv,h1⟩,h2.1,h2.2,h3,h4⟩).elim
      ·simp (disch:=(first | omega | (simp only [bM];omega))) only [↓aF,aG,↓(nK g hl).b,dM hv,↓jB,if_pos,if_neg];rfl
     ·simp (disch:=(first | omega | (simp only [bM];omega))) only [↓aF,aG,↓(nK g hl).b,dM hv,↓jB,if_pos,if_neg];rfl
    ·simp (disch:=(first | omega | (simp only [bM];omega))) only [↓aF,aG,↓(nK g hl).b,dM hv,↓jB,if_pos,if_neg];rfl
   ·simp (disch:=(first | omega | (simp only [bM];omega))) only [↓aF,aG,↓(nK g hl).b,dM hv,↓jB,if_neg,h1,decide_false];rfl
  ·simp only [↓aF,aG,↓(nK g hl).b,jL hv];rfl
theorem jr {l r:List BL} {i:Nat} (h:i<l.length):(l++r).getD i b0=l.getD i b0:=by
 rw [List.getD_eq_getElem?_getD,List.getD_eq_getElem?_getD,List.getElem?_append_left h]
def atG (g:LG) (bs:List BL) (last t:Int):LG:=(g.1,(g.2.1,(g.2.2.1,(bs,(last,dK g.2.2.2.2.2 t)))))
def tch (k t:Int) (x:BL):BL:=(x.1,(x.2.1,(x.2.2.1,(x.2.2.2.1,(if k=2 then t else x.2.2.2.2.1,(t,x.2.2.2.2.2.2))))))
theorem amc {β:Type} {g:LG} {a:AC} {bs:List BL} {last t k:Int} {d:List Int} (he:jh (g,a)=some (atG g bs last t,true)) (hr:xE a=some (k,d)) (hlg:UZ (g.1,(g.2.1,g.2.2.1))) (hk:0<=k/\k<=255) (hd:Bytes d) (hl:d.length<=4096) (f:LG->Option β) :
 ah (lK (g,a)) f=f (g.1++Jn.jR g.2.2.1 k d,(g.2.1,(g.2.2.1+1,(bs,(last,dK g.2.2.2.2.2 t))))):=by
 rw [aoB,he,hr];unfold atG;simp only [↓aF,aG,↓aoE hlg hk hd hl]
theorem BA.len {g:LG} {b:BL} (h:BA g b):b.1≠[]:=fun e=>by have:=h.2.1;rw [e] at this;simp at this
open Classical in
noncomputable def Gv (g:LG) (k:Int) (c:Tx) (t:Int):LG×Int :=
 if Tm g t then (if Di c g.2.2.2.1 then (if k=2/\(g.2.2.2.1.getD (gZ c g.2.2.2.1) b0).2.2.2.2.1 ≠ -1 then (zG,9) else if g.2.2.1>=1048576 then (zG,10) else
  ((g.1++Jn.jR g.2.2.1 k (lW [t] [c]),(g.2.1,(g.2.2.1+1,(g.2.2.2.1.set (gZ c g.2.2.2.1) (tch k t (g.2.2.2.1.getD (gZ c g.2.2.2.1) b0)),(g.2.2.2.2.1,t))))),0)) else (zG,8)) else (zG,2)
theorem VL.at {g:LG} (h:VL g) {i:Nat} (hi:i<g.2.2.2.1.length):BK g.2.2.2.2.2 (g.2.2.2.1.getD i b0):=(h.2.2.2.2 i hi).1
theorem U0 {β:Type} {l:List BL} {p:Nat} {A:BL} (h:p<l.length) (f:BL->Option β):ah (List.set l p A)[p]? f=f A:=by
 rw [List.getElem?_set_self h];rfl
theorem aqb {g:LG} {t:Int} {c:Tx} (h:Tm g t) (hc:c.length<=200):DOk [t] [c]/\(lW [t] [c]).length<=4096:=by
 have h0:=h.1.2.1;have h1:=h.2;refine ⟨⟨⟨by simp,fun n hn => ?_⟩,by simp,fun t ht => ?_⟩,?_⟩
 ·rw [List.mem_singleton] at hn;subst hn;omega
 ·rw [List.mem_singleton] at ht;subst ht;omega
 ·rw [iG];simp only [List.flatMap_cons,List.flatMap_nil,List.length_append,uZ,List.length_cons,List.length_nil];omega
theorem Zw (g:LG) (k:Int) (c:Tx) (t:Int) (hk:k=2\/k=3) (hl:g.2.2.2.1.length<=1000000) (hB:g.1.length<=900000):kQ (g,(k,(c,t)))=some (Gv g k c t):=by
 have ho:=sK g.2.2.2.1;rw [to_eq];unfold Gv;by_cases htm:Tm g t
 ·rw [if_pos htm];have hv:=htm.1;have ht:=htm.2;have hs:=hv.srt;by_cases hf:Di c g.2.2.2.1
  ·rw [if_pos hf];have hlt:gZ c g.2.2.2.1<g.2.2.2.1.length:=by have:=hf.1;omega
   have hb:=hv.at hlt;have hxc:=hf.2;obtain ⟨x,hx,hxb⟩:=get_at b0 hlt;rw [hx] at hb hxc ⊢;rw [Int.toNat_natCast] at hxb;have hcl:c.length<=200:=by rw [<-hxc];exact hb.1.2.1
   have hd:=aqb htm hcl;by_cases ha:k=2/\x.2.2.2.2.1 ≠ -1
   ·rw [if_pos ha];obtain ⟨rfl,ha⟩:=ha;simp (disch:=(first | omega | (simp only [bM];omega))) only [↓aF,aG,↓(nK g hl).b,dM hv,↓jB,if_pos,if_neg,↓sO g c hl hs,dM hf,Int.toNat_natCast,↓hxb];rfl
   ·rw [if_neg ha];by_cases hc:g.2.2.1>=1048576
    ·rw [if_pos hc];rcases hk with rfl | rfl
     ·have ha':¬x.2.2.2.2.1 ≠ -1:=fun h=>ha ⟨rfl,h⟩;simp (disch:=(first | omega | (simp only [bM];omega))) only [↓aF,aG,↓(nK g hl).b,dM hv,↓jB,if_pos,if_neg,↓sO g c hl hs,dM hf,Int.toNat_natCast,↓hxb,↓qh hd.1,↓Xm hc];rfl
     ·simp (disch:=(first | omega | (simp only [bM];omega))) only [↓aF,aG,↓(nK g hl).b,dM hv,↓jB,if_pos,if_neg,↓sO g c hl hs,dM hf,Int.toNat_natCast,↓hxb,↓qh hd.1,↓Xm hc];rfl
    ·rw [if_neg hc];have hlg:=hv.lg hB (by omega);rcases hk with rfl | rfl
     ·have ha':¬x.2.2.2.2.1 ≠ -1:=fun h=>ha ⟨rfl,h⟩;simp (disch:=first | omega | (simp only [bM];omega)) only [↓aF,aG,↓(nK g hl).b,dM hv,↓jB,if_pos,if_neg,↓sO g c hl hs,dM hf,Int.toNat_natCast,↓hxb,↓qh hd.1,↓Xl hlg (show (0:Int)<=2/\(2:Int)<=255 by omega) (iQ _ _) hd.2,↓oH hl,↓U0 hlt,List.set_set];rw [List.take_of_length_le (by simp)];rfl
     ·simp (disch:=first | omega | (simp only [bM];omega)) only [↓aF,aG,↓(nK g hl).b,dM hv,↓jB,if_pos,if_neg,↓sO g c hl hs,dM hf,Int.toNat_natCast,↓hxb,↓qh hd.1,↓Xl hlg (show (0:Int)<=3/\(3:Int)<=255 by omega) (iQ _ _) hd.2,↓oH hl,↓U0 hlt,List.set_set];rw [List.take_of_length_le (by simp)];rfl
  ·rw [if_neg hf];simp (disch:=(first | omega | (simp only [bM];omega))) only [↓aF,aG,↓(nK g hl).b,dM hv,↓jB,if_pos,if_neg,↓sO g c hl hs,jL hf];rfl
 ·rw [if_neg htm];by_cases hv:VL g
  ·have h1:¬(g.2.2.2.2.2<=t/\t<=1099511627776):=fun h=>htm ⟨hv,h⟩;simp (disch:=(first | omega | (simp only [bM];omega))) only [↓aF,aG,↓(nK g hl).b,dM hv,↓jB,if_neg,h1,decide_false];rfl
  ·simp only [↓aF,aG,↓(nK g hl).b,jL hv];rfl
namespace Rt
theorem aoG {r:Ra} {f a s:Int} (h:RV r) (hf:0<=f/\f<=3600) (ha:0<=a/\a<=281474976710656) (hs:0<=s/\s<=1000000):0<=CV r f a s/\CV r f a s<=1000000000*(s+1):=by
 have hfi:=h.1.2.2.1;have hst:=h.1.2.2.2;have hn:=Zf (f:=f) (fi:=r.2.2.1) (s:=s) hst.1;have hle:=Zg (st:=r.2.2.2.1) hst.1 hf.1 hfi.1 hs.1;unfold CV;split
 ·omega
 ·have:=Zi h.2.2 h.1.2.1 (n:=(PN f r.2.2.1 r.2.2.2.1 s).toNat) (mo:=MO a f r.2.2.1 r.2.2.2.1) (fun k hk=>by have:=Zj ha hf hfi hst (k:=k) (by omega);omega);omega
theorem ahZ (l:List Ra) (f:Int) (num:List UInt8) (a b:Int):∃c e,bP ((l,f),(num,(a,b)))=some (c,e)/\gI ((l,f),(num,(a,b)))=some (c,e)/\(0<=c/\c<=2000000000000000):=by
 obtain ⟨⟨c,e⟩,h1,h2⟩:=abv l f num a b;refine ⟨c,e,h1,h2,?_⟩;have z:∀q:Int,bP ((l,f),(num,(a,b)))=some (0,q)->0<=c/\c<=2000000000000000:=fun q hq=>by
  rw [h1] at hq;cases hq;omega
 by_cases hv:TV l f
 ·by_cases hs:Spn a b
  ·by_cases hq:SE a b<=1000000
   ·obtain ⟨r,e1,e2,k1,_⟩:=Gt l f num;rcases k1 hv with ⟨rfl,_⟩ | ⟨i,hi,rfl,_⟩
    ·have w1:0<=a/\a<=281474976710656:=⟨hs.1,Int.le_trans hs.2.1 hs.2.2⟩
     have w2:a<=b/\b<=281474976710656:=hs.2;refine z 8 ?_;unfold bP;simp (disch:=omega) only [↓aF,aG,jA hv,iy,w1,w2,and_self,decide_true,qN,if_neg,e1]
    ·have w1:0<=a/\a<=281474976710656:=⟨hs.1,Int.le_trans hs.2.1 hs.2.2⟩
     have hp:=Q5 hv hs hq hi e1;rw [h1] at hp;have hb:=aoG (hv.2 i hi).1 hv.1.2 w1 ⟨(LY a b).1,hq⟩;simp only [Option.some.injEq,Prod.mk.injEq] at hp;rw [hp.1];omega
   ·have w1:0<=a/\a<=281474976710656:=⟨hs.1,Int.le_trans hs.2.1 hs.2.2⟩
    have w2:a<=b/\b<=281474976710656:=hs.2;refine z 4 ?_;unfold bP;simp (disch:=omega) only [↓aF,aG,jA hv,iy,w1,w2,and_self,decide_true,qN,if_pos]
  ·refine z 3 ?_;unfold bP;by_cases w1:0<=a/\a<=281474976710656
   ·have w2:¬(a<=b/\b<=281474976710656):=fun k=>hs ⟨w1.1,k⟩;simp (disch:=omega) only [↓aF,aG,jA hv,iy,w1,w2,and_self,decide_true,decide_false]
   ·simp (disch:=omega) only [↓aF,aG,jA hv,iy,w1,decide_false]
 ·refine z 2 ?_;unfold bP;simp only [↓aF,aG,Af hv]
end Rt
noncomputable def Rq (rs:List Ra) (fr:Int) (num:Tx) (a b:Int):Int:=match bP ((rs,fr),(num,(a,b))) with | some (c,e)=>if e=0 then c else 0 | none=>0
theorem Jg (rs:List Ra) (fr:Int) (num:Tx) (a b:Int):∃c e,bP ((rs,fr),(num,(a,b)))=some (c,e)/\gI ((rs,fr),(num,(a,b)))=some (c,e)/\Rq rs fr num a b=(if e=0 then c else 0)/\(0<=Rq rs fr num a b/\Rq rs fr num a b<=2000000000000000):=by
 obtain ⟨c,e,h1,h2,h3⟩:=Rt.ahZ rs fr num a b;have h4:Rq rs fr num a b=(if e=0 then c else 0):=by unfold Rq;rw [h1]
 refine ⟨c,e,h1,h2,h4,?_⟩;rw [h4];split<;>omega
theorem ae1 {l:List BL} (hs:Srt l) {p:Nat} (hp:p<opn l):gZ (l.getD p b0).1 l=p/\Di (l.getD p b0).1 l:=by
 have h1:=Je (c:=(l.getD p b0).1) hs hp;have h2:=wJ (l.getD p b0).1 l;rw [Xh] at h1;have h3:gZ (l.getD p b0).1 l=p:=by
  by_cases h4:gZ (l.getD p b0).1 l<p
  ·have h5:=(Je (c:=(l.getD p b0).1) hs (show gZ (l.getD p b0).1 l<opn l by omega)).1 (hs _ _ h4 hp);omega
  ·have h5:¬p<gZ (l.getD p b0).1 l:=fun h=>by have:=h1.2 h;cases this
   omega
 exact ⟨h3,by omega,by rw [h3]⟩
def iE (l:List BL) (p:Nat):List BL:=l.take p++l.drop (p+1)
theorem Ru {l:List BL} {p:Nat} (h:p<l.length):(iE l p).length+1=l.length:=by
 rw [iE,List.length_append,List.length_take,List.length_drop];omega
def U1 (x:BL) (t n s co:Int):BL:=(x.1,(x.2.1,(x.2.2.1,(x.2.2.2.1,(x.2.2.2.2.1,(t,(n,(s,(co,x.2.2.2.2.2.2.2.2.2)))))))))
def Opb (x:BL):Prop:=(x.2.2.2.2.2.2.1=0/\x.2.2.2.2.2.2.2.1=0/\x.2.2.2.2.2.2.2.2.1=0)/\(x.2.2.2.2.1 = -1\/0<=x.2.2.2.2.1)/\x.1.length<=200
noncomputable def nmF (rs:List Ra) (fr:Int) (last:Int) (x:BL) (t:Int):Int×(Int×Int):=if x.2.2.2.2.1 ≠ -1 then (last+1,(Rt.SE x.2.2.2.2.1 t,Rq rs fr x.2.2.1 x.2.2.2.2.1 t)) else (0,(0,0))
noncomputable def dE (rs:List Ra) (fr:Int) (last:Int) (x:BL) (t:Int):List Int:=lW [t,(nmF rs fr last x t).1,(nmF rs fr last x t).2.1,(nmF rs fr last x t).2.2] [x.1]
noncomputable def Zx (rs:List Ra) (fr:Int) (l:List BL) (last:Int) (p:Nat) (t:Int):List BL:=if (l.getD p b0).2.2.2.2.1 ≠ -1 then iE l p++[U1 (l.getD p b0) t (last+1) (Rt.SE (l.getD p b0).2.2.2.2.1 t) (Rq rs fr (l.getD p b0).2.2.1 (l.getD p b0).2.2.2.2.1 t)] else iE l p
def laF (l:List BL) (last:Int) (p:Nat):Int:=if (l.getD p b0).2.2.2.2.1 ≠ -1 then last+1 else last
open Classical in
noncomputable def sS (rs:List Ra) (fr:Int) (g:LG) (p:Nat) (t now:Int):LG×Int :=
 if ((g.2.2.2.1.getD p b0).2.2.2.2.1 ≠ -1/\g.2.2.2.2.1>=1048576)\/g.2.2.1>=1048576 then (zG,10) else
  ((g.1++Jn.jR g.2.2.1 4 (dE rs fr g.2.2.2.2.1 (g.2.2.2.1.getD p b0) t),(g.2.1,(g.2.2.1+1,(Zx rs fr g.2.2.2.1 g.2.2.2.2.1 p t,(laF g.2.2.2.1 g.2.2.2.2.1 p,now))))),0)
theorem aoH (rs:List Ra) (fr:Int) {last:Int} {x:BL} {t:Int} (h5:0<=last/\last<=1048576) (hx:Opb x) (ht:0<=t/\t<=1099511627776):DOk [t,(nmF rs fr last x t).1,(nmF rs fr last x t).2.1,(nmF rs fr last x t).2.2] [x.1]/\(dE rs fr last x t).length<=4096:=by
 obtain ⟨c,e,_,_,_,h6⟩:=Jg rs fr x.2.2.1 x.2.2.2.2.1 t;have h7:=Rt.LY x.2.2.2.2.1 t;have h8:=hx.2.2;refine ⟨⟨⟨by simp,fun n hn => ?_⟩,by simp,fun t ht => ?_⟩,?_⟩
 ·unfold nmF at hn;simp only [List.mem_cons,List.not_mem_nil,or_false] at hn;split at hn<;>simp only at hn<;>omega
 ·rw [List.mem_singleton] at ht;subst ht;omega
 ·rw [dE,iG];simp only [List.flatMap_cons,List.flatMap_nil,List.length_append,uZ,List.length_cons,List.length_nil];omega
theorem aji (rs:List Ra) (fr:Int) (g:LG) {p:Nat} (t:Int) (hp:p<g.2.2.2.1.length) (hl:g.2.2.2.1.length<=1000000) (hB:g.1.length<=900000) (h1:0<=g.2.1/\g.2.1<=(g.1.length:Int)) (h2:0<=g.2.2.1) (h5:0<=g.2.2.2.2.1/\g.2.2.2.2.1<=1048576) (hx:Opb (g.2.2.2.1.getD p b0)) (ht:0<=t/\t<=1099511627776) :
 jf (g,((rs,fr),(((p:Nat):Int),t)))=some (sS rs fr g p t g.2.2.2.2.2):=by
 rw [al4];unfold sS;have hd:=aoH rs fr h5 hx ht;have hrl:=Ru hp;unfold Zx laF;obtain ⟨x,hxx,hxb⟩:=get_at b0 hp;rw [hxx] at hx hd ⊢;rw [Int.toNat_natCast] at hxb;obtain ⟨c,e,c1,c2,c3,c4⟩:=Jg rs fr x.2.2.1 x.2.2.2.2.1 t;have hC:∀ {β:Type} (f:Int×Int->Option β),ah (bP ((rs,fr),(x.2.2.1,(x.2.2.2.2.1,t)))) f=f (c,e):=fun f=>by rw [c1];rfl
 have hD:=fun {β:Type} (f:List BL->Option β)=>aeZ (l:=g.2.2.2.1) (p:=p) (j:=((p:Nat):Int)+1) hl hp rfl f;have hrst:g.2.2.2.1.take p++g.2.2.2.1.drop (p+1)=iE g.2.2.2.1 p:=rfl;have hlast:IntKind.wrap .i64 (g.2.2.2.2.1+(1:Int))=g.2.2.2.2.1+1:=aj (by omega);have hpw:IntKind.wrap .i64 (((p:Nat):Int)+(1:Int))=((p:Nat):Int)+1:=aj (by omega);unfold dE at hd;unfold dE;by_cases ha:x.2.2.2.2.1 ≠ -1
 ·have hnm:nmF rs fr g.2.2.2.2.1 x t=(g.2.2.2.2.1+1,(Rt.SE x.2.2.2.2.1 t,Rq rs fr x.2.2.1 x.2.2.2.2.1 t)):=if_pos ha;rw [hnm] at hd ⊢;simp only at hd;by_cases hq:g.2.2.2.2.1>=1048576
  ·rw [if_pos (.inl ⟨ha,hq⟩)];simp (disch:=(first | omega | (simp only [bM];omega))) only [↓aF,aG,if_pos,Int.toNat_natCast,↓hxb,↓oH hl,hpw,↓hD];rfl
  ·by_cases hc:g.2.2.1>=1048576
   ·rw [if_pos (.inr hc)];by_cases he:e=0
    ·rw [if_pos he] at c3;rw [c3] at hd;simp (disch:=(first | omega | (simp only [bM];omega))) only [↓aF,aG,if_pos,if_neg,Int.toNat_natCast,↓hxb,↓oH hl,hpw,↓hD,hrst,hlast,↓BN,↓hC,he,↓qh hd.1,↓Xm hc];rfl
    ·rw [if_neg he] at c3;rw [c3] at hd;have hz:=hx.1.2.2;simp (disch:=(first | omega | (simp only [bM];omega))) only [↓aF,aG,if_pos,if_neg,hz,Int.toNat_natCast,↓hxb,↓oH hl,hpw,↓hD,hrst,hlast,↓BN,↓hC,he,↓qh hd.1,↓Xm hc];rfl
   ·rw [if_neg (by omega),if_pos ha,if_pos ha];have hlg:UZ (g.1,(g.2.1,g.2.2.1)):=⟨hB,h1,h2,show g.2.2.1<1048576 by omega⟩
    by_cases he:e=0
    ·rw [if_pos he] at c3;rw [c3] at hd ⊢;simp (disch:=(first | omega | (simp only [bM];omega))) only [↓aF,aG,if_pos,if_neg,Int.toNat_natCast,↓hxb,↓oH hl,hpw,↓hD,hrst,hlast,↓BN,↓hC,he,↓qh hd.1,↓Xl hlg (show (0:Int)<=4/\(4:Int)<=255 by omega) (iQ _ _) hd.2];rfl
    ·rw [if_neg he] at c3;rw [c3] at hd ⊢;have hz:=hx.1.2.2;simp (disch:=(first | omega | (simp only [bM];omega))) only [↓aF,aG,if_pos,if_neg,hz,Int.toNat_natCast,↓hxb,↓oH hl,hpw,↓hD,hrst,hlast,↓BN,↓hC,he,↓qh hd.1,↓Xl hlg (show (0:Int)<=4/\(4:Int)<=255 by omega) (iQ _ _) hd.2];rfl
 ·have hnm:nmF rs fr g.2.2.2.2.1 x t=(0,(0,0)):=if_neg ha;rw [hnm] at hd ⊢;simp only at hd;have hz:=hx.1;by_cases hc:g.2.2.1>=1048576
  ·rw [if_pos (.inr hc)];simp (disch:=(first | omega | (simp only [bM];omega))) only [↓aF,aG,if_pos,if_neg,Int.toNat_natCast,↓hxb,↓oH hl,hpw,↓hD,hrst,hz.1,hz.2.1,hz.2.2,↓qh hd.1,↓Xm hc];rfl
  ·rw [if_neg (by omega),if_neg ha,if_neg ha];have hlg:UZ (g.1,(g.2.1,g.2.2.1)):=⟨hB,h1,h2,show g.2.2.1<1048576 by omega⟩
   simp (disch:=(first | omega | (simp only [bM];omega))) only [↓aF,aG,if_pos,if_neg,Int.toNat_natCast,↓hxb,↓oH hl,hpw,↓hD,hrst,hz.1,hz.2.1,hz.2.2,↓qh hd.1,↓Xl hlg (show (0:Int)<=4/\(4:Int)<=255 by omega) (iQ _ _) hd.2]
end Go.Proofs.Ytkpijdndakljjaa
