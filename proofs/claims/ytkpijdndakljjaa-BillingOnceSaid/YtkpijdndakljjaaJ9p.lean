import Derived.Test.YtkpijdndakljjaaG10p
import Derived.Test.YtkpijdndakljjaaQ1p
set_option linter.unusedSimpArgs false
set_option linter.unusedVariables false
noncomputable section
namespace Go.Proofs.Ytkpijdndakljjaa.Jn
open Go.RowKit
theorem GN (b:List Int) (s c:Int) (hb:b.length<=900000) (hs:0<=s/\s<=(b.length:Int)) (hc:0<=c/\c<=1048576):kJ (b,(s,c))=some (b,((b.length:Int),c)):=by
 unfold kJ;refine iU (Jp b s c) ?_;rw [decide_eq_true (by omega)];simp only [aB,aK,aX,bC,aN,bD,bF,aO,List.take_length,Nat.le_refl,if_true,Nat.mul_one,Int.mul_one,cond_true,cond_false,Bool.not_true];refine iU (ET b [] (by omega) (by simp)) ?_;rw [List.append_nil]
theorem aio (b:List Int) (s c k:Int) (hb:b.length<=900000) (hs:0<=s/\s<=(b.length:Int)) (hc:0<=c/\c<=1048576):∃n:Nat,s<=(n:Int)/\n<=b.length/\mG ((b,(s,c)),k)=some (b.take n):=by
 obtain ⟨n,hn⟩:∃n:Nat,(n:Int)=xX (dM s k) (b.length:Int):=⟨(xX (dM s k) (b.length:Int)).toNat,by unfold xX dM;split<;>split<;>omega⟩
 have h1:s<=(n:Int)/\n<=b.length:=by
  unfold xX dM at hn;constructor
  ·split at hn<;>split at hn<;>omega
  ·split at hn<;>split at hn<;>omega
 refine ⟨n,h1.1,h1.2,?_⟩;unfold mG;refine iU (Jp b s c) ?_;rw [decide_eq_true (by omega),<-hn];simp only [aB,aK,aX,bC,aN,bD,bF,aO,List.take_length,Nat.le_refl,if_true,Nat.mul_one,Int.mul_one,cond_true,cond_false,Bool.not_true,Jl,Int.toNat_natCast];rw [if_pos (by omega)];refine iU (ET _ [] (by rw [List.length_take];omega) (by simp)) ?_;rw [List.append_nil]
theorem amC {l:fV} {c j:Nat} (hj:j<=l.length) (h:sO (l.take j)<=c):j<=cnt l c:=by
 rcases Nat.lt_or_ge (cnt l c) j with hlt | hge
 ·have:=(ML l c).2 (by omega);have:=PY l (show cnt l c+1<=j by omega);omega
 ·exact hge
theorem U6 (l:fV) (j:Nat):(iO 0 l).take (sO (l.take j))=iO 0 (l.take j):=by
 conv=>lhs;rw [<-List.take_append_drop j l]
 rw [wP,List.take_append_of_le_length (by rw [rM,List.take_append_drop];exact Nat.le_refl _),List.take_of_length_le (by rw [rM,List.take_append_drop];exact Nat.le_refl _)]
end Go.Proofs.Ytkpijdndakljjaa.Jn

set_option maxRecDepth 100000
namespace Go.Proofs.Ytkpijdndakljjaa
open Go.RowKit
abbrev Tx:=List UInt8
abbrev BL:=Tx×(Tx×(Tx×(Int×(Int×(Int×(Int×(Int×(Int×Bool))))))))
abbrev LG:=List Int×(Int×(Int×(List BL×(Int×Int))))
abbrev AC:=Int×(Int×(Int×(Int×(Int×(Tx×(Tx×Tx))))))
def b0:BL:=([],([],([],(0,(0,(0,(0,(0,(0,false)))))))))
def ocB {δ:Type} (a1:List BL):(Int)->Option ((Int) ⊕ (Int ⊕ δ)) :=
(fun v2 =>
 bif (decide (v2<(a1.length:Int))) then
 bif (decide ((0<=v2)/\(v2<(a1.length:Int)))) then
 ah a1[v2.toNat]? fun x3 =>
 bif (decide (x3.2.2.2.2.2.2.1=0)) then
 some (Sum.inl (IntKind.wrap .i64 (v2+(1:Int))))
 else
 au (some (Sum.inl v2))
 else none
 else
 au (some (Sum.inl v2)))
theorem aoU (a1:List BL):eF a1 =
 aA (ay (ocB a1) (0:Int)) fun v5 =>
 some v5:=rfl
theorem or_eq (g:LG):dQ g =
 aA (ay (ocB g.2.2.2.1) (0:Int)) fun v10 =>
 some v10:=rfl
def vaB (g:LG) (x10:Int):(Int×Int)->Option ((Int×Int) ⊕ (Unit ⊕ Bool)) :=
(fun (v11,v12) =>
 bif (decide (v11<(g.2.2.2.1.length:Int))) then
 bif (decide ((0<=v11)/\(v11<(g.2.2.2.1.length:Int)))) then
 ah g.2.2.2.1[v11.toNat]? fun x13 =>
 ah (kK (x13,g.2.2.2.2.2)) fun x14 =>
 bif (!x14) then
 au (au (some false))
 else
 bif (decide (v11<x10)) then
 bif (decide (v11 > 0)) then
 ah (some (IntKind.wrap .i64 (v11-(1:Int)))) fun x15 =>
 bif (decide ((0<=x15)/\(x15<(g.2.2.2.1.length:Int)))) then
 ah g.2.2.2.1[x15.toNat]? fun x16 =>
 bif (!(Go.Op.bytesLess x16.1 x13.1)) then
 au (au (some false))
 else
 some (Sum.inl ((IntKind.wrap .i64 (v11+(1:Int))),v12))
 else none
 else
 some (Sum.inl ((IntKind.wrap .i64 (v11+(1:Int))),v12))
 else
 ah (aZ (x13.2.2.2.2.2.2.1,((IntKind.wrap .i64 (v12+(1:Int))),g.2.2.2.2.1))) fun x20 =>
 bif (!x20) then
 au (au (some false))
 else
 some (Sum.inl ((IntKind.wrap .i64 (v11+(1:Int))),x13.2.2.2.2.2.2.1))
 else none
 else
 au (some (Sum.inl ())))
theorem aoV (g:LG):dP g =
 aA (ah (gB (g.1,(g.2.1,g.2.2.1))) fun x7 =>
 bif (!x7) then
 au (some false)
 else
 ah (aZ (g.2.2.2.2.2,((0:Int),(1099511627776:Int)))) fun x8 =>
 bif (!x8) then
 au (some false)
 else
 ah (aZ (g.2.2.2.2.1,((0:Int),(1048576:Int)))) fun x9 =>
 bif (!x9) then
 au (some false)
 else
 some (Sum.inl ())) fun _ =>
 ah (eF g.2.2.2.1) fun x10 =>
 bif (decide (x10 > 256)) then
  some false
 else
  aA (ay (vaB g x10) ((0:Int),(0:Int))) fun _ =>
  some true:=rfl
def Xk (g:LG) (x8:Int):(Int×Int)->Option ((Int×Int) ⊕ (Unit ⊕ Bool)) :=
(fun (v9,v10) =>
 bif (decide (v9<(g.2.2.2.1.length:Int))) then
 bif (decide ((0<=v9)/\(v9<(g.2.2.2.1.length:Int)))) then
 ah g.2.2.2.1[v9.toNat]? fun x11 =>
 ah (lG (x11,g.2.2.2.2.2)) fun x12 =>
 bif (!x12) then
 au (au (some false))
 else
 bif (decide (v9<x8)) then
 bif (decide (v9 > 0)) then
 ah (some (IntKind.wrap .i64 (v9-(1:Int)))) fun x13 =>
 bif (decide ((0<=x13)/\(x13<(g.2.2.2.1.length:Int)))) then
 ah g.2.2.2.1[x13.toNat]? fun x14 =>
 bif (!(Go.Op.bytesLess x14.1 x11.1)) then
 au (au (some false))
 else
 some (Sum.inl ((IntKind.wrap .i64 (v9+(1:Int))),v10))
 else none
 else
 some (Sum.inl ((IntKind.wrap .i64 (v9+(1:Int))),v10))
 else
 bif (decide (x11.2.2.2.2.2.2.1<=v10)) then
 au (au (some false))
 else
 bif (decide (x11.2.2.2.2.2.2.1 > g.2.2.2.2.1)) then
 au (au (some false))
 else
 some (Sum.inl ((IntKind.wrap .i64 (v9+(1:Int))),x11.2.2.2.2.2.2.1))
 else none
 else
 au (some (Sum.inl ())))
theorem aoW (g:LG):iF g =
 aA (ah (fD (g.1,(g.2.1,g.2.2.1))) fun x7 =>
 bif (!x7) then
 au (some false)
 else
 bif (decide (g.2.2.2.2.2<0)) then
 au (some false)
 else
 bif (decide (g.2.2.2.2.2 > 1099511627776)) then
 au (some false)
 else
 bif (decide (g.2.2.2.2.1<0)) then
 au (some false)
 else
 bif (decide (g.2.2.2.2.1 > 1048576)) then
 au (some false)
 else
 some (Sum.inl ())) fun _ =>
 ah (dQ g) fun x8 =>
 aA (ay (Xk g x8) ((0:Int),(0:Int))) fun _ =>
 some (decide (x8<=256)):=rfl
def plB {δ:Type} (a1:List BL) (a2:Tx):(Int×Int)->Option ((Int×Int) ⊕ (Int ⊕ δ)) :=
(fun (v3,v4) =>
 bif (decide (v4<v3)) then
 ah (some (Int.fdiv (IntKind.wrap .u64 (IntKind.wrap .i64 (v4+v3))) (2:Int))) fun x7 =>
 bif (decide ((0<=(IntKind.wrap .i64 x7))/\((IntKind.wrap .i64 x7)<(a1.length:Int)))) then
 ah a1[(Int.toNat (IntKind.wrap .i64 x7))]? fun x9 =>
 bif (!(!(Go.Op.bytesLess x9.1 a2))) then
 some (Sum.inl (v3,(IntKind.wrap .i64 ((IntKind.wrap .i64 x7)+(1:Int)))))
 else
 some (Sum.inl ((IntKind.wrap .i64 x7),v4))
 else none
 else
 au (some (Sum.inl v4)))
theorem aoX (a1:List BL) (a2:Tx):jc (a1,a2) =
 aA (aA (ay (plB a1 a2) ((a1.length:Int),(0:Int))) fun v11 =>
 some (Sum.inl v11)) fun v12 =>
 bif (decide (v12<(a1.length:Int))) then
  bif (decide ((0<=v12)/\(v12<(a1.length:Int)))) then
   ah a1[v12.toNat]? fun x13 =>
   some (v12,(decide (x13.1=a2)))
  else none
 else
  some (v12,false):=rfl
def d8B {δ:Type} (x5:Int):(Int×List Int)->Option ((Int×List Int) ⊕ ((Int×(List Int×Int)) ⊕ δ)) :=
(fun (v6,v7) =>
 bif (decide (v6>=0)) then
 bif (decide (0<=v6)) then
 ah (some (Int.fdiv (IntKind.wrap .u64 x5) ((2:Int) ^ (Min.min v6.toNat 64)))) fun x9 =>
 bif (decide (v7.length<=v7.length)) then
 bif (decide (((List.length ((v7.take v7.length)++((IntKind.wrap .u8 x9)::([]:List Int))))*1)<=140737488355328)) then
 ah (some ((v7.take v7.length)++((IntKind.wrap .u8 x9)::([]:List Int)))) fun x11 =>
 bif (decide (x11.length<=x11.length)) then
 some (Sum.inl ((IntKind.wrap .i64 (v6-(8:Int))),(x11.take x11.length)))
 else none
 else none
 else none
 else none
 else
 au (bif (decide (v7.length<=v7.length)) then
 some (Sum.inl (v6,((v7.take v7.length),x5)))
 else none))
def dnB {δ:Type} (a1:List Int):(Int×List Int)->Option ((Int×List Int) ⊕ (List Int ⊕ δ)) :=
(fun (v3,v4) =>
 bif (decide (v3<(a1.length:Int))) then
 aA (bif (decide ((0<=v3)/\(v3<(a1.length:Int)))) then
 ah a1[v3.toNat]? fun x5 =>
 bif (decide (v4.length<=v4.length)) then
 ay (d8B x5) ((56:Int),(v4.take v4.length))
 else none
 else none) fun (v13,(v14,v15)) =>
 bif (decide (v14.length<=v14.length)) then
 some (Sum.inl ((IntKind.wrap .i64 (v3+(1:Int))),(v14.take v14.length)))
 else none
 else
 au (bif (decide (v4.length<=v4.length)) then
 some (Sum.inl (v4.take v4.length))
 else none))
def dtB {δ:Type} (a2:List Tx):(Int×List Int)->Option ((Int×List Int) ⊕ (List Int ⊕ δ)) :=
(fun (v18,v19) =>
 bif (decide (v18<(a2.length:Int))) then
 bif (decide ((0<=v18)/\(v18<(a2.length:Int)))) then
 ah a2[v18.toNat]? fun x20 =>
 ah (some (Int.fdiv (x20.length:Int) (256:Int))) fun x21 =>
 ah (some (IntKind.wrap .u8 (x20.length:Int))) fun x23 =>
 bif (decide (v19.length<=v19.length)) then
 bif (decide (((List.length ((v19.take v19.length)++((IntKind.wrap .u8 x21)::(x23::([]:List Int)))))*1)<=140737488355328)) then
 ah (some ((v19.take v19.length)++((IntKind.wrap .u8 x21)::(x23::([]:List Int))))) fun x24 =>
 bif (decide (x24.length<=x24.length)) then
 bif (decide (((List.length ((x24.take x24.length)++(List.map (fun (x25:UInt8)=>(((UInt8.toNat x25):Nat):Int)) x20)))*1)<=140737488355328)) then
 ah (some ((x24.take x24.length)++(List.map (fun (x27:UInt8)=>(((UInt8.toNat x27):Nat):Int)) x20))) fun x26 =>
 bif (decide (x26.length<=x26.length)) then
 some (Sum.inl ((IntKind.wrap .i64 (v18+(1:Int))),(x26.take x26.length)))
 else none
 else none
 else none
 else none
 else none
 else none
 else
 au (bif (decide (v19.length<=v19.length)) then
 some (Sum.inl (v19.take v19.length))
 else none))
theorem aoY (a1:List Int) (a2:List Tx):fJ (a1,a2) =
 aA (ay (dnB a1) ((0:Int),([]:List Int))) fun v17 =>
 aA (bif (decide (v17.length<=v17.length)) then
 ay (dtB a2) ((0:Int),(v17.take v17.length))
 else none) fun v29 =>
 bif (decide (v29.length<=v29.length)) then
  some (v29.take v29.length)
 else none:=rfl
def nuB {δ:Type}  : (Int×(Int×List Int))->Option ((Int×(Int×List Int)) ⊕ (List Int ⊕ δ)) :=
(fun (v2,(v3,v4)) =>
 bif (decide (v2>=0)) then
 bif (decide ((0<=v2)/\(v2<8))) then
 ah v4[v2.toNat]? fun x7 =>
 some (Sum.inl ((IntKind.wrap .i64 (v2-(1:Int))),((IntKind.wrap .i64 (Int.tdiv v3 (256:Int))),(List.set v4 v2.toNat (IntKind.wrap .u8 (Int.tmod v3 (256:Int)))))))
 else none
 else
 au (some (Sum.inl v4)))
theorem aoZ (a1:Int):kL a1 =
 aA (ay nuB ((7:Int),(a1,(List.replicate 8 (0:Int))))) fun v10 =>
 bif (decide (8<=v10.length)) then
  some (List.take 8 v10)
 else none:=rfl
def drB {δ:Type} (a1:List Int):(Int×List Int)->Option ((Int×List Int) ⊕ (List Int ⊕ δ)) :=
(fun (v3,v4) =>
 bif (decide (v3<(a1.length:Int))) then
 bif (decide ((0<=v3)/\(v3<(a1.length:Int)))) then
 ah a1[v3.toNat]? fun x5 =>
 ah (kL x5) fun x6 =>
 bif (decide (v4.length<=v4.length)) then
 bif (decide (((List.length ((v4.take v4.length)++x6))*1)<=140737488355328)) then
 ah (some ((v4.take v4.length)++x6)) fun x7 =>
 bif (decide (x7.length<=x7.length)) then
 some (Sum.inl ((IntKind.wrap .i64 (v3+(1:Int))),(x7.take x7.length)))
 else none
 else none
 else none
 else none
 else
 au (bif (decide (v4.length<=v4.length)) then
 some (Sum.inl (v4.take v4.length))
 else none))
def trB {δ:Type} (a2:List Tx):(Int×List Int)->Option ((Int×List Int) ⊕ (List Int ⊕ δ)) :=
(fun (v10,v11) =>
 bif (decide (v10<(a2.length:Int))) then
 bif (decide ((0<=v10)/\(v10<(a2.length:Int)))) then
 ah a2[v10.toNat]? fun x12 =>
 ah (some (IntKind.wrap .i64 (Int.tdiv (x12.length:Int) (256:Int)))) fun x13 =>
 bif (decide ((0<=v10)/\(v10<(a2.length:Int)))) then
 ah a2[v10.toNat]? fun x15 =>
 ah (some (Int.tmod (x15.length:Int) (256:Int))) fun x16 =>
 bif (decide (v11.length<=v11.length)) then
 bif (decide (((List.length ((v11.take v11.length)++((IntKind.wrap .u8 x13)::((IntKind.wrap .u8 x16)::([]:List Int)))))*1)<=140737488355328)) then
 ah (some ((v11.take v11.length)++((IntKind.wrap .u8 x13)::((IntKind.wrap .u8 x16)::([]:List Int))))) fun x18 =>
 bif (decide ((0<=v10)/\(v10<(a2.length:Int)))) then
 ah a2[v10.toNat]? fun x19 =>
 bif (decide (x19.length<=140737488355328)) then
 bif (decide (x18.length<=x18.length)) then
 bif (decide (((List.length ((x18.take x18.length)++(List.map (fun (x20:UInt8)=>(((UInt8.toNat x20):Nat):Int)) x19)))*1)<=140737488355328)) then
 ah (some ((x18.take x18.length)++(List.map (fun (x22:UInt8)=>(((UInt8.toNat x22):Nat):Int)) x19))) fun x21 =>
 bif (decide (x21.length<=x21.length)) then
 some (Sum.inl ((IntKind.wrap .i64 (v10+(1:Int))),(x21.take x21.length)))
 else none
 else none
 else none
 else none
 else none
 else none
 else none
 else none
 else none
 else
 au (bif (decide (v11.length<=v11.length)) then
 some (Sum.inl (v11.take v11.length))
 else none))
theorem ao0 (a1:List Int) (a2:List Tx):cZ (a1,a2) =
 aA (ay (drB a1) ((0:Int),([]:List Int))) fun v9 =>
 aA (bif (decide (v9.length<=v9.length)) then
 ay (trB a2) ((0:Int),(v9.take v9.length))
 else none) fun v24 =>
 bif (decide (v24.length<=v24.length)) then
  some (v24.take v24.length)
 else none:=rfl
def rcB (g:LG) (a7:Int):(Int)->Option ((Int) ⊕ (Unit ⊕ Int)) :=
(fun v8 =>
 bif (decide (v8<(g.2.2.2.1.length:Int))) then
 bif (decide (a7 > 0)) then
 bif (decide ((0<=v8)/\(v8<(g.2.2.2.1.length:Int)))) then
 ah g.2.2.2.1[v8.toNat]? fun x9 =>
 bif (decide (x9.2.2.2.2.2.2.1=a7)) then
 au (au (some v8))
 else
 some (Sum.inl (IntKind.wrap .i64 (v8+(1:Int))))
 else none
 else
 some (Sum.inl (IntKind.wrap .i64 (v8+(1:Int))))
 else
 au (some (Sum.inl ())))
theorem ao2 (g:LG) (a7:Int):dK (g,a7) =
 aA (ay (rcB g a7) (0:Int)) fun _ =>
 some (-1:Int):=rfl
def nxB (g:LG):(Int)->Option ((Int) ⊕ (Unit ⊕ (BL×Bool))) :=
(fun v8 =>
 bif (decide (v8<(g.2.2.2.1.length:Int))) then
 bif (decide ((0<=v8)/\(v8<(g.2.2.2.1.length:Int)))) then
 ah g.2.2.2.1[v8.toNat]? fun x9 =>
 bif (decide (x9.2.2.2.2.2.2.1≠0)) then
 bif (!x9.2.2.2.2.2.2.2.2.2) then
 au (au (some (x9,true)))
 else
 some (Sum.inl (IntKind.wrap .i64 (v8+(1:Int))))
 else
 some (Sum.inl (IntKind.wrap .i64 (v8+(1:Int))))
 else none
 else
 au (some (Sum.inl ())))
theorem ao4 (g:LG):eY g =
 ah (dP g) fun x7 =>
 bif (!x7) then
  some ((([]:List UInt8),(([]:List UInt8),(([]:List UInt8),((0:Int),((0:Int),((0:Int),((0:Int),((0:Int),((0:Int),false))))))))),false)
 else
  bif (decide (g.2.1≠(g.1.length:Int))) then
   some ((([]:List UInt8),(([]:List UInt8),(([]:List UInt8),((0:Int),((0:Int),((0:Int),((0:Int),((0:Int),((0:Int),false))))))))),false)
  else
   aA (ay (nxB g) (0:Int)) fun _ =>
   some ((([]:List UInt8),(([]:List UInt8),(([]:List UInt8),((0:Int),((0:Int),((0:Int),((0:Int),((0:Int),((0:Int),false))))))))),false):=rfl
def nrB (g:LG):(Int)->Option ((Int) ⊕ (Unit ⊕ (BL×Bool))) :=
(fun v9 =>
 bif (decide (v9<(g.2.2.2.1.length:Int))) then
 bif (decide ((0<=v9)/\(v9<(g.2.2.2.1.length:Int)))) then
 ah g.2.2.2.1[v9.toNat]? fun x10 =>
 bif (!x10.2.2.2.2.2.2.2.2.2) then
 bif (decide ((0<=v9)/\(v9<(g.2.2.2.1.length:Int)))) then
 ah g.2.2.2.1[v9.toNat]? fun x11 =>
 au (au (some (x11,true)))
 else none
 else
 some (Sum.inl (IntKind.wrap .i64 (v9+(1:Int))))
 else none
 else
 au (some (Sum.inl ())))
theorem ao6 (g:LG):vH g =
 ah (iF g) fun x7 =>
 bif (!x7) then
  some ((([]:List UInt8),(([]:List UInt8),(([]:List UInt8),((0:Int),((0:Int),((0:Int),((0:Int),((0:Int),((0:Int),false))))))))),false)
 else
  bif (decide (g.2.1≠(g.1.length:Int))) then
   some ((([]:List UInt8),(([]:List UInt8),(([]:List UInt8),((0:Int),((0:Int),((0:Int),((0:Int),((0:Int),((0:Int),false))))))))),false)
  else
   aA (ah (dQ g) fun x8 =>
 ay (nrB g) x8) fun _ =>
   some ((([]:List UInt8),(([]:List UInt8),(([]:List UInt8),((0:Int),((0:Int),((0:Int),((0:Int),((0:Int),((0:Int),false))))))))),false):=rfl
def gvB (g:LG) (a7:Int):(Int)->Option ((Int) ⊕ (Unit ⊕ (Int ⊕ (LG×Int)))) :=
(fun v9 =>
 bif (decide (v9<(g.2.2.2.1.length:Int))) then
 bif (decide ((0<=v9)/\(v9<(g.2.2.2.1.length:Int)))) then
 ah g.2.2.2.1[v9.toNat]? fun x10 =>
 bif (decide (x10.2.2.2.2.2.2.1≠0)) then
 bif (decide (x10.2.2.2.2.2.2.1=a7)) then
 au (au (some (Sum.inl v9)))
 else
 some (Sum.inl (IntKind.wrap .i64 (v9+(1:Int))))
 else
 some (Sum.inl (IntKind.wrap .i64 (v9+(1:Int))))
 else none
 else
 au (some (Sum.inl ())))
theorem ao8 (g:LG) (a7:Int):mM (g,a7) =
 ah (dP g) fun x8 =>
 bif (!x8) then
  some ((([]:List Int),((0:Int),((0:Int),(([]:List BL),((0:Int),(0:Int)))))),(2:Int))
 else
  aA (aA (ay (gvB g a7) (0:Int)) fun _ =>
 some (Sum.inl (-1:Int))) fun v13 =>
  bif (decide (v13<0)) then
   some ((([]:List Int),((0:Int),((0:Int),(([]:List BL),((0:Int),(0:Int)))))),(8:Int))
  else
   bif (decide ((0<=v13)/\(v13<(g.2.2.2.1.length:Int)))) then
    ah g.2.2.2.1[v13.toNat]? fun x14 =>
    bif x14.2.2.2.2.2.2.2.2.2 then
     some ((([]:List Int),((0:Int),((0:Int),(([]:List BL),((0:Int),(0:Int)))))),(9:Int))
    else
     ah (fJ ((a7::([]:List Int)),([]:List (List UInt8)))) fun x15 =>
     ah (bY ((g.1,(g.2.1,g.2.2.1)),((5:Int),x15))) fun ((x17,(x18,x19)),x20) =>
     bif (decide (x20≠0)) then
      some ((([]:List Int),((0:Int),((0:Int),(([]:List BL),((0:Int),(0:Int)))))),x20)
     else
      ah (jZ g.2.2.2.1) fun x21 =>
      bif (decide ((0<=v13)/\(v13<(x21.length:Int)))) then
       ah x21[v13.toNat]? fun x22 =>
       bif (decide (x21.length<=(List.length (List.set x21 v13.toNat (x22.1,(x22.2.1,(x22.2.2.1,(x22.2.2.2.1,(x22.2.2.2.2.1,(x22.2.2.2.2.2.1,(x22.2.2.2.2.2.2.1,(x22.2.2.2.2.2.2.2.1,(x22.2.2.2.2.2.2.2.2.1,true))))))))))))) then
        some ((x17,(x18,(x19,((List.take x21.length (List.set x21 v13.toNat (x22.1,(x22.2.1,(x22.2.2.1,(x22.2.2.2.1,(x22.2.2.2.2.1,(x22.2.2.2.2.2.1,(x22.2.2.2.2.2.2.1,(x22.2.2.2.2.2.2.2.1,(x22.2.2.2.2.2.2.2.2.1,true))))))))))),(g.2.2.2.2.1,g.2.2.2.2.2))))),(0:Int))
       else none
      else none
   else none:=rfl
theorem ao9 (g:LG) (a7:Tx):jd (g,a7) =
 ah (eF g.2.2.2.1) fun x8 =>
 bif (decide ((0<=x8)/\(x8<=(g.2.2.2.1.length:Int)))) then
  ah (jc ((List.take x8.toNat g.2.2.2.1),a7)) fun (x11,x12) =>
  some (x11,x12)
 else none:=rfl
theorem apa (g:LG) (b:BL):mJ (g,b) =
 aA (ah (dP g) fun x17 =>
 bif (!x17) then
 au (some ((([]:List Int),((0:Int),((0:Int),(([]:List BL),((0:Int),(0:Int)))))),(2:Int)))
 else
 ah (aZ (b.2.2.2.1,(g.2.2.2.2.2,(1099511627776:Int)))) fun x18 =>
 bif (!x18) then
 au (some ((([]:List Int),((0:Int),((0:Int),(([]:List BL),((0:Int),(0:Int)))))),(2:Int)))
 else
 ah (aZ ((b.1.length:Int),((1:Int),(200:Int)))) fun x19 =>
 bif (!x19) then
 au (some ((([]:List Int),((0:Int),((0:Int),(([]:List BL),((0:Int),(0:Int)))))),(2:Int)))
 else
 bif (decide ((b.2.1.length:Int) > 200)) then
 au (some ((([]:List Int),((0:Int),((0:Int),(([]:List BL),((0:Int),(0:Int)))))),(2:Int)))
 else
 bif (decide ((b.2.2.1.length:Int) > 200)) then
 au (some ((([]:List Int),((0:Int),((0:Int),(([]:List BL),((0:Int),(0:Int)))))),(2:Int)))
 else
 some (Sum.inl ())) fun _ =>
 ah (jd (g,b.1)) fun (x21,x22) =>
 bif x22 then
  some ((([]:List Int),((0:Int),((0:Int),(([]:List BL),((0:Int),(0:Int)))))),(7:Int))
 else
  ah (eF g.2.2.2.1) fun x23 =>
  bif (decide (x23>=256)) then
   some ((([]:List Int),((0:Int),((0:Int),(([]:List BL),((0:Int),(0:Int)))))),(10:Int))
  else
   ah (fJ ((b.2.2.2.1::([]:List Int)),(b.1::(b.2.1::(b.2.2.1::([]:List (List UInt8))))))) fun x24 =>
   ah (bY ((g.1,(g.2.1,g.2.2.1)),((1:Int),x24))) fun ((x26,(x27,x28)),x29) =>
   bif (decide (x29≠0)) then
    some ((([]:List Int),((0:Int),((0:Int),(([]:List BL),((0:Int),(0:Int)))))),x29)
   else
    ah (jZ g.2.2.2.1) fun x30 =>
    ah (oL (b.2.2.2.1,(b.1,(b.2.1,b.2.2.1)))) fun (x32,(x33,(x34,(x35,(x36,(x37,(x38,(x39,(x40,x41))))))))) =>
    bif ((decide (x30.length=x30.length))&&true) then
     ah (Q5 (x30,(x21,((x32,(x33,(x34,(x35,(x36,(x37,(x38,(x39,(x40,x41)))))))))::([]:List BL))))) fun x42 =>
     bif (decide (x42.length<=x42.length)) then
      some ((x26,(x27,(x28,((x42.take x42.length),(g.2.2.2.2.1,b.2.2.2.1))))),(0:Int))
     else none
    else none:=rfl
theorem to_eq (g:LG) (a7:Int) (a8:Tx) (a9:Int):kQ (g,(a7,(a8,a9))) =
 ah (dP g) fun x10 =>
 bif (!x10) then
  some ((([]:List Int),((0:Int),((0:Int),(([]:List BL),((0:Int),(0:Int)))))),(2:Int))
 else
  ah (aZ (a9,(g.2.2.2.2.2,(1099511627776:Int)))) fun x11 =>
  bif (!x11) then
   some ((([]:List Int),((0:Int),((0:Int),(([]:List BL),((0:Int),(0:Int)))))),(2:Int))
  else
   ah (jd (g,a8)) fun (x13,x14) =>
   bif (!x14) then
    some ((([]:List Int),((0:Int),((0:Int),(([]:List BL),((0:Int),(0:Int)))))),(8:Int))
   else
    bif (decide (a7=2)) then
     bif (decide ((0<=x13)/\(x13<(g.2.2.2.1.length:Int)))) then
      ah g.2.2.2.1[x13.toNat]? fun x15 =>
      bif (decide (x15.2.2.2.2.1≠(-1:Int))) then
       some ((([]:List Int),((0:Int),((0:Int),(([]:List BL),((0:Int),(0:Int)))))),(9:Int))
      else
       ah (fJ ((a9::([]:List Int)),(a8::([]:List (List UInt8))))) fun x16 =>
       ah (bY ((g.1,(g.2.1,g.2.2.1)),(a7,x16))) fun ((x18,(x19,x20)),x21) =>
       bif (decide (x21≠0)) then
        some ((([]:List Int),((0:Int),((0:Int),(([]:List BL),((0:Int),(0:Int)))))),x21)
       else
        ah (jZ g.2.2.2.1) fun x22 =>
        bif (decide ((0<=x13)/\(x13<(x22.length:Int)))) then
         ah x22[x13.toNat]? fun x23 =>
         bif (decide (a7=2)) then
          bif (decide ((0<=x13)/\(x13<(x22.length:Int)))) then
           ah (List.set x22 x13.toNat (x23.1,(x23.2.1,(x23.2.2.1,(x23.2.2.2.1,(x23.2.2.2.2.1,(a9,(x23.2.2.2.2.2.2.1,(x23.2.2.2.2.2.2.2.1,(x23.2.2.2.2.2.2.2.2.1,x23.2.2.2.2.2.2.2.2.2))))))))))[x13.toNat]? fun x24 =>
           bif (decide (x22.length<=(List.length (List.set (List.set x22 x13.toNat (x23.1,(x23.2.1,(x23.2.2.1,(x23.2.2.2.1,(x23.2.2.2.2.1,(a9,(x23.2.2.2.2.2.2.1,(x23.2.2.2.2.2.2.2.1,(x23.2.2.2.2.2.2.2.2.1,x23.2.2.2.2.2.2.2.2.2)))))))))) x13.toNat (x24.1,(x24.2.1,(x24.2.2.1,(x24.2.2.2.1,(a9,(x24.2.2.2.2.2.1,(x24.2.2.2.2.2.2.1,(x24.2.2.2.2.2.2.2.1,(x24.2.2.2.2.2.2.2.2.1,x24.2.2.2.2.2.2.2.2.2))))))))))))) then
            some ((x18,(x19,(x20,((List.take x22.length (List.set (List.set x22 x13.toNat (x23.1,(x23.2.1,(x23.2.2.1,(x23.2.2.2.1,(x23.2.2.2.2.1,(a9,(x23.2.2.2.2.2.2.1,(x23.2.2.2.2.2.2.2.1,(x23.2.2.2.2.2.2.2.2.1,x23.2.2.2.2.2.2.2.2.2)))))))))) x13.toNat (x24.1,(x24.2.1,(x24.2.2.1,(x24.2.2.2.1,(a9,(x24.2.2.2.2.2.1,(x24.2.2.2.2.2.2.1,(x24.2.2.2.2.2.2.2.1,(x24.2.2.2.2.2.2.2.2.1,x24.2.2.2.2.2.2.2.2.2))))))))))),(g.2.2.2.2.1,a9))))),(0:Int))
           else none
          else none
         else
          bif (decide (x22.length<=(List.length (List.set x22 x13.toNat (x23.1,(x23.2.1,(x23.2.2.1,(x23.2.2.2.1,(x23.2.2.2.2.1,(a9,(x23.2.2.2.2.2.2.1,(x23.2.2.2.2.2.2.2.1,(x23.2.2.2.2.2.2.2.2.1,x23.2.2.2.2.2.2.2.2.2))))))))))))) then
           some ((x18,(x19,(x20,((List.take x22.length (List.set x22 x13.toNat (x23.1,(x23.2.1,(x23.2.2.1,(x23.2.2.2.1,(x23.2.2.2.2.1,(a9,(x23.2.2.2.2.2.2.1,(x23.2.2.2.2.2.2.2.1,(x23.2.2.2.2.2.2.2.2.1,x23.2.2.2.2.2.2.2.2.2))))))))))),(g.2.2.2.2.1,a9))))),(0:Int))
          else none
        else none
     else none
    else
     ah (fJ ((a9::([]:List Int)),(a8::([]:List (List UInt8))))) fun x25 =>
     ah (bY ((g.1,(g.2.1,g.2.2.1)),(a7,x25))) fun ((x27,(x28,x29)),x30) =>
     bif (decide (x30≠0)) then
      some ((([]:List Int),((0:Int),((0:Int),(([]:List BL),((0:Int),(0:Int)))))),x30)
     else
      ah (jZ g.2.2.2.1) fun x31 =>
      bif (decide ((0<=x13)/\(x13<(x31.length:Int)))) then
       ah x31[x13.toNat]? fun x32 =>
       bif (decide (a7=2)) then
        bif (decide ((0<=x13)/\(x13<(x31.length:Int)))) then
         ah (List.set x31 x13.toNat (x32.1,(x32.2.1,(x32.2.2.1,(x32.2.2.2.1,(x32.2.2.2.2.1,(a9,(x32.2.2.2.2.2.2.1,(x32.2.2.2.2.2.2.2.1,(x32.2.2.2.2.2.2.2.2.1,x32.2.2.2.2.2.2.2.2.2))))))))))[x13.toNat]? fun x33 =>
         bif (decide (x31.length<=(List.length (List.set (List.set x31 x13.toNat (x32.1,(x32.2.1,(x32.2.2.1,(x32.2.2.2.1,(x32.2.2.2.2.1,(a9,(x32.2.2.2.2.2.2.1,(x32.2.2.2.2.2.2.2.1,(x32.2.2.2.2.2.2.2.2.1,x32.2.2.2.2.2.2.2.2.2)))))))))) x13.toNat (x33.1,(x33.2.1,(x33.2.2.1,(x33.2.2.2.1,(a9,(x33.2.2.2.2.2.1,(x33.2.2.2.2.2.2.1,(x33.2.2.2.2.2.2.2.1,(x33.2.2.2.2.2.2.2.2.1,x33.2.2.2.2.2.2.2.2.2))))))))))))) then
          some ((x27,(x28,(x29,((List.take x31.length (List.set (List.set x31 x13.toNat (x32.1,(x32.2.1,(x32.2.2.1,(x32.2.2.2.1,(x32.2.2.2.2.1,(a9,(x32.2.2.2.2.2.2.1,(x32.2.2.2.2.2.2.2.1,(x32.2.2.2.2.2.2.2.2.1,x32.2.2.2.2.2.2.2.2.2)))))))))) x13.toNat (x33.1,(x33.2.1,(x33.2.2.1,(x33.2.2.2.1,(a9,(x33.2.2.2.2.2.1,(x33.2.2.2.2.2.2.1,(x33.2.2.2.2.2.2.2.1,(x33.2.2.2.2.2.2.2.2.1,x33.2.2.2.2.2.2.2.2.2))))))))))),(g.2.2.2.2.1,a9))))),(0:Int))
         else none
        else none
       else
        bif (decide (x31.length<=(List.length (List.set x31 x13.toNat (x32.1,(x32.2.1,(x32.2.2.1,(x32.2.2.2.1,(x32.2.2.2.2.1,(a9,(x32.2.2.2.2.2.2.1,(x32.2.2.2.2.2.2.2.1,(x32.2.2.2.2.2.2.2.2.1,x32.2.2.2.2.2.2.2.2.2))))))))))))) then
         some ((x27,(x28,(x29,((List.take x31.length (List.set x31 x13.toNat (x32.1,(x32.2.1,(x32.2.2.1,(x32.2.2.2.1,(x32.2.2.2.2.1,(a9,(x32.2.2.2.2.2.2.1,(x32.2.2.2.2.2.2.2.1,(x32.2.2.2.2.2.2.2.2.1,x32.2.2.2.2.2.2.2.2.2))))))))))),(g.2.2.2.2.1,a9))))),(0:Int))
        else none
      else none:=rfl
theorem amD (g:LG) (a7:List Ra) (a8 a9 a10:Int):ji (g,((a7,a8),(a9,a10))) =
 bif (decide ((0<=a9)/\(a9<(g.2.2.2.1.length:Int)))) then
  ah g.2.2.2.1[a9.toNat]? fun x11 =>
  ah (jZ g.2.2.2.1) fun x12 =>
  bif (decide (x12.length=x12.length)) then
   ah (N7 (x12,(a9,(IntKind.wrap .i64 (a9+(1:Int)))))) fun x14 =>
   aA (bif (decide (x11.2.2.2.2.1≠(-1:Int))) then
 bif (decide (g.2.2.2.2.1>=1048576)) then
 au (some ((([]:List Int),((0:Int),((0:Int),(([]:List BL),((0:Int),(0:Int)))))),(10:Int)))
 else
 ah (some (IntKind.wrap .i64 (g.2.2.2.2.1+(1:Int)))) fun x15 =>
 ah (bW (x11.2.2.2.2.1,a10)) fun x16 =>
 ah (bT ((a7,a8),(x11.2.2.1,(x11.2.2.2.2.1,a10)))) fun (x18,x19) =>
 bif (decide (x19=0)) then
 bif (decide (x14.length<=x14.length)) then
 bif (decide (((List.length ((x14.take x14.length)++((x11.1,(x11.2.1,(x11.2.2.1,(x11.2.2.2.1,(x11.2.2.2.2.1,(a10,(x15,(x16,(x18,x11.2.2.2.2.2.2.2.2.2)))))))))::([]:List BL))))*104)<=140737488355328)) then
 ah (some ((x14.take x14.length)++((x11.1,(x11.2.1,(x11.2.2.1,(x11.2.2.2.1,(x11.2.2.2.2.1,(a10,(x15,(x16,(x18,x11.2.2.2.2.2.2.2.2.2)))))))))::([]:List BL)))) fun x20 =>
 bif (decide (x20.length<=x20.length)) then
 some (Sum.inl ((x20.take x20.length),((x11.1,(x11.2.1,(x11.2.2.1,(x11.2.2.2.1,(x11.2.2.2.2.1,(a10,(x15,(x16,(x18,x11.2.2.2.2.2.2.2.2.2))))))))),(g.1,(g.2.1,(g.2.2.1,(g.2.2.2.1,(x15,g.2.2.2.2.2))))))))
 else none
 else none
 else none
 else
 bif (decide (x14.length<=x14.length)) then
 bif (decide (((List.length ((x14.take x14.length)++((x11.1,(x11.2.1,(x11.2.2.1,(x11.2.2.2.1,(x11.2.2.2.2.1,(a10,(x15,(x16,(x11.2.2.2.2.2.2.2.2.1,x11.2.2.2.2.2.2.2.2.2)))))))))::([]:List BL))))*104)<=140737488355328)) then
 ah (some ((x14.take x14.length)++((x11.1,(x11.2.1,(x11.2.2.1,(x11.2.2.2.1,(x11.2.2.2.2.1,(a10,(x15,(x16,(x11.2.2.2.2.2.2.2.2.1,x11.2.2.2.2.2.2.2.2.2)))))))))::([]:List BL)))) fun x21 =>
 bif (decide (x21.length<=x21.length)) then
 some (Sum.inl ((x21.take x21.length),((x11.1,(x11.2.1,(x11.2.2.1,(x11.2.2.2.1,(x11.2.2.2.2.1,(a10,(x15,(x16,(x11.2.2.2.2.2.2.2.2.1,x11.2.2.2.2.2.2.2.2.2))))))))),(g.1,(g.2.1,(g.2.2.1,(g.2.2.2.1,(x15,g.2.2.2.2.2))))))))
 else none
 else none
 else none
 else
 bif (decide (x14.length<=x14.length)) then
 some (Sum.inl ((x14.take x14.length),((x11.1,(x11.2.1,(x11.2.2.1,(x11.2.2.2.1,(x11.2.2.2.2.1,(a10,(x11.2.2.2.2.2.2.1,(x11.2.2.2.2.2.2.2.1,(x11.2.2.2.2.2.2.2.2.1,x11.2.2.2.2.2.2.2.2.2))))))))),g)))
 else none) fun (v22,((v23,(v24,(v25,(v26,(v27,(v28,(v29,(v30,(v31,v32))))))))),(v33,(v34,(v35,(v36,(v37,v38))))))) =>
   ah (fJ ((a10::(v29::(v30::(v31::([]:List Int))))),(v23::([]:List (List UInt8))))) fun x39 =>
   ah (bY ((v33,(v34,v35)),((4:Int),x39))) fun ((x41,(x42,x43)),x44) =>
   bif (decide (x44≠0)) then
    some ((([]:List Int),((0:Int),((0:Int),(([]:List BL),((0:Int),(0:Int)))))),x44)
   else
    bif (decide (v22.length<=v22.length)) then
     some ((x41,(x42,(x43,((v22.take v22.length),(v37,v38))))),(0:Int))
    else none
  else none
 else none:=rfl
theorem apb (g:LG) (a7:List Ra) (a8:Int) (a9:Tx) (a10:Int):nP (g,((a7,a8),(a9,a10))) =
 aA (ah (dP g) fun x11 =>
 bif (!x11) then
 au (some ((([]:List Int),((0:Int),((0:Int),(([]:List BL),((0:Int),(0:Int)))))),(2:Int)))
 else
 ah (aZ (a10,(g.2.2.2.2.2,(1099511627776:Int)))) fun x12 =>
 bif (!x12) then
 au (some ((([]:List Int),((0:Int),((0:Int),(([]:List BL),((0:Int),(0:Int)))))),(2:Int)))
 else
 ah (aW (a7,a8)) fun x13 =>
 bif (!x13) then
 au (some ((([]:List Int),((0:Int),((0:Int),(([]:List BL),((0:Int),(0:Int)))))),(2:Int)))
 else
 some (Sum.inl ())) fun _ =>
 ah (jd (g,a9)) fun (x15,x16) =>
 bif (!x16) then
  some ((([]:List Int),((0:Int),((0:Int),(([]:List BL),((0:Int),(0:Int)))))),(8:Int))
 else
  ah (ji (g,((a7,a8),(x15,a10)))) fun ((x18,(x19,(x20,(x21,(x22,x23))))),x24) =>
  bif (decide (x24≠0)) then
   some ((([]:List Int),((0:Int),((0:Int),(([]:List BL),((0:Int),(0:Int)))))),x24)
  else
   some ((x18,(x19,(x20,(x21,(x22,a10))))),(0:Int)):=rfl
theorem apc (g:LG):jG g =
 ah (dP g) fun x7 =>
 bif (!x7) then
  some (([]:List Int),((0:Int),((0:Int),(([]:List BL),((0:Int),(0:Int))))))
 else
  ah (kJ (g.1,(g.2.1,g.2.2.1))) fun (x9,(x10,x11)) =>
  ah (jZ g.2.2.2.1) fun x12 =>
  bif (decide (x12.length<=x12.length)) then
   some (x9,(x10,(x11,((x12.take x12.length),(g.2.2.2.2.1,g.2.2.2.2.2)))))
  else none:=rfl
theorem apd (g:LG):lJ g =
 some (decide (g.2.2.1>=1048576)):=rfl
theorem ape (g:LG) (a:AC):jl (g,a) =
 bif (decide (a.1=5)) then
  ah (dK (g,a.2.2.1)) fun x15 =>
  bif (decide (x15<0)) then
   some (g,false)
  else
   bif (decide ((0<=x15)/\(x15<(g.2.2.2.1.length:Int)))) then
    ah g.2.2.2.1[x15.toNat]? fun x16 =>
    bif x16.2.2.2.2.2.2.2.2.2 then
     some (g,false)
    else
     bif (decide ((g.2.2.2.1.length*104)<=140737488355328)) then
      bif (decide ((0<=x15)/\(x15<(g.2.2.2.1.length:Int)))) then
       ah g.2.2.2.1[x15.toNat]? fun x18 =>
       bif (decide (g.2.2.2.1.length<=(List.length (List.set g.2.2.2.1 x15.toNat (x18.1,(x18.2.1,(x18.2.2.1,(x18.2.2.2.1,(x18.2.2.2.2.1,(x18.2.2.2.2.2.1,(x18.2.2.2.2.2.2.1,(x18.2.2.2.2.2.2.2.1,(x18.2.2.2.2.2.2.2.2.1,true))))))))))))) then
        some ((g.1,(g.2.1,(g.2.2.1,((List.take g.2.2.2.1.length (List.set g.2.2.2.1 x15.toNat (x18.1,(x18.2.1,(x18.2.2.1,(x18.2.2.2.1,(x18.2.2.2.2.1,(x18.2.2.2.2.2.1,(x18.2.2.2.2.2.2.1,(x18.2.2.2.2.2.2.2.1,(x18.2.2.2.2.2.2.2.2.1,true))))))))))),(g.2.2.2.2.1,g.2.2.2.2.2))))),true)
       else none
      else none
     else none
   else none
 else
  ah (vG ((g.1,(g.2.1,(g.2.2.1,(g.2.2.2.1,(g.2.2.2.2.1,(dM g.2.2.2.2.2 a.2.1)))))),a.2.2.2.2.2.1)) fun x19 =>
  bif (decide (a.1=1)) then
   aA (bif (decide (x19>=0)) then
 au (some ((g.1,(g.2.1,(g.2.2.1,(g.2.2.2.1,(g.2.2.2.2.1,(dM g.2.2.2.2.2 a.2.1)))))),false))
 else
 ah (dQ (g.1,(g.2.1,(g.2.2.1,(g.2.2.2.1,(g.2.2.2.2.1,(dM g.2.2.2.2.2 a.2.1))))))) fun x20 =>
 bif (decide (x20>=256)) then
 au (some ((g.1,(g.2.1,(g.2.2.1,(g.2.2.2.1,(g.2.2.2.2.1,(dM g.2.2.2.2.2 a.2.1)))))),false))
 else
 bif (decide (a.2.2.2.2.2.1=([]:List UInt8))) then
 au (some ((g.1,(g.2.1,(g.2.2.1,(g.2.2.2.1,(g.2.2.2.2.1,(dM g.2.2.2.2.2 a.2.1)))))),false))
 else
 bif (decide ((a.2.2.2.2.2.1.length:Int) > 200)) then
 au (some ((g.1,(g.2.1,(g.2.2.1,(g.2.2.2.1,(g.2.2.2.2.1,(dM g.2.2.2.2.2 a.2.1)))))),false))
 else
 bif (decide ((a.2.2.2.2.2.2.1.length:Int) > 200)) then
 au (some ((g.1,(g.2.1,(g.2.2.1,(g.2.2.2.1,(g.2.2.2.2.1,(dM g.2.2.2.2.2 a.2.1)))))),false))
 else
 bif (decide ((a.2.2.2.2.2.2.2.length:Int) > 200)) then
 au (some ((g.1,(g.2.1,(g.2.2.1,(g.2.2.2.1,(g.2.2.2.2.1,(dM g.2.2.2.2.2 a.2.1)))))),false))
 else
 some (Sum.inl ())) fun _ =>
   ah (lH (g.2.2.2.1,(a.2.2.2.2.2.1,(a.2.2.2.2.2.2.1,(a.2.2.2.2.2.2.2,(a.2.1,((-1:Int),(a.2.1,((0:Int),((0:Int),((0:Int),false))))))))))) fun x21 =>
   some ((g.1,(g.2.1,(g.2.2.1,(x21,(g.2.2.2.2.1,(dM g.2.2.2.2.2 a.2.1)))))),true)
  else
   aA (bif (decide (x19<0)) then
 au (some ((g.1,(g.2.1,(g.2.2.1,(g.2.2.2.1,(g.2.2.2.2.1,(dM g.2.2.2.2.2 a.2.1)))))),false))
 else
 bif (decide ((0<=x19)/\(x19<(g.2.2.2.1.length:Int)))) then
 ah g.2.2.2.1[x19.toNat]? fun x22 =>
 bif (decide (a.2.1<x22.2.2.2.2.2.1)) then
 au (some ((g.1,(g.2.1,(g.2.2.1,(g.2.2.2.1,(g.2.2.2.2.1,(dM g.2.2.2.2.2 a.2.1)))))),false))
 else
 bif (decide (a.1=2)) then
 bif (decide ((0<=x19)/\(x19<(g.2.2.2.1.length:Int)))) then
 ah g.2.2.2.1[x19.toNat]? fun x23 =>
 bif (decide (x23.2.2.2.2.1>=0)) then
 au (some ((g.1,(g.2.1,(g.2.2.1,(g.2.2.2.1,(g.2.2.2.2.1,(dM g.2.2.2.2.2 a.2.1)))))),false))
 else
 some (Sum.inl ())
 else none
 else
 some (Sum.inl ())
 else none) fun _ =>
   bif (decide ((0<=x19)/\(x19<(g.2.2.2.1.length:Int)))) then
    ah g.2.2.2.1[x19.toNat]? fun x24 =>
    bif (decide ((0<=x19)/\(x19<=(g.2.2.2.1.length:Int)))) then
     ah (some (List.take x19.toNat g.2.2.2.1)) fun x25 =>
     bif (decide ((x25.length*104)<=140737488355328)) then
      ah (some (IntKind.wrap .i64 (x19+(1:Int)))) fun x27 =>
      bif (decide ((0<=x27)/\(x27<=(g.2.2.2.1.length:Int)))) then
       ah (some (List.drop x27.toNat g.2.2.2.1)) fun x28 =>
       bif (decide (x25.length<=x25.length)) then
        bif (decide (((List.length ((x25.take x25.length)++x28))*104)<=140737488355328)) then
         ah (some ((x25.take x25.length)++x28)) fun x29 =>
         aA (bif (decide (a.1=2)) then
 some (Sum.inl (x24.1,(x24.2.1,(x24.2.2.1,(x24.2.2.2.1,(a.2.1,(a.2.1,(x24.2.2.2.2.2.2.1,(x24.2.2.2.2.2.2.2.1,(x24.2.2.2.2.2.2.2.2.1,x24.2.2.2.2.2.2.2.2.2))))))))))
 else
 some (Sum.inl (x24.1,(x24.2.1,(x24.2.2.1,(x24.2.2.2.1,(x24.2.2.2.2.1,(a.2.1,(x24.2.2.2.2.2.2.1,(x24.2.2.2.2.2.2.2.1,(x24.2.2.2.2.2.2.2.2.1,x24.2.2.2.2.2.2.2.2.2))))))))))) fun (v30,(v31,(v32,(v33,(v34,(v35,(v36,(v37,(v38,v39))))))))) =>
         bif (decide (a.1<4)) then
          bif (decide (x29.length<=x29.length)) then
           ah (lH ((x29.take x29.length),(v30,(v31,(v32,(v33,(v34,(v35,(v36,(v37,(v38,v39))))))))))) fun x40 =>
           some ((g.1,(g.2.1,(g.2.2.1,(x40,(g.2.2.2.2.1,(dM g.2.2.2.2.2 a.2.1)))))),true)
          else none
         else
          bif (decide (a.2.2.1=0)) then
           bif (decide (x29.length<=x29.length)) then
            some ((g.1,(g.2.1,(g.2.2.1,((x29.take x29.length),(g.2.2.2.2.1,(dM g.2.2.2.2.2 a.2.1)))))),(decide (v34=(-1:Int))))
           else none
          else
           aA (bif (decide (v34=(-1:Int))) then
 au (some ((g.1,(g.2.1,(g.2.2.1,(g.2.2.2.1,(g.2.2.2.2.1,(dM g.2.2.2.2.2 a.2.1)))))),false))
 else
 bif (decide (a.2.2.1≠(IntKind.wrap .i64 (g.2.2.2.2.1+(1:Int))))) then
 au (some ((g.1,(g.2.1,(g.2.2.1,(g.2.2.2.1,(g.2.2.2.2.1,(dM g.2.2.2.2.2 a.2.1)))))),false))
 else
 bif (decide (a.2.2.1 > 1048576)) then
 au (some ((g.1,(g.2.1,(g.2.2.1,(g.2.2.2.1,(g.2.2.2.2.1,(dM g.2.2.2.2.2 a.2.1)))))),false))
 else
 ah (bK (v34,v35)) fun x42 =>
 bif (decide (a.2.2.2.1≠x42)) then
 au (some ((g.1,(g.2.1,(g.2.2.1,(g.2.2.2.1,(g.2.2.2.2.1,(dM g.2.2.2.2.2 a.2.1)))))),false))
 else
 some (Sum.inl ())) fun _ =>
           bif (decide (x29.length<=x29.length)) then
            bif (decide (((List.length ((x29.take x29.length)++((v30,(v31,(v32,(v33,(v34,(v35,(a.2.2.1,(a.2.2.2.1,(a.2.2.2.2.1,v39)))))))))::([]:List BL))))*104)<=140737488355328)) then
             ah (some ((x29.take x29.length)++((v30,(v31,(v32,(v33,(v34,(v35,(a.2.2.1,(a.2.2.2.1,(a.2.2.2.2.1,v39)))))))))::([]:List BL)))) fun x43 =>
             bif (decide (x43.length<=x43.length)) then
              some ((g.1,(g.2.1,(g.2.2.1,((x43.take x43.length),(a.2.2.1,(dM g.2.2.2.2.2 a.2.1)))))),true)
             else none
            else none
           else none
        else none
       else none
      else none
     else none
    else none
   else none:=rfl
theorem apf (g:LG) (a:AC):lK (g,a) =
 ah (jl (g,a)) fun ((x16,(x17,(x18,(x19,(x20,x21))))),x22) =>
 ah (xO a) fun (x24,x25) =>
 ah (jk ((g.1,(g.2.1,g.2.2.1)),(x24,x25))) fun ((x27,(x28,x29)),x30) =>
 some (x27,(x28,(x29,(x19,(x20,x21))))):=rfl
theorem amE (g:LG) (a7:Int):tK (g,a7) =
 ah (iF g) fun x8 =>
 bif (!x8) then
  some ((([]:List Int),((0:Int),((0:Int),(([]:List BL),((0:Int),(0:Int)))))),(2:Int))
 else
  ah (dK (g,a7)) fun x9 =>
  bif (decide (x9<0)) then
   some ((([]:List Int),((0:Int),((0:Int),(([]:List BL),((0:Int),(0:Int)))))),(8:Int))
  else
   bif (decide ((0<=x9)/\(x9<(g.2.2.2.1.length:Int)))) then
    ah g.2.2.2.1[x9.toNat]? fun x10 =>
    bif x10.2.2.2.2.2.2.2.2.2 then
     some ((([]:List Int),((0:Int),((0:Int),(([]:List BL),((0:Int),(0:Int)))))),(9:Int))
    else
     ah (lJ g) fun x11 =>
     bif x11 then
      some ((([]:List Int),((0:Int),((0:Int),(([]:List BL),((0:Int),(0:Int)))))),(10:Int))
     else
      ah (lK (g,((5:Int),((0:Int),(a7,((0:Int),((0:Int),(([]:List UInt8),(([]:List UInt8),([]:List UInt8)))))))))) fun (x13,(x14,(x15,(x16,(x17,x18))))) =>
      some ((x13,(x14,(x15,(x16,(x17,x18))))),(0:Int))
   else none:=rfl
theorem apg (a:AC):xO a =
 bif (decide (a.1=1)) then
  ah (cZ ((a.2.1::([]:List Int)),(a.2.2.2.2.2.1::(a.2.2.2.2.2.2.1::(a.2.2.2.2.2.2.2::([]:List (List UInt8))))))) fun x9 =>
  some ((1:Int),x9)
 else
  bif (decide (a.1=4)) then
   ah (cZ ((a.2.1::(a.2.2.1::(a.2.2.2.1::(a.2.2.2.2.1::([]:List Int))))),(a.2.2.2.2.2.1::([]:List (List UInt8))))) fun x10 =>
   some ((4:Int),x10)
  else
   bif (decide (a.1=5)) then
    ah (cZ ((a.2.2.1::([]:List Int)),([]:List (List UInt8)))) fun x11 =>
    some ((5:Int),x11)
   else
    ah (cZ ((a.2.1::([]:List Int)),(a.2.2.2.2.2.1::([]:List (List UInt8))))) fun x12 =>
    some (a.1,x12):=rfl
def tf (p:Prop):Bool:=@decide p (Classical.propDecidable p)
theorem dL {p:Prop} (h:p):tf p=true:=by unfold tf;exact @decide_eq_true p (Classical.propDecidable p) h
theorem jP {p:Prop} (h:¬p):tf p=false:=by unfold tf;exact @decide_eq_false p (Classical.propDecidable p) h
theorem Is.tf {o:Option Bool} {P:Prop} (h:Is o P):o=Option.some (Go.Proofs.Ytkpijdndakljjaa.tf P):=by
 rcases h with ⟨h,e⟩ | ⟨h,e⟩
 ·rw [e,dL h]
 ·rw [e,jP h]
theorem Is.b {o:Option Bool} {P:Prop} (h:Is o P) {β:Type} (f:Bool->Option β):ah o f=f (Go.Proofs.Ytkpijdndakljjaa.tf P):=by rw [h.tf];rfl
theorem Is.ite' {c:Prop} [Decidable c] {a b:Option Bool} {P:Prop} (h1:c->Is a P) (h2:¬c->Is b P):Is (if c then a else b) P:=by
 by_cases h:c
 ·rw [if_pos h];exact h1 h
 ·rw [if_neg h];exact h2 h
def opn:List BL->Nat
 | []=>0
 | b::l=>if b.2.2.2.2.2.2.1=0 then opn l+1 else 0
theorem tq:∀l:List BL,opn l<=l.length
 | []=>Nat.le_refl _
 | b::l=>by
   have:=tq l;rw [opn,List.length_cons];split<;>omega
theorem MN:∀ {l:List BL} {i:Nat},i<opn l->(l.getD i b0).2.2.2.2.2.2.1=0
 | [],i,h=>by simp [opn] at h
 | b::l,i,h=>by
   rw [opn] at h;split at h
   ·rename_i hb;cases i with
    | zero=>exact hb
    | succ i =>
      rw [List.getD_cons_succ];exact MN (by omega)
   ·omega
theorem afg:∀ {l:List BL},opn l<l.length->(l.getD (opn l) b0).2.2.2.2.2.2.1≠0
 | [],h=>by simp [opn] at h
 | b::l,h=>by
   rw [opn] at h ⊢;split at h
   ·rename_i hb;rw [if_pos hb,List.getD_cons_succ];exact afg (by simpa using h)
   ·rename_i hb;rw [if_neg hb];exact hb
theorem ZB {δ:Type} (l:List BL) (hl:l.length<=1000000):ay (ocB (δ:=δ) l) (0:Int)=some (.inl ((opn l:Nat):Int)):=by
 have h1:=tq l;refine bG (fun i=>((i:Nat):Int)) (opn l) rfl (fun i hi => ?_) ?_
 ·have hz:=MN hi;obtain ⟨x,hx,hxb⟩:=get_at b0 (show i<l.length by omega);rw [hx] at hz;unfold ocB;simp (disch:=(first | omega | (simp only [bJ];omega))) only [↓aF,aG,if_pos,↓hxb,hz,aj];rfl
 ·unfold ocB;by_cases h2:opn l<l.length
  ·have hz:=afg h2;obtain ⟨x,hx,hxb⟩:=get_at b0 h2;rw [hx] at hz;simp (disch:=(first | omega | (simp only [bJ];omega))) only [↓aF,aG,if_pos,if_neg,↓hxb,hz]
  ·simp (disch:=(first | omega | (simp only [bJ];omega))) only [↓aF,aG,if_neg]
theorem aqV (l:List BL) (hl:l.length<=1000000):eF l=some ((opn l:Nat):Int):=by rw [aoU,ZB l hl];rfl
theorem aqW (g:LG) (hl:g.2.2.2.1.length<=1000000):dQ g=some ((opn g.2.2.2.1:Nat):Int):=by rw [or_eq,ZB _ hl];rfl
theorem Rx {β:Type} (l:List BL) (hl:l.length<=1000000) (f:Int->Option β):ah (eF l) f=f ((opn l:Nat):Int):=by rw [aqV l hl];rfl
theorem amF {β:Type} (g:LG) (hl:g.2.2.2.1.length<=1000000) (f:Int->Option β):ah (dQ g) f=f ((opn g.2.2.2.1:Nat):Int):=by rw [aqW g hl];rfl
theorem jC {β:Type} (a b c:Int) (f:Bool->Option β):ah (aZ (a,(b,c))) f=f (decide (b<=a/\a<=c)):=by
 unfold aZ;by_cases h:b<=a
 ·simp only [aO];rw [if_pos h,aB];congr 1;rw [decide_eq_decide];omega
 ·simp only [aO];rw [if_neg h,aB];congr 1;rw [eq_comm,decide_eq_false_iff_not];omega
def BK (n:Int) (b:BL):Prop :=
 (1<=b.1.length/\b.1.length<=200/\b.2.1.length<=200/\b.2.2.1.length<=200)/\(0<=b.2.2.2.1/\b.2.2.2.1<=n)/\(b.2.2.2.2.1 = -1\/(b.2.2.2.1<=b.2.2.2.2.1/\b.2.2.2.2.1<=b.2.2.2.2.2.1))/\(b.2.2.2.1<=b.2.2.2.2.2.1/\b.2.2.2.2.2.1<=n) /\
 ((b.2.2.2.2.2.2.1=0/\b.2.2.2.2.2.2.2.1=0/\b.2.2.2.2.2.2.2.2.1=0/\b.2.2.2.2.2.2.2.2.2=false)\/(b.2.2.2.2.2.2.1≠0/\b.2.2.2.2.1 ≠ -1/\0<=b.2.2.2.2.2.2.2.2.1/\b.2.2.2.2.2.2.2.1=Rt.SE b.2.2.2.2.1 b.2.2.2.2.2.1))
theorem IQ {β:Type} (a b:Int) (f:Int->Option β):ah (bW (a,b)) f=f (Rt.SE a b):=by rw [Rt.qW];rfl
theorem amG {β:Type} (a b:Int) (f:Int->Option β):ah (bK (a,b)) f=f (Rt.SE a b):=by rw [Rt.yO];rfl
set_option maxHeartbeats 4000000 in
theorem abV (n:Int) (b:BL):Is (kK (b,n)) (BK n b):=by
 obtain ⟨a1,a2,a3,a4,a5,a6,a7,a8,a9,a10⟩:=b;unfold kK BK;generalize hs:Rt.SE a5 a6=sv;cases a10<;>simp only [↓aF,aG,jC,IQ,hs,dM,aO,<-decide_not,Gx,KT,Gw,and_true,and_false,true_and,false_and,or_false,false_or,eq_self_iff_true,Bool.not_true,Bool.not_false,reduceCtorEq]<;>repeat' (refine Is.ite' (fun _ => ?_) (fun _ => ?_))
 all_goals first | exact Is.f (by omega) | exact Is.t (by omega) | exact Is.d (by omega)
set_option maxHeartbeats 4000000 in
theorem MP (n:Int) (b:BL):Is (lG (b,n)) (BK n b):=by
 obtain ⟨a1,a2,a3,a4,a5,a6,a7,a8,a9,a10⟩:=b;cases a1 with
 | nil =>
   show Is (some false) _;exact Is.f (fun h=>by
    have:=h.1.1;simp at this)
 | cons x a1 =>
 unfold lG BK;generalize hs:Rt.SE a5 a6=sv;have e0:decide (x::a1=([]:Tx))=false:=decide_eq_false (by simp);have hpos:1<=List.length (x::a1):=by simp
 dsimp only;rw [e0,cond_false];clear e0;generalize (x::a1:Tx)=a1 at *
 cases a10<;>simp only [↓aF,aG,amG,hs,aO,<-decide_not,Gx,KT,Gw,and_true,and_false,true_and,false_and,or_false,false_or,eq_self_iff_true,Bool.not_true,Bool.not_false,reduceCtorEq]<;>repeat' (refine Is.ite' (fun _ => ?_) (fun _ => ?_))
 all_goals first | exact Is.f (by omega) | exact Is.t (by omega) | exact Is.d (by omega)
def pv (l:List BL) (i:Nat):Int:=if i<=opn l then 0 else (l.getD (i-1) b0).2.2.2.2.2.2.1
theorem PZ {l:List BL} {i:Nat} (h:i<=opn l):pv l i=0:=if_pos h
theorem afh {l:List BL} {i:Nat} (h:opn l<=i):pv l (i+1)=(l.getD i b0).2.2.2.2.2.2.1:=by
 unfold pv;rw [if_neg (by omega),Nat.add_sub_cancel]
def OKi (g:LG) (i:Nat):Prop:=BK g.2.2.2.2.2 (g.2.2.2.1.getD i b0)/\((i<opn g.2.2.2.1/\(0<i->Op.bytesLess (g.2.2.2.1.getD (i-1) b0).1 (g.2.2.2.1.getD i b0).1=true))\/(opn g.2.2.2.1<=i/\pv g.2.2.2.1 i+1<=(g.2.2.2.1.getD i b0).2.2.2.2.2.2.1/\(g.2.2.2.1.getD i b0).2.2.2.2.2.2.1<=g.2.2.2.2.1))
theorem P5 {g:LG} (h:0<=g.2.2.2.2.1/\g.2.2.2.2.1<=1048576):∀ {i:Nat},(∀j,j<i->OKi g j)->0<=pv g.2.2.2.1 i/\pv g.2.2.2.1 i<=1048576
 | 0,_=>by simp [pv]
 | i+1,hj=>by
   have ih:=P5 h (i:=i) (fun j hj'=>hj j (by omega));rcases (hj i (by omega)).2 with ⟨h1,_⟩ | ⟨h1,h2,h3⟩
   ·rw [PZ (by omega)];omega
   ·rw [afh h1];omega
set_option maxHeartbeats 4000000 in
theorem aip (g:LG) (hl:g.2.2.2.1.length<=1000000) (h5:0<=g.2.2.2.2.1/\g.2.2.2.2.1<=1048576) :
 ((∀i,i<g.2.2.2.1.length->OKi g i)/\ay (vaB g ((opn g.2.2.2.1:Nat):Int)) ((0:Int),(0:Int))=some (.inl ()))\/(¬(∀i,i<g.2.2.2.1.length->OKi g i)/\ay (vaB g ((opn g.2.2.2.1:Nat):Int)) ((0:Int),(0:Int))=some (.inr false)):=by
 have ho:=tq g.2.2.2.1;refine PO (fun i=>(((i:Nat):Int),pv g.2.2.2.1 i)) _ (OKi g) _ _ (by simp [pv]) (fun i hi hj hok => ?_) (fun i hi hj hno => ?_) (fun _ => ?_)
 ·have hp:=P5 h5 hj;obtain ⟨x,hx,hxb⟩:=get_at b0 hi;obtain ⟨hb,hok⟩:=hok;rw [hx] at hb hok;unfold vaB;rcases hok with ⟨h1,h2⟩ | ⟨h1,h2,h3⟩
  ·rw [PZ (by omega),PZ (show i+1<=_ by omega)];by_cases h0:0<i
   ·obtain ⟨y,hy,hyb⟩:=get_at b0 (show i-1<g.2.2.2.1.length by omega);have hbl:=h2 h0;rw [hy] at hbl;have hc:((i:Int)-1)=((i-1:Nat):Int):=by omega
    simp (disch:=(first | omega | (simp only [bJ];omega))) only [↓aF,aG,if_pos,if_neg,↓hxb,↓(abV g.2.2.2.2.2 x).b,dL hb,↓hyb,hc,hbl,aj,Bool.not_true];rfl
   ·simp (disch:=(first | omega | (simp only [bJ];omega))) only [↓aF,aG,if_pos,if_neg,↓hxb,↓(abV g.2.2.2.2.2 x).b,dL hb,aj,Bool.not_true];rfl
  ·rw [afh h1,hx];simp (disch:=(first | omega | (simp only [bJ];omega))) only [↓aF,aG,if_pos,if_neg,↓hxb,↓(abV g.2.2.2.2.2 x).b,dL hb,↓jC,aj,Bool.not_true];rfl
 ·have hp:=P5 h5 hj;obtain ⟨x,hx,hxb⟩:=get_at b0 hi;unfold OKi at hno;rw [hx] at hno;unfold vaB;by_cases hb:BK g.2.2.2.2.2 x
  ·by_cases h1:i<opn g.2.2.2.1
   ·by_cases h0:0<i
    ·obtain ⟨y,hy,hyb⟩:=get_at b0 (show i-1<g.2.2.2.1.length by omega);rw [hy] at hno;have hc:((i:Int)-1)=((i-1:Nat):Int):=by omega
     cases hbl:Op.bytesLess y.1 x.1 with
     | true=>exact (hno ⟨hb,.inl ⟨h1,fun _=>hbl⟩⟩).elim
     | false=>simp (disch:=(first | omega | (simp only [bJ];omega))) only [↓aF,aG,if_pos,if_neg,↓hxb,↓(abV g.2.2.2.2.2 x).b,dL hb,↓hyb,hc,hbl,aj,Bool.not_true,Bool.not_false]
    ·exact (hno ⟨hb,.inl ⟨h1,fun h=>(h0 h).elim⟩⟩).elim
   ·simp (disch:=(first | omega | (simp only [bJ];omega))) only [↓aF,aG,if_pos,if_neg,↓hxb,↓(abV g.2.2.2.2.2 x).b,dL hb,↓jC,aj,Bool.not_true];have h4:¬(pv g.2.2.2.1 i+1<=x.2.2.2.2.2.2.1/\x.2.2.2.2.2.2.1<=g.2.2.2.2.1):=fun h=>hno ⟨hb,.inr ⟨by omega,h⟩⟩;simp (disch:=(first | omega | (simp only [bJ];omega))) only [↓aF,aG,if_neg,h4]
  ·simp (disch:=(first | omega | (simp only [bJ];omega))) only [↓aF,aG,if_pos,↓hxb,↓(abV g.2.2.2.2.2 x).b,jP hb,Bool.not_false]
 ·unfold vaB;simp (disch:=(first | omega | (simp only [bJ];omega))) only [↓aF,aG,if_neg]
set_option maxHeartbeats 4000000 in
theorem Rf (g:LG) (hl:g.2.2.2.1.length<=1000000) (h5:0<=g.2.2.2.2.1/\g.2.2.2.2.1<=1048576) :
 ((∀i,i<g.2.2.2.1.length->OKi g i)/\ay (Xk g ((opn g.2.2.2.1:Nat):Int)) ((0:Int),(0:Int))=some (.inl ()))\/(¬(∀i,i<g.2.2.2.1.length->OKi g i)/\ay (Xk g ((opn g.2.2.2.1:Nat):Int)) ((0:Int),(0:Int))=some (.inr false)):=by
 have ho:=tq g.2.2.2.1;refine PO (fun i=>(((i:Nat):Int),pv g.2.2.2.1 i)) _ (OKi g) _ _ (by simp [pv]) (fun i hi hj hok => ?_) (fun i hi hj hno => ?_) (fun _ => ?_)
 ·have hp:=P5 h5 hj;obtain ⟨x,hx,hxb⟩:=get_at b0 hi;obtain ⟨hb,hok⟩:=hok;rw [hx] at hb hok;unfold Xk;rcases hok with ⟨h1,h2⟩ | ⟨h1,h2,h3⟩
  ·rw [PZ (by omega),PZ (show i+1<=_ by omega)];by_cases h0:0<i
   ·obtain ⟨y,hy,hyb⟩:=get_at b0 (show i-1<g.2.2.2.1.length by omega);have hbl:=h2 h0;rw [hy] at hbl;have hc:((i:Int)-1)=((i-1:Nat):Int):=by omega
    simp (disch:=(first | omega | (simp only [bJ];omega))) only [↓aF,aG,if_pos,if_neg,↓hxb,↓(MP g.2.2.2.2.2 x).b,dL hb,↓hyb,hc,hbl,aj,Bool.not_true];rfl
   ·simp (disch:=(first | omega | (simp only [bJ];omega))) only [↓aF,aG,if_pos,if_neg,↓hxb,↓(MP g.2.2.2.2.2 x).b,dL hb,aj,Bool.not_true];rfl
  ·rw [afh h1,hx];simp (disch:=(first | omega | (simp only [bJ];omega))) only [↓aF,aG,if_pos,if_neg,↓hxb,↓(MP g.2.2.2.2.2 x).b,dL hb,aj,Bool.not_true];rfl
 ·have hp:=P5 h5 hj;obtain ⟨x,hx,hxb⟩:=get_at b0 hi;unfold OKi at hno;rw [hx] at hno;unfold Xk;by_cases hb:BK g.2.2.2.2.2 x
  ·by_cases h1:i<opn g.2.2.2.1
   ·by_cases h0:0<i
    ·obtain ⟨y,hy,hyb⟩:=get_at b0 (show i-1<g.2.2.2.1.length by omega);rw [hy] at hno;have hc:((i:Int)-1)=((i-1:Nat):Int):=by omega
     cases hbl:Op.bytesLess y.1 x.1 with
     | true=>exact (hno ⟨hb,.inl ⟨h1,fun _=>hbl⟩⟩).elim
     | false=>simp (disch:=(first | omega | (simp only [bJ];omega))) only [↓aF,aG,if_pos,if_neg,↓hxb,↓(MP g.2.2.2.2.2 x).b,dL hb,↓hyb,hc,hbl,aj,Bool.not_true,Bool.not_false]
    ·exact (hno ⟨hb,.inl ⟨h1,fun h=>(h0 h).elim⟩⟩).elim
   ·have h4:¬(pv g.2.2.2.1 i+1<=x.2.2.2.2.2.2.1/\x.2.2.2.2.2.2.1<=g.2.2.2.2.1):=fun h=>hno ⟨hb,.inr ⟨by omega,h⟩⟩;by_cases h6:x.2.2.2.2.2.2.1<=pv g.2.2.2.1 i
    ·simp (disch:=(first | omega | (simp only [bJ];omega))) only [↓aF,aG,if_pos,if_neg,↓hxb,↓(MP g.2.2.2.2.2 x).b,dL hb,aj,Bool.not_true]
    ·simp (disch:=(first | omega | (simp only [bJ];omega))) only [↓aF,aG,if_pos,if_neg,↓hxb,↓(MP g.2.2.2.2.2 x).b,dL hb,aj,Bool.not_true]
  ·simp (disch:=(first | omega | (simp only [bJ];omega))) only [↓aF,aG,if_pos,↓hxb,↓(MP g.2.2.2.2.2 x).b,jP hb,Bool.not_false]
 ·unfold Xk;simp (disch:=(first | omega | (simp only [bJ];omega))) only [↓aF,aG,if_neg]
def VL (g:LG):Prop:=(0<=g.2.1/\g.2.1<=(g.1.length:Int)/\0<=g.2.2.1/\g.2.2.1<=1048576)/\(0<=g.2.2.2.2.2/\g.2.2.2.2.2<=1099511627776)/\(0<=g.2.2.2.2.1/\g.2.2.2.2.1<=1048576)/\opn g.2.2.2.1<=256/\∀i,i<g.2.2.2.1.length->OKi g i
theorem afj {β:Type} (b:List Int) (s c:Int) (f:Bool->Option β):ah (gB (b,(s,c))) f=f (decide (0<=s/\s<=(b.length:Int)/\0<=c/\c<=1048576)):=by rw [Jn.Jp];rfl
theorem oq (g:LG) (hl:g.2.2.2.1.length<=1000000):Is (dP g) (VL g):=by
 rw [aoV];by_cases h1:0<=g.2.1/\g.2.1<=(g.1.length:Int)/\0<=g.2.2.1/\g.2.2.1<=1048576
 ·skip
  by_cases h2:0<=g.2.2.2.2.2/\g.2.2.2.2.2<=1099511627776
  ·skip
   by_cases h3:0<=g.2.2.2.2.1/\g.2.2.2.2.1<=1048576
   ·skip
    by_cases h4:¬((opn g.2.2.2.1:Nat):Int) > 256
    ·skip
     simp (disch:=(first | omega | (simp only [bJ];omega))) only [↓aF,aG,↓afj,↓jC,↓Rx _ hl,and_self,decide_true,decide_false,if_neg,h1,h2,h3,h4];rcases aip g hl h3 with ⟨h,e⟩ | ⟨h,e⟩
     ·rw [e];exact Is.t ⟨h1,h2,h3,by omega,h⟩
     ·rw [e];exact Is.f fun k=>h k.2.2.2.2
    ·(simp (disch:=(first | omega | (simp only [bJ];omega))) only [↓aF,aG,↓afj,↓jC,↓Rx _ hl,and_self,decide_true,decide_false,if_pos,if_neg,h1,h2,h3,h4];exact Is.f fun k=>by unfold VL at k;omega)
   ·(simp (disch:=(first | omega | (simp only [bJ];omega))) only [↓aF,aG,↓afj,↓jC,↓Rx _ hl,and_self,decide_true,decide_false,if_pos,if_neg,h1,h2,h3];exact Is.f fun k=>by unfold VL at k;omega)
  ·(simp (disch:=(first | omega | (simp only [bJ];omega))) only [↓aF,aG,↓afj,↓jC,↓Rx _ hl,and_self,decide_true,decide_false,if_pos,if_neg,h1,h2];exact Is.f fun k=>by unfold VL at k;omega)
 ·(simp (disch:=(first | omega | (simp only [bJ];omega))) only [↓aF,aG,↓afj,↓jC,↓Rx _ hl,and_self,decide_true,decide_false,if_pos,if_neg,h1];exact Is.f fun k=>by unfold VL at k;omega)
theorem MQ {β:Type} (b:List Int) (s c:Int) (f:Bool->Option β):ah (fD (b,(s,c))) f=f (decide (0<=s/\s<=(b.length:Int)/\0<=c/\c<=1048576)):=by
 have h:Is (fD (b,(s,c))) (0<=s/\s<=(b.length:Int)/\0<=c/\c<=1048576):=by
  unfold fD;simp only [↓aF,aG,aO,<-decide_not,Gx,KT,Gw]
  repeat' (refine Is.ite' (fun _ => ?_) (fun _ => ?_))
  all_goals first | exact Is.f (by omega) | exact Is.t (by omega) | exact Is.d (by omega)
 rcases h with ⟨k,e⟩ | ⟨k,e⟩
 ·rw [e,decide_eq_true k];rfl
 ·rw [e,decide_eq_false k];rfl
theorem Ry (g:LG) (hl:g.2.2.2.1.length<=1000000):Is (iF g) (VL g):=by
 rw [aoW];by_cases h1:0<=g.2.1/\g.2.1<=(g.1.length:Int)/\0<=g.2.2.1/\g.2.2.1<=1048576
 ·skip
  by_cases h2:¬g.2.2.2.2.2<0
  ·skip
   by_cases h2':¬g.2.2.2.2.2 > 1099511627776
   ·skip
    by_cases h3:¬g.2.2.2.2.1<0
    ·skip
     by_cases h3':¬g.2.2.2.2.1 > 1048576
     ·skip
      simp (disch:=(first | omega | (simp only [bJ];omega))) only [↓aF,aG,↓MQ,↓amF _ hl,and_self,decide_true,decide_false,if_neg,h1,h2,h2',h3,h3'];rcases Rf g hl ⟨by omega,by omega⟩ with ⟨h,e⟩ | ⟨h,e⟩
      ·rw [e,aX];exact Is.d ⟨fun k=>⟨h1,by omega,by omega,by omega,h⟩,fun k=>by unfold VL at k;omega⟩
      ·rw [e];exact Is.f fun k=>h k.2.2.2.2
     ·(simp (disch:=(first | omega | (simp only [bJ];omega))) only [↓aF,aG,↓MQ,and_self,decide_true,decide_false,if_pos,if_neg,h1,h2,h2',h3,h3'];exact Is.f fun k=>by unfold VL at k;omega)
    ·(simp (disch:=(first | omega | (simp only [bJ];omega))) only [↓aF,aG,↓MQ,and_self,decide_true,decide_false,if_pos,if_neg,h1,h2,h2',h3];exact Is.f fun k=>by unfold VL at k;omega)
   ·(simp (disch:=(first | omega | (simp only [bJ];omega))) only [↓aF,aG,↓MQ,and_self,decide_true,decide_false,if_pos,if_neg,h1,h2,h2'];exact Is.f fun k=>by unfold VL at k;omega)
  ·(simp (disch:=(first | omega | (simp only [bJ];omega))) only [↓aF,aG,↓MQ,and_self,decide_true,decide_false,if_pos,if_neg,h1,h2];exact Is.f fun k=>by unfold VL at k;omega)
 ·(simp (disch:=(first | omega | (simp only [bJ];omega))) only [↓aF,aG,↓MQ,and_self,decide_true,decide_false,if_pos,if_neg,h1];exact Is.f fun k=>by unfold VL at k;omega)
theorem Rz:∀a:Tx,Op.bytesLess a a=false
 | []=>rfl
 | x::a=>by rw [Op.bytesLess,Rz a];simp
theorem RD {x y:UInt8} {a b:Tx}:Op.bytesLess (x::a) (y::b)=true↔x.toNat<y.toNat\/(x=y/\Op.bytesLess a b=true):=by
 rw [Op.bytesLess];simp [UInt8.lt_iff_toNat_lt]
theorem ZC:∀ {a b c:Tx},Op.bytesLess a b=true->Op.bytesLess b c=true->Op.bytesLess a c=true
 | _,_,[],_,h=>by cases ‹Tx› <;> simp [Op.bytesLess] at h
 | _,[],_::_,h,_=>by cases ‹Tx› <;> simp [Op.bytesLess] at h
 | [],_::_,_::_,_,_=>rfl
 | x::a,y::b,z::c,h,k=>by
   rw [RD] at h k ⊢;rcases h with h | ⟨rfl,h⟩<;>rcases k with k | ⟨rfl,k⟩
   ·exact .inl (by omega)
   ·exact .inl h
   ·exact .inl k
   ·exact .inr ⟨rfl,ZC h k⟩
theorem afk:∀(a b:Tx),Op.bytesLess a b=true\/Op.bytesLess b a=true\/a=b
 | [],[] => .inr (.inr rfl)
 | [],_::_ => .inl rfl
 | _::_,[] => .inr (.inl rfl)
 | x::a,y::b=>by
   rw [RD,RD];rcases Nat.lt_trichotomy x.toNat y.toNat with h | h | h
   ·exact .inl (.inl h)
   ·have e:x=y:=UInt8.toNat_inj.1 h;subst e;rcases afk a b with g | g | g
    ·exact .inl (.inr ⟨rfl,g⟩)
    ·exact .inr (.inl (.inr ⟨rfl,g⟩))
    ·exact .inr (.inr (by rw [g]))
   ·exact .inr (.inl (.inl h))
theorem ajL {a b:Tx} (h:Op.bytesLess a b=true):a≠b:=fun e=>by subst e;rw [Rz] at h;cases h
def gZ (c:Tx):List BL->Nat
 | []=>0
 | b::l=>if b.2.2.2.2.2.2.1=0/\Op.bytesLess b.1 c=true then gZ c l+1 else 0
theorem wQ (c:Tx):∀l:List BL,gZ c l<=opn l
 | []=>Nat.le_refl _
 | b::l=>by
   have:=wQ c l;rw [gZ,opn];split
   ·rename_i h;rw [if_pos h.1];omega
   ·exact Nat.zero_le _
theorem Xv {c:Tx}:∀ {l:List BL} {i:Nat},i<gZ c l->Op.bytesLess (l.getD i b0).1 c=true
 | [],i,h=>by simp [gZ] at h
 | b::l,i,h=>by
   rw [gZ] at h;split at h
   ·rename_i hb;cases i with
    | zero=>exact hb.2
    | succ i=>rw [List.getD_cons_succ];exact Xv (by omega)
   ·omega
theorem Xw {c:Tx}:∀ {l:List BL},gZ c l<opn l->Op.bytesLess (l.getD (gZ c l) b0).1 c=false
 | [],h=>by simp [gZ,opn] at h
 | b::l,h=>by
   rw [gZ] at h ⊢;split at h
   ·rename_i hb;rw [if_pos hb,List.getD_cons_succ];rw [opn,if_pos hb.1] at h;exact Xw (by omega)
   ·rename_i hb;rw [if_neg hb];rw [opn] at h;split at h
    ·rename_i h0;cases hbl:Op.bytesLess b.1 c with
     | true=>exact (hb ⟨h0,hbl⟩).elim
     | false=>exact hbl
    ·omega
def Srt (l:List BL):Prop:=∀i j,i<j->j<opn l->Op.bytesLess (l.getD i b0).1 (l.getD j b0).1=true
theorem VL.srt {g:LG} (h:VL g):Srt g.2.2.2.1:=fun i j hij hj=>by
 have ho:=tq g.2.2.2.1
 induction j with
 | zero=>omega
 | succ j ih =>
   have hok:=(h.2.2.2.2 (j+1) (by omega)).2;rcases hok with ⟨_,h2⟩ | ⟨h1,_⟩
   ·have h3:=h2 (by omega);rw [Nat.add_sub_cancel] at h3;by_cases e:i=j
    ·subst e;exact h3
    ·exact ZC (ih (by omega) (by omega)) h3
   ·omega
theorem Jq {c:Tx} {l:List BL} (hs:Srt l) {m:Nat} (hm:m<opn l):Op.bytesLess (l.getD m b0).1 c=true↔m<gZ c l:=by
 constructor
 ·intro h;by_cases hp:m<gZ c l
  ·exact hp
  ·exfalso;have h1:=Xw (c:=c) (l:=l) (by omega);by_cases e:m=gZ c l
   ·subst e;rw [h1] at h;cases h
   ·have:=ZC (hs _ _ (show gZ c l<m by omega) hm) h;rw [h1] at this;cases this
 ·exact Xv
def Cb (c:Tx) (l:List BL):Prop:=gZ c l<opn l/\(l.getD (gZ c l) b0).1=c
theorem ZE (l:List BL) (c:Tx) (hl:l.length<=1000000) {p:Nat} (hp:p<=l.length) (hs:∀m,m<l.length->(Op.bytesLess (l.getD m b0).1 c=true↔m<p)):jc (l,c)=some (((p:Nat):Int),decide (p<l.length/\(l.getD p b0).1=c)):=by
 rw [aoX];have hloop:∀ {δ:Type},∃r:Int ⊕ δ,ay (plB (δ:=δ) l c) ((l.length:Int),(0:Int))=some r/\r = .inl ((p:Nat):Int):=fun {δ}=>by
  refine Dp (fun x=>∃lo hi:Nat,x=(((hi:Nat):Int),((lo:Nat):Int))/\lo<=p/\p<=hi/\hi<=l.length) (fun r=>r=(.inl ((p:Nat):Int):Int ⊕ δ)) (fun x=>(x.1-x.2).toNat) (x:=(((l.length:Nat):Int),(0:Int))) (fun x hx => ?_) ⟨0,l.length,rfl,by omega,hp,Nat.le_refl _⟩;obtain ⟨lo,hi,rfl,h1,h2,h3⟩:=hx;by_cases hlt:lo<hi
  ·have hmid:∃m:Nat,IntKind.wrap .i64 (Int.fdiv (IntKind.wrap .u64 (((lo:Nat):Int)+((hi:Nat):Int))) (2:Int))=((m:Nat):Int)/\lo<=m/\m<hi:=by
    refine ⟨(lo+hi) / 2,?_,by omega,by omega⟩;rw [Dq,Int.fdiv_eq_ediv_of_nonneg _ (by omega),aj (by omega)];omega
   obtain ⟨m,hm,m1,m2⟩:=hmid;obtain ⟨x,hx,hxb⟩:=get_at b0 (show m<l.length by omega);have hsm:=hs m (by omega);rw [hx] at hsm;refine .inr ?_;unfold plB;cases hbl:Op.bytesLess x.1 c with
   | true =>
     have hmp:m<p:=hsm.1 hbl;refine ⟨(((hi:Nat):Int),(((m+1:Nat)):Int)),?_,⟨m+1,hi,rfl,by omega,h2,h3⟩,by simp only;omega⟩;simp (disch:=(first | omega | (simp only [bJ];omega))) only [↓aF,aG,if_pos,hm,↓hxb,hbl,aj,Bool.not_true,Bool.not_false];rfl
   | false =>
     have hmp:¬m<p:=fun h=>by rw [hsm.2 h] at hbl;cases hbl
     refine ⟨(((m:Nat):Int),((lo:Nat):Int)),?_,⟨lo,m,rfl,h1,by omega,by omega⟩,by simp only;omega⟩;simp (disch:=(first | omega | (simp only [bJ];omega))) only [↓aF,aG,if_pos,hm,↓hxb,hbl,aj,Bool.not_true,Bool.not_false]
  ·refine .inl ⟨_,?_,rfl⟩;obtain rfl:lo=p:=by omega
   unfold plB;simp (disch:=(first | omega | (simp only [bJ];omega))) only [↓aF,aG,if_neg]
 obtain ⟨r,hr,rfl⟩:=hloop;rw [hr];by_cases hpl:p<l.length
 ·obtain ⟨x,hx,hxb⟩:=get_at b0 hpl;rw [hx];simp (disch:=(first | omega | (simp only [bJ];omega))) only [↓aF,aG,if_pos,↓hxb];rw [Option.some.injEq,Prod.mk.injEq];exact ⟨rfl,by rw [decide_eq_decide];exact ⟨fun h=>⟨hpl,h⟩,fun h=>h.2⟩⟩
 ·simp (disch:=(first | omega | (simp only [bJ];omega))) only [↓aF,aG,if_neg];rw [decide_eq_false (fun h=>hpl h.1)]
theorem amI (g:LG) (c:Tx) (hl:g.2.2.2.1.length<=1000000) (hs:Srt g.2.2.2.1):jd (g,c)=some (((gZ c g.2.2.2.1:Nat):Int),tf (Cb c g.2.2.2.1)):=by
 have ho:=tq g.2.2.2.1;have hp:=wQ c g.2.2.2.1;rw [ao9];have hlen:(g.2.2.2.1.take (opn g.2.2.2.1)).length=opn g.2.2.2.1:=by rw [List.length_take];omega
 have h:=ZE (g.2.2.2.1.take (opn g.2.2.2.1)) c (by omega) (p:=gZ c g.2.2.2.1) (by omega) (fun m hm=>by rw [getD_take _ _ (by omega)];exact Jq hs (by omega));simp (disch:=(first | omega | (simp only [bJ];omega))) only [↓aF,aG,↓Rx _ hl,if_pos,Int.toNat_natCast];rw [h,hlen];simp only [↓aF];congr 2;unfold Cb;by_cases hq:gZ c g.2.2.2.1<opn g.2.2.2.1
 ·rw [getD_take _ _ hq];by_cases hc:(g.2.2.2.1.getD (gZ c g.2.2.2.1) b0).1=c
  ·rw [dL ⟨hq,hc⟩,decide_eq_true ⟨hq,hc⟩]
  ·rw [jP (fun k=>hc k.2),decide_eq_false (fun k=>hc k.2)]
 ·rw [jP (fun k=>hq k.1),decide_eq_false (fun k=>hq k.1)]
open Jn (be bP oO nR)
def txB (t:Tx):List Int:=t.map fun x=>((x.toNat:Nat):Int)
def tB (t:Tx):List Int:=be 2 ((t.length:Nat):Int)++txB t
def lX (ns:List Int) (ts:List Tx):List Int:=ns.flatMap (be 8)++ts.flatMap tB
theorem ZF (n:Int):∀(k m:Nat),(be (k+m) n).drop k=be m n
 | 0,m=>by rw [List.drop_zero,Nat.zero_add]
 | k+1,m=>by
   rw [show k+1+m=(k+m)+1 from by omega,oO,List.drop_succ_cons];exact ZF n k m
theorem aiq (n:Int) {k:Nat} (h:k<8):(be 8 n).take (k+1)=(be 8 n).take k++[n / 256 ^ (7-k) % 256]:=by
 have h1:=ZF n k (8-k);rw [show k+(8-k)=8 from by omega] at h1;have h2:be (8-k) n=(n / 256 ^ (7-k) % 256)::be (7-k) n:=by
  rw [show 8-k=(7-k)+1 from by omega,oO]
 rw [List.take_add_one];congr 1;have h3:(be 8 n)[k]? = ((be 8 n).drop k)[0]? := by rw [List.getElem?_drop];rfl
 rw [h3,h1,h2];rfl
theorem aqX (m:Nat):(2:Int) ^ (8*m)=256 ^ m:=by rw [Int.pow_mul];rfl
theorem air {δ:Type} (x:Int) (hx:0<=x/\x<9223372036854775808) (L:List Int) (hL:L.length<=1000000):ay (d8B (δ:=δ) x) ((56:Int),L)=some (.inl ((-8:Int),(L++be 8 x,x))):=by
 refine bG (fun k=>((56:Int)-8*((k:Nat):Int),L++(be 8 x).take k)) 8 (by simp) (fun k hk => ?_) ?_
 ·have hl:((be 8 x).take k).length=k:=by rw [List.length_take,bP];omega
  have hp:(2:Int) ^ (Min.min (Int.toNat ((56:Int)-8*((k:Nat):Int))) 64)=256 ^ (7-k):=by
   rw [show Min.min (Int.toNat ((56:Int)-8*((k:Nat):Int))) 64=8*(7-k) from by omega,aqX]
  have hpos:(0:Int)<=256 ^ (7-k):=Int.pow_nonneg (by decide);have hv:IntKind.wrap .u8 (Int.fdiv (IntKind.wrap .u64 x) ((2:Int) ^ (Min.min (Int.toNat ((56:Int)-8*((k:Nat):Int))) 64)))=x / 256 ^ (7-k) % 256:=by
   rw [hp,Dq,zh,show x % 18446744073709551616=x from by omega,Int.fdiv_eq_ediv_of_nonneg _ hpos]
  rw [aiq x hk,<-List.append_assoc];unfold d8B;simp (disch:=(first | omega | (simp only [bJ];omega))) only [↓aF,aG,if_pos,hv,aj];rw [show (56:Int)-8*((k:Nat):Int)-8=56-8*((k+1:Nat):Int) from by omega]
 ·unfold d8B;rw [List.take_of_length_le (show (be 8 x).length<=8 by rw [bP];omega)];simp (disch:=(first | omega | (simp only [bJ];omega))) only [↓aF,aG,if_neg];rfl
theorem Jr {α β:Type} (f:α->List β) (l:List α) (d:α) {i:Nat} (h:i<l.length):(l.take (i+1)).flatMap f=(l.take i).flatMap f++f (l.getD i d):=by
 rw [take_snoc l d h,List.flatMap_append,List.flatMap_singleton]
theorem EX (l:List Int):(l.flatMap (be 8)).length=8*l.length:=by
 induction l with
 | nil=>rfl
 | cons x l ih=>rw [List.flatMap_cons,List.length_append,ih,bP,List.length_cons];omega
theorem vI (t:Tx):(tB t).length=2+t.length:=by rw [tB,List.length_append,bP,txB,List.length_map]
theorem ZG {l:List Tx} (h:∀t∈l,t.length<=1000):(l.flatMap tB).length<=1002*l.length:=by
 induction l with
 | nil=>simp
 | cons x l ih =>
   rw [List.flatMap_cons,List.length_append,vI,List.length_cons];have:=ih fun t ht=>h t (List.mem_cons_of_mem _ ht);have:=h x List.mem_cons_self;omega
theorem getD_mem {α:Type} {l:List α} {d:α} {i:Nat} (h:i<l.length):l.getD i d∈l:=by
 rw [List.getD_eq_getElem?_getD,List.getElem?_eq_getElem h];exact List.getElem_mem h
def DOk (ns:List Int) (ts:List Tx):Prop:=(ns.length<=10/\∀n∈ns,0<=n/\n<9223372036854775808)/\(ts.length<=10/\∀t∈ts,t.length<=1000)
theorem be2 (n:Int):be 2 n=[n / 256 % 256,n % 256]:=by
 rw [oO,oO];simp [be]
theorem amJ {ns:List Int} {ts:List Tx} (h:DOk ns ts):fJ (ns,ts)=some (lX ns ts):=by
 obtain ⟨⟨h1,h2⟩,h3,h4⟩:=h;rw [aoY];have hn:∀ {δ:Type},ay (dnB (δ:=δ) ns) ((0:Int),([]:List Int))=some (.inl (ns.flatMap (be 8))):=fun {δ}=>by
  refine bG (fun i=>(((i:Nat):Int),(ns.take i).flatMap (be 8))) ns.length (by simp) (fun i hi => ?_) ?_
  ·obtain ⟨x,hx,hxb⟩:=get_at (0:Int) hi;have hm:=h2 _ (getD_mem (d:=(0:Int)) hi);rw [Jr (be 8) ns 0 hi];rw [hx] at hm ⊢;have hl:((ns.take i).flatMap (be 8)).length<=1000:=by rw [EX,List.length_take];omega
   generalize (ns.take i).flatMap (be 8)=L at *
   unfold dnB;simp (disch:=(first | omega | (simp only [bJ];omega))) only [↓aF,aG,if_pos,↓hxb,↓air x hm L (by omega),aj];rfl
  ·unfold dnB;simp (disch:=(first | omega | (simp only [bJ];omega))) only [↓aF,aG,if_neg]
 have ht:∀ {δ:Type} (L:List Int),L.length<=1000->ay (dtB (δ:=δ) ts) ((0:Int),L)=some (.inl (L++ts.flatMap tB)):=fun {δ} L hL=>by
  refine bG (fun i=>(((i:Nat):Int),L++(ts.take i).flatMap tB)) ts.length (by simp) (fun i hi => ?_) ?_
  ·obtain ⟨x,hx,hxb⟩:=get_at ([]:Tx) hi;have hm:=h4 _ (getD_mem (d:=([]:Tx)) hi);have hl:=ZG (l:=ts.take i) fun t ht=>h4 t (List.mem_of_mem_take ht);rw [List.length_take] at hl;rw [Jr tB ts [] hi,<-List.append_assoc];rw [hx] at hm ⊢;generalize hM:L++(ts.take i).flatMap tB=M;have hMl:M.length<=20000:=by rw [<-hM,List.length_append];omega
   have e1:IntKind.wrap .u8 (Int.fdiv (x.length:Int) (256:Int))=((x.length:Nat):Int) / 256 % 256:=by rw [zh,Int.fdiv_eq_ediv_of_nonneg _ (by decide)]
   have e2:IntKind.wrap .u8 (x.length:Int)=((x.length:Nat):Int) % 256:=by rw [zh]
   rw [tB,be2];unfold dtB;have hl2:∀f:UInt8->Int,(List.map f x).length=x.length:=fun f=>List.length_map ..;simp (disch:=first | omega | (simp only [List.length_append,List.length_cons,List.length_nil,List.length_map];omega)) only [↓aF,aG,if_pos,↓hxb,e1,e2,aj,List.append_assoc];rfl
  ·unfold dtB;simp (disch:=(first | omega | (simp only [bJ];omega))) only [↓aF,aG,if_neg]
 rw [hn];simp only [↓aF,aG];rw [ht _ (by rw [EX];omega)];simp only [↓aF,aG];rfl
end Go.Proofs.Ytkpijdndakljjaa

namespace Go.Proofs.Ytkpijdndakljjaa
open Go.RowKit
open Jn (be bP oO nR)
theorem ais (n:Int) (m:Nat) (v:Int) (L:List Int):(List.replicate (m+1) (0:Int)++L).set m v=List.replicate m 0++(v::L):=by
 rw [List.set_append];rw [if_pos (by simp)];rw [List.replicate_succ',List.set_append];rw [if_neg (by simp),List.length_replicate,Nat.sub_self,List.set_cons_zero,List.append_assoc];rfl
theorem afl (n:Int) (hn:0<=n/\n<9223372036854775808):kL n=some (be 8 n):=by
 rw [aoZ];have hloop:∀ {δ:Type},ay (nuB (δ:=δ)) ((7:Int),(n,(List.replicate 8 (0:Int))))=some (.inl (be 8 n)):=fun {δ}=>by
  refine bG (fun k=>((7:Int)-((k:Nat):Int),(n / 256 ^ k,List.replicate (8-k) (0:Int)++be k n))) 8 (by simp [be]) (fun k hk => ?_) ?_
  ·have hp:(0:Int)<256 ^ k:=Int.pow_pos (by decide);have h0:0<=n / 256 ^ k:=Int.ediv_nonneg hn.1 (Int.le_of_lt hp);have h1:n / 256 ^ k<=n:=Int.ediv_le_self _ hn.1;have hlen:(List.replicate (8-k) (0:Int)++be k n).length=8:=by rw [List.length_append,List.length_replicate,bP];omega
   have e1:Int.tdiv (n / 256 ^ k) (256:Int)=n / 256 ^ (k+1):=by rw [Int.tdiv_eq_ediv_of_nonneg h0,Int.ediv_ediv_of_nonneg (Int.le_of_lt hp),Int.pow_succ]
   have e2:Int.tmod (n / 256 ^ k) (256:Int)=n / 256 ^ k % 256:=Int.tmod_eq_emod_of_nonneg h0;have h2:n / 256 ^ (k+1)<=n:=Int.ediv_le_self _ hn.1;have h3:0<=n / 256 ^ (k+1):=Int.ediv_nonneg hn.1 (Int.le_of_lt (Int.pow_pos (by decide)));have hset:=ais n (7-k) (n / 256 ^ k % 256) (be k n);rw [show 7-k+1=8-k from by omega] at hset;have hix:Int.toNat ((7:Int)-((k:Nat):Int))=7-k:=by omega
   obtain ⟨y,hy⟩:∃y,(List.replicate (8-k) (0:Int)++be k n)[7-k]? = some y:=⟨_,List.getElem?_eq_getElem (by rw [hlen];omega)⟩
   have hw:IntKind.wrap .u8 (n / 256 ^ k % 256)=n / 256 ^ k % 256:=by rw [zh];omega
   rw [oO,show 8-(k+1)=7-k from by omega,show (7:Int)-((k+1:Nat):Int)=7-((k:Nat):Int)-1 from by omega];unfold nuB;simp only [↓aF,aG,if_pos (show (7:Int)-((k:Nat):Int)>=0 by omega),if_pos (show (0:Int)<=(7:Int)-((k:Nat):Int)/\(7:Int)-((k:Nat):Int)<8 by omega),hix,hy,e1,e2,hw,hset,aj (show -9223372036854775808<=n / 256 ^ (k+1)/\n / 256 ^ (k+1)<=9223372036854775807 by omega),aj (show -9223372036854775808<=(7:Int)-((k:Nat):Int)-1/\(7:Int)-((k:Nat):Int)-1<=9223372036854775807 by omega)]
  ·unfold nuB;simp (disch:=(first | omega | (simp only [bJ];omega))) only [↓aF,aG,if_neg];rfl
 rw [hloop];have hl:=bP 8 n;simp only [↓aF,aG,hl];rw [List.take_of_length_le (by omega)]
theorem ait {ns:List Int} {ts:List Tx} (h:DOk ns ts):cZ (ns,ts)=some (lX ns ts):=by
 obtain ⟨⟨h1,h2⟩,h3,h4⟩:=h;rw [ao0];have hn:∀ {δ:Type},ay (drB (δ:=δ) ns) ((0:Int),([]:List Int))=some (.inl (ns.flatMap (be 8))):=fun {δ}=>by
  refine bG (fun i=>(((i:Nat):Int),(ns.take i).flatMap (be 8))) ns.length (by simp) (fun i hi => ?_) ?_
  ·obtain ⟨x,hx,hxb⟩:=get_at (0:Int) hi;have hm:=h2 _ (getD_mem (d:=(0:Int)) hi);rw [Jr (be 8) ns 0 hi];rw [hx] at hm ⊢;have hl:((ns.take i).flatMap (be 8)).length<=1000:=by rw [EX,List.length_take];omega
   have hl8:=bP 8 x;generalize (ns.take i).flatMap (be 8)=L at *
   unfold drB;simp (disch:=first | omega | (simp only [List.length_append,hl8];omega)) only [↓aF,aG,if_pos,↓hxb,afl x hm,aj];rfl
  ·unfold drB;simp (disch:=(first | omega | (simp only [bJ];omega))) only [↓aF,aG,if_neg]
 have ht:∀ {δ:Type} (L:List Int),L.length<=1000->ay (trB (δ:=δ) ts) ((0:Int),L)=some (.inl (L++ts.flatMap tB)):=fun {δ} L hL=>by
  refine bG (fun i=>(((i:Nat):Int),L++(ts.take i).flatMap tB)) ts.length (by simp) (fun i hi => ?_) ?_
  ·obtain ⟨x,hx,hxb⟩:=get_at ([]:Tx) hi;have hm:=h4 _ (getD_mem (d:=([]:Tx)) hi);have hl:=ZG (l:=ts.take i) fun t ht=>h4 t (List.mem_of_mem_take ht);rw [List.length_take] at hl;rw [Jr tB ts [] hi,<-List.append_assoc];rw [hx] at hm ⊢;generalize hM:L++(ts.take i).flatMap tB=M;have hMl:M.length<=20000:=by rw [<-hM,List.length_append];omega
   have e1:IntKind.wrap .u8 (IntKind.wrap .i64 (Int.tdiv (x.length:Int) (256:Int)))=((x.length:Nat):Int) / 256 % 256:=by
    rw [Int.tdiv_eq_ediv_of_nonneg (by omega),aj (by omega),zh]
   have e2:IntKind.wrap .u8 (Int.tmod (x.length:Int) (256:Int))=((x.length:Nat):Int) % 256:=by
    rw [Int.tmod_eq_emod_of_nonneg (by omega),zh];omega
   rw [tB,be2];unfold trB;simp (disch:=first | omega | (simp only [List.length_append,List.length_cons,List.length_nil,List.length_map];omega)) only [↓aF,aG,if_pos,↓hxb,e1,e2,aj,List.append_assoc];rfl
  ·unfold trB;simp (disch:=(first | omega | (simp only [bJ];omega))) only [↓aF,aG,if_neg]
 rw [hn];simp only [↓aF,aG];rw [ht _ (by rw [EX];omega)];simp only [↓aF,aG];rfl
theorem afm (t:Tx):Bytes (txB t):=fun x hx=>by
 rw [txB,List.mem_map] at hx;obtain ⟨y,_,rfl⟩:=hx;have:=y.toNat_lt;omega
theorem MR {α:Type} (f:α->List Int) (h:∀a,Bytes (f a)):∀l:List α,Bytes (l.flatMap f)
 | []=>fun x hx=>by cases hx
 | a::l=>by rw [List.flatMap_cons];exact (h a).app (MR f h l)
theorem iV (ns:List Int) (ts:List Tx):Bytes (lX ns ts):=(MR _ (nR 8) ns).app (MR _ (fun t=>(nR 2 _).app (afm t)) ts)
theorem iJ (ns:List Int) (ts:List Tx):(lX ns ts).length=8*ns.length+(ts.flatMap tB).length:=by rw [lX,List.length_append,EX]
def aph (lg:List Int×(Int×Int)) (k:Int) (d:List Int):List Int×(Int×Int):=(lg.1++Jn.jU lg.2.2 k d,(lg.2.1,lg.2.2+1))
def U7 (lg:List Int×(Int×Int)):Prop:=lg.1.length<=900000/\(0<=lg.2.1/\lg.2.1<=(lg.1.length:Int))/\(0<=lg.2.2/\lg.2.2<1048576)
theorem aiu {lg:List Int×(Int×Int)} {k:Int} {d:List Int} (h:U7 lg) (hk:0<=k/\k<=255) (hd:Bytes d) (hl:d.length<=4096):bY (lg,(k,d))=some (aph lg k d,0):=by
 obtain ⟨B,s,n⟩:=lg;obtain ⟨h1,h2,h3⟩:=h;simp only at h1 h2 h3;unfold bY;simp (disch:=(first | omega | (simp only [bJ];omega))) only [↓aF,aG,if_neg,↓Jn.aff B s n k d h1 h2 h3 ⟨hk,hd,hl⟩];rfl
theorem Xx {lg:List Int×(Int×Int)} {k:Int} {d:List Int} (h:lg.2.2>=1048576):bY (lg,(k,d))=some (([],(0,0)),10):=by
 obtain ⟨B,s,n⟩:=lg;unfold bY;simp (disch:=(first | omega | (simp only [bJ];omega))) only [↓aF,aG,if_pos]
theorem amK {lg:List Int×(Int×Int)} {k:Int} {d:List Int} (h:U7 lg) (hk:0<=k/\k<=255) (hd:Bytes d) (hl:d.length<=4096):jk (lg,(k,d))=some (aph lg k d,0):=by
 obtain ⟨B,s,n⟩:=lg;obtain ⟨h1,h2,h3⟩:=h;simp only at h1 h2 h3;have he:Jn.encS n k d=(Jn.jU n k d,0):=by
  unfold Jn.encS;rw [if_neg (by omega),if_neg (by omega),if_neg (by omega)]
 have hen:=Jn.afa n k d (by omega) hk hd;rw [he] at hen;have lB:=Jn.fE n k d;unfold jk;simp (disch:=(first | omega | (simp only [bJ];omega))) only [↓aF,aG,↓MQ,decide_true,hen,if_pos,if_neg,ne_eq,not_true_eq_false,decide_false,aj];rfl
end Go.Proofs.Ytkpijdndakljjaa

set_option maxHeartbeats 4000000
namespace Go.Proofs.Ytkpijdndakljjaa
open Go.RowKit
theorem Xy {β:Type} {B:List Int} {s n k:Int} {d:List Int} (h:U7 (B,(s,n))) (hk:0<=k/\k<=255) (hd:Bytes d) (hl:d.length<=4096) (f:(List Int×(Int×Int))×Int->Option β):ah (bY ((B,(s,n)),(k,d))) f=f ((B++Jn.jU n k d,(s,n+1)),0):=by rw [aiu h hk hd hl];rfl
theorem Xz {β:Type} {B:List Int} {s n k:Int} {d:List Int} (h:n>=1048576) (f:(List Int×(Int×Int))×Int->Option β):ah (bY ((B,(s,n)),(k,d))) f=f (([],(0,0)),10):=by rw [Xx (lg:=(B,(s,n))) h];rfl
theorem apj {β:Type} {B:List Int} {s n k:Int} {d:List Int} (h:U7 (B,(s,n))) (hk:0<=k/\k<=255) (hd:Bytes d) (hl:d.length<=4096) (f:(List Int×(Int×Int))×Int->Option β):ah (jk ((B,(s,n)),(k,d))) f=f ((B++Jn.jU n k d,(s,n+1)),0):=by rw [amK h hk hd hl];rfl
theorem qx {β:Type} {ns:List Int} {ts:List Tx} (h:DOk ns ts) (f:List Int->Option β):ah (fJ (ns,ts)) f=f (lX ns ts):=by rw [amJ h];rfl
theorem aiv {β:Type} {ns:List Int} {ts:List Tx} (h:DOk ns ts) (f:List Int->Option β):ah (cZ (ns,ts)) f=f (lX ns ts):=by rw [ait h];rfl
theorem oP {α β:Type} {l:List α} (h:l.length<=1000000) (f:List α->Option β):ah (jZ l) f=f l:=by
 unfold jZ;rw [decide_eq_true h];rfl
theorem ajO {α β:Type} {l:List α} {p:Nat} {v:α} (h:l.length<=1000000) (hp:p<=l.length) (f:List α->Option β):ah (Q5 (l,(((p:Nat):Int),[v]))) f=f (l.take p++[v]++l.drop p):=by
 unfold Q5;simp only [aO];rw [if_pos h,if_pos (by omega),if_pos (show [v].length=1 from rfl),Int.toNat_natCast];rfl
theorem afn {α β:Type} {l:List α} {p:Nat} {j:Int} (h:l.length<=1000000) (hp:p<l.length) (hj:j=((p:Nat):Int)+1) (f:List α->Option β):ah (N7 (l,(((p:Nat):Int),j))) f=f (l.take p++l.drop (p+1)):=by
 unfold N7;simp only [aO];rw [if_pos h,if_pos (by omega),if_pos hj,Int.toNat_natCast];rfl
theorem ZH {β:Type} (t:Int) (a b c:Tx) (f:BL->Option β):ah (oL (t,(a,(b,c)))) f=f (a,(b,(c,(t,(-1,(t,(0,(0,(0,false))))))))):=rfl
theorem tu {β:Type} (g:LG) (c:Tx) (hl:g.2.2.2.1.length<=1000000) (hs:Srt g.2.2.2.1) (f:Int×Bool->Option β):ah (jd (g,c)) f=f (((gZ c g.2.2.2.1:Nat):Int),tf (Cb c g.2.2.2.1)):=by rw [amI g c hl hs];rfl
theorem afo {β:Type} (g:LG) (f:Bool->Option β):ah (lJ g) f=f (decide (g.2.2.1>=1048576)):=by rw [apd];rfl
def Tm (g:LG) (n:Int):Prop:=VL g/\g.2.2.2.2.2<=n/\n<=1099511627776
def zG:LG:=([],(0,(0,([],(0,0)))))
def bgn (b:BL):BL:=(b.1,(b.2.1,(b.2.2.1,(b.2.2.2.1,(-1,(b.2.2.2.1,(0,(0,(0,false)))))))))
def Aw (l:List BL) (b:BL):List BL:=l.take (gZ b.1 l)++[b]++l.drop (gZ b.1 l)
def BA (g:LG) (b:BL):Prop:=Tm g b.2.2.2.1/\(1<=b.1.length/\b.1.length<=200/\b.2.1.length<=200/\b.2.2.1.length<=200)
def dB (b:BL):List Int:=lX [b.2.2.2.1] [b.1,b.2.1,b.2.2.1]
open Classical in
def RF (g:LG) (b:BL):LG×Int :=
 if BA g b then (if Cb b.1 g.2.2.2.1 then (zG,7) else if opn g.2.2.2.1>=256\/g.2.2.1>=1048576 then (zG,10) else
  ((g.1++Jn.jU g.2.2.1 1 (dB b),(g.2.1,(g.2.2.1+1,(Aw g.2.2.2.1 (bgn b),(g.2.2.2.2.1,b.2.2.2.1))))),0)) else (zG,2)
theorem VL.lg {g:LG} (h:VL g) (hB:g.1.length<=900000) (hc:g.2.2.1<1048576):U7 (g.1,(g.2.1,g.2.2.1)):=⟨hB,⟨h.1.1,h.1.2.1⟩,⟨h.1.2.2.1,hc⟩⟩
theorem apk {g:LG} {b:BL} (h:BA g b):DOk [b.2.2.2.1] [b.1,b.2.1,b.2.2.1]/\(dB b).length<=4096:=by
 obtain ⟨⟨hv,h1,h2⟩,h3⟩:=h;have h0:=hv.2.1;refine ⟨⟨⟨by simp,fun n hn => ?_⟩,by simp,fun t ht => ?_⟩,?_⟩
 ·rw [List.mem_singleton] at hn;subst hn;omega
 ·simp only [List.mem_cons,List.not_mem_nil,or_false] at ht;rcases ht with rfl | rfl | rfl<;>omega
 ·rw [dB,iJ];simp only [List.flatMap_cons,List.flatMap_nil,List.length_append,vI,List.length_cons,List.length_nil];omega
theorem ZI (g:LG) (b:BL) (hl:g.2.2.2.1.length<=1000000) (hB:g.1.length<=900000):mJ (g,b)=some (RF g b):=by
 have ho:=tq g.2.2.2.1;rw [apa];unfold RF;by_cases h:BA g b
 ·rw [if_pos h];have hd:=apk h;obtain ⟨⟨hv,t1,t2⟩,l1,l2,l3,l4⟩:=h;have hs:=hv.srt;have hp:=wQ b.1 g.2.2.2.1;by_cases hf:Cb b.1 g.2.2.2.1
  ·rw [if_pos hf];simp (disch:=(first | omega | (simp only [bJ];omega))) only [↓aF,aG,↓(oq g hl).b,dL hv,↓jC,if_pos,if_neg,↓tu g b.1 hl hs,dL hf];rfl
  ·rw [if_neg hf];by_cases hfull:opn g.2.2.2.1>=256\/g.2.2.1>=1048576
   ·rw [if_pos hfull];by_cases ho6:opn g.2.2.2.1>=256
    ·simp (disch:=(first | omega | (simp only [bJ];omega))) only [↓aF,aG,↓(oq g hl).b,dL hv,↓jC,if_pos,if_neg,↓tu g b.1 hl hs,jP hf,↓Rx _ hl];rfl
    ·have hc:g.2.2.1>=1048576:=by omega
     simp (disch:=(first | omega | (simp only [bJ];omega))) only [↓aF,aG,↓(oq g hl).b,dL hv,↓jC,if_pos,if_neg,↓tu g b.1 hl hs,jP hf,↓Rx _ hl,↓qx hd.1,↓Xz hc];rfl
   ·rw [if_neg hfull];have hlg:=hv.lg hB (by omega);simp (disch:=(first | omega | (simp only [bJ];omega))) only [↓aF,aG,↓(oq g hl).b,dL hv,↓jC,if_pos,if_neg,↓tu g b.1 hl hs,jP hf,↓Rx _ hl,↓qx hd.1,↓Xy hlg (show (0:Int)<=1/\(1:Int)<=255 by omega) (iV _ _) hd.2,↓oP hl,↓ZH,↓ajO hl (show gZ b.1 g.2.2.2.1<=g.2.2.2.1.length by omega),decide_true,Bool.and_true,Bool.true_and];rfl
 ·rw [if_neg h];by_cases hv:VL g
  ·have h0:=hv.2.1;by_cases h1:g.2.2.2.2.2<=b.2.2.2.1/\b.2.2.2.1<=1099511627776
   ·by_cases h2:1<=b.1.length/\b.1.length<=200
    ·by_cases h3:b.2.1.length<=200
     ·by_cases h4:b.2.2.1.length<=200
      ·exact (h ⟨⟨hv,h1⟩,h2.1,h2.2,h3,h4⟩).elim
      ·simp (disch:=(first | omega | (simp only [bJ];omega))) only [↓aF,aG,↓(oq g hl).b,dL hv,↓jC,if_pos,if_neg];rfl
     ·simp (disch:=(first | omega | (simp only [bJ];omega))) only [↓aF,aG,↓(oq g hl).b,dL hv,↓jC,if_pos,if_neg];rfl
    ·simp (disch:=(first | omega | (simp only [bJ];omega))) only [↓aF,aG,↓(oq g hl).b,dL hv,↓jC,if_pos,if_neg];rfl
   ·simp (disch:=(first | omega | (simp only [bJ];omega))) only [↓aF,aG,↓(oq g hl).b,dL hv,↓jC,if_neg,h1,decide_false];rfl
  ·simp only [↓aF,aG,↓(oq g hl).b,jP hv];rfl
theorem jV {l r:List BL} {i:Nat} (h:i<l.length):(l++r).getD i b0=l.getD i b0:=by
 rw [List.getD_eq_getElem?_getD,List.getD_eq_getElem?_getD,List.getElem?_append_left h]
def atG (g:LG) (bs:List BL) (last t:Int):LG:=(g.1,(g.2.1,(g.2.2.1,(bs,(last,dM g.2.2.2.2.2 t)))))
def tch (k t:Int) (x:BL):BL:=(x.1,(x.2.1,(x.2.2.1,(x.2.2.2.1,(if k=2 then t else x.2.2.2.2.1,(t,x.2.2.2.2.2.2))))))
theorem amL {β:Type} {g:LG} {a:AC} {bs:List BL} {last t k:Int} {d:List Int} (he:jl (g,a)=some (atG g bs last t,true)) (hr:xO a=some (k,d)) (hlg:U7 (g.1,(g.2.1,g.2.2.1))) (hk:0<=k/\k<=255) (hd:Bytes d) (hl:d.length<=4096) (f:LG->Option β) :
 ah (lK (g,a)) f=f (g.1++Jn.jU g.2.2.1 k d,(g.2.1,(g.2.2.1+1,(bs,(last,dM g.2.2.2.2.2 t))))):=by
 rw [apf,he,hr];unfold atG;simp only [↓aF,aG,↓apj hlg hk hd hl]
theorem BA.len {g:LG} {b:BL} (h:BA g b):b.1≠[]:=fun e=>by have:=h.2.1;rw [e] at this;simp at this
open Classical in
def GR (g:LG) (k:Int) (c:Tx) (t:Int):LG×Int :=
 if Tm g t then (if Cb c g.2.2.2.1 then (if k=2/\(g.2.2.2.1.getD (gZ c g.2.2.2.1) b0).2.2.2.2.1 ≠ -1 then (zG,9) else if g.2.2.1>=1048576 then (zG,10) else
  ((g.1++Jn.jU g.2.2.1 k (lX [t] [c]),(g.2.1,(g.2.2.1+1,(g.2.2.2.1.set (gZ c g.2.2.2.1) (tch k t (g.2.2.2.1.getD (gZ c g.2.2.2.1) b0)),(g.2.2.2.2.1,t))))),0)) else (zG,8)) else (zG,2)
theorem VL.at {g:LG} (h:VL g) {i:Nat} (hi:i<g.2.2.2.1.length):BK g.2.2.2.2.2 (g.2.2.2.1.getD i b0):=(h.2.2.2.2 i hi).1
theorem U8 {β:Type} {l:List BL} {p:Nat} {A:BL} (h:p<l.length) (f:BL->Option β):ah (List.set l p A)[p]? f=f A:=by
 rw [List.getElem?_set_self h];rfl
theorem aqY {g:LG} {t:Int} {c:Tx} (h:Tm g t) (hc:c.length<=200):DOk [t] [c]/\(lX [t] [c]).length<=4096:=by
 have h0:=h.1.2.1;have h1:=h.2;refine ⟨⟨⟨by simp,fun n hn => ?_⟩,by simp,fun t ht => ?_⟩,?_⟩
 ·rw [List.mem_singleton] at hn;subst hn;omega
 ·rw [List.mem_singleton] at ht;subst ht;omega
 ·rw [iJ];simp only [List.flatMap_cons,List.flatMap_nil,List.length_append,vI,List.length_cons,List.length_nil];omega
theorem ZJ (g:LG) (k:Int) (c:Tx) (t:Int) (hk:k=2\/k=3) (hl:g.2.2.2.1.length<=1000000) (hB:g.1.length<=900000):kQ (g,(k,(c,t)))=some (GR g k c t):=by
 have ho:=tq g.2.2.2.1;rw [to_eq];unfold GR;by_cases htm:Tm g t
 ·rw [if_pos htm];have hv:=htm.1;have ht:=htm.2;have hs:=hv.srt;by_cases hf:Cb c g.2.2.2.1
  ·rw [if_pos hf];have hlt:gZ c g.2.2.2.1<g.2.2.2.1.length:=by have:=hf.1;omega
   have hb:=hv.at hlt;have hxc:=hf.2;obtain ⟨x,hx,hxb⟩:=get_at b0 hlt;rw [hx] at hb hxc ⊢;rw [Int.toNat_natCast] at hxb;have hcl:c.length<=200:=by rw [<-hxc];exact hb.1.2.1
   have hd:=aqY htm hcl;by_cases ha:k=2/\x.2.2.2.2.1 ≠ -1
   ·rw [if_pos ha];obtain ⟨rfl,ha⟩:=ha;simp (disch:=(first | omega | (simp only [bJ];omega))) only [↓aF,aG,↓(oq g hl).b,dL hv,↓jC,if_pos,if_neg,↓tu g c hl hs,dL hf,Int.toNat_natCast,↓hxb];rfl
   ·rw [if_neg ha];by_cases hc:g.2.2.1>=1048576
    ·rw [if_pos hc];rcases hk with rfl | rfl
     ·have ha':¬x.2.2.2.2.1 ≠ -1:=fun h=>ha ⟨rfl,h⟩;simp (disch:=(first | omega | (simp only [bJ];omega))) only [↓aF,aG,↓(oq g hl).b,dL hv,↓jC,if_pos,if_neg,↓tu g c hl hs,dL hf,Int.toNat_natCast,↓hxb,↓qx hd.1,↓Xz hc];rfl
     ·simp (disch:=(first | omega | (simp only [bJ];omega))) only [↓aF,aG,↓(oq g hl).b,dL hv,↓jC,if_pos,if_neg,↓tu g c hl hs,dL hf,Int.toNat_natCast,↓hxb,↓qx hd.1,↓Xz hc];rfl
    ·rw [if_neg hc];have hlg:=hv.lg hB (by omega);rcases hk with rfl | rfl
     ·have ha':¬x.2.2.2.2.1 ≠ -1:=fun h=>ha ⟨rfl,h⟩;simp (disch:=first | omega | (simp only [bJ];omega)) only [↓aF,aG,↓(oq g hl).b,dL hv,↓jC,if_pos,if_neg,↓tu g c hl hs,dL hf,Int.toNat_natCast,↓hxb,↓qx hd.1,↓Xy hlg (show (0:Int)<=2/\(2:Int)<=255 by omega) (iV _ _) hd.2,↓oP hl,↓U8 hlt,List.set_set];rw [List.take_of_length_le (by simp)];rfl
     ·simp (disch:=first | omega | (simp only [bJ];omega)) only [↓aF,aG,↓(oq g hl).b,dL hv,↓jC,if_pos,if_neg,↓tu g c hl hs,dL hf,Int.toNat_natCast,↓hxb,↓qx hd.1,↓Xy hlg (show (0:Int)<=3/\(3:Int)<=255 by omega) (iV _ _) hd.2,↓oP hl,↓U8 hlt,List.set_set];rw [List.take_of_length_le (by simp)];rfl
  ·rw [if_neg hf];simp (disch:=(first | omega | (simp only [bJ];omega))) only [↓aF,aG,↓(oq g hl).b,dL hv,↓jC,if_pos,if_neg,↓tu g c hl hs,jP hf];rfl
 ·rw [if_neg htm];by_cases hv:VL g
  ·have h1:¬(g.2.2.2.2.2<=t/\t<=1099511627776):=fun h=>htm ⟨hv,h⟩;simp (disch:=(first | omega | (simp only [bJ];omega))) only [↓aF,aG,↓(oq g hl).b,dL hv,↓jC,if_neg,h1,decide_false];rfl
  ·simp only [↓aF,aG,↓(oq g hl).b,jP hv];rfl
namespace Rt
theorem apl {r:Ra} {f a s:Int} (h:RV r) (hf:0<=f/\f<=3600) (ha:0<=a/\a<=281474976710656) (hs:0<=s/\s<=1000000):0<=CV r f a s/\CV r f a s<=1000000000*(s+1):=by
 have hfi:=h.1.2.2.1;have hst:=h.1.2.2.2;have hn:=Zr (f:=f) (fi:=r.2.2.1) (s:=s) hst.1;have hle:=Zt (st:=r.2.2.2.1) hst.1 hf.1 hfi.1 hs.1;unfold CV;split
 ·omega
 ·have:=Zv h.2.2 h.1.2.1 (n:=(PN f r.2.2.1 r.2.2.2.1 s).toNat) (mo:=MO a f r.2.2.1 r.2.2.2.1) (fun k hk=>by have:=Zw ha hf hfi hst (k:=k) (by omega);omega);omega
theorem aiw (l:List Ra) (f:Int) (num:List UInt8) (a b:Int):∃c e,bT ((l,f),(num,(a,b)))=some (c,e)/\gK ((l,f),(num,(a,b)))=some (c,e)/\(0<=c/\c<=2000000000000000):=by
 obtain ⟨⟨c,e⟩,h1,h2⟩:=abP l f num a b;refine ⟨c,e,h1,h2,?_⟩;have z:∀q:Int,bT ((l,f),(num,(a,b)))=some (0,q)->0<=c/\c<=2000000000000000:=fun q hq=>by
  rw [h1] at hq;cases hq;omega
 by_cases hv:TV l f
 ·by_cases hs:Spn a b
  ·by_cases hq:SE a b<=1000000
   ·obtain ⟨r,e1,e2,k1,_⟩:=GI l f num;rcases k1 hv with ⟨rfl,_⟩ | ⟨i,hi,rfl,_⟩
    ·have w1:0<=a/\a<=281474976710656:=⟨hs.1,Int.le_trans hs.2.1 hs.2.2⟩
     have w2:a<=b/\b<=281474976710656:=hs.2;refine z 8 ?_;unfold bT;simp (disch:=omega) only [↓aF,aG,jB hv,iC,w1,w2,and_self,decide_true,qW,if_neg,e1]
    ·have w1:0<=a/\a<=281474976710656:=⟨hs.1,Int.le_trans hs.2.1 hs.2.2⟩
     have hp:=Rj hv hs hq hi e1;rw [h1] at hp;have hb:=apl (hv.2 i hi).1 hv.1.2 w1 ⟨(MB a b).1,hq⟩;simp only [Option.some.injEq,Prod.mk.injEq] at hp;rw [hp.1];omega
   ·have w1:0<=a/\a<=281474976710656:=⟨hs.1,Int.le_trans hs.2.1 hs.2.2⟩
    have w2:a<=b/\b<=281474976710656:=hs.2;refine z 4 ?_;unfold bT;simp (disch:=omega) only [↓aF,aG,jB hv,iC,w1,w2,and_self,decide_true,qW,if_pos]
  ·refine z 3 ?_;unfold bT;by_cases w1:0<=a/\a<=281474976710656
   ·have w2:¬(a<=b/\b<=281474976710656):=fun k=>hs ⟨w1.1,k⟩;simp (disch:=omega) only [↓aF,aG,jB hv,iC,w1,w2,and_self,decide_true,decide_false]
   ·simp (disch:=omega) only [↓aF,aG,jB hv,iC,w1,decide_false]
 ·refine z 2 ?_;unfold bT;simp only [↓aF,aG,Aq hv]
end Rt
def Vr (rs:List Ra) (fr:Int) (num:Tx) (a b:Int):Int:=match bT ((rs,fr),(num,(a,b))) with | some (c,e)=>if e=0 then c else 0 | none=>0
theorem RG (rs:List Ra) (fr:Int) (num:Tx) (a b:Int):∃c e,bT ((rs,fr),(num,(a,b)))=some (c,e)/\gK ((rs,fr),(num,(a,b)))=some (c,e)/\Vr rs fr num a b=(if e=0 then c else 0)/\(0<=Vr rs fr num a b/\Vr rs fr num a b<=2000000000000000):=by
 obtain ⟨c,e,h1,h2,h3⟩:=Rt.aiw rs fr num a b;have h4:Vr rs fr num a b=(if e=0 then c else 0):=by unfold Vr;rw [h1]
 refine ⟨c,e,h1,h2,h4,?_⟩;rw [h4];split<;>omega
theorem U9 {l:List BL} (hs:Srt l) {p:Nat} (hp:p<opn l):gZ (l.getD p b0).1 l=p/\Cb (l.getD p b0).1 l:=by
 have h1:=Jq (c:=(l.getD p b0).1) hs hp;have h2:=wQ (l.getD p b0).1 l;rw [Rz] at h1;have h3:gZ (l.getD p b0).1 l=p:=by
  by_cases h4:gZ (l.getD p b0).1 l<p
  ·have h5:=(Jq (c:=(l.getD p b0).1) hs (show gZ (l.getD p b0).1 l<opn l by omega)).1 (hs _ _ h4 hp);omega
  ·have h5:¬p<gZ (l.getD p b0).1 l:=fun h=>by have:=h1.2 h;cases this
   omega
 exact ⟨h3,by omega,by rw [h3]⟩
def iH (l:List BL) (p:Nat):List BL:=l.take p++l.drop (p+1)
theorem RH {l:List BL} {p:Nat} (h:p<l.length):(iH l p).length+1=l.length:=by
 rw [iH,List.length_append,List.length_take,List.length_drop];omega
def rcd (x:BL) (t n s co:Int):BL:=(x.1,(x.2.1,(x.2.2.1,(x.2.2.2.1,(x.2.2.2.2.1,(t,(n,(s,(co,x.2.2.2.2.2.2.2.2.2)))))))))
def Opb (x:BL):Prop:=(x.2.2.2.2.2.2.1=0/\x.2.2.2.2.2.2.2.1=0/\x.2.2.2.2.2.2.2.2.1=0)/\(x.2.2.2.2.1 = -1\/0<=x.2.2.2.2.1)/\x.1.length<=200
def nmF (rs:List Ra) (fr:Int) (last:Int) (x:BL) (t:Int):Int×(Int×Int):=if x.2.2.2.2.1 ≠ -1 then (last+1,(Rt.SE x.2.2.2.2.1 t,Vr rs fr x.2.2.1 x.2.2.2.2.1 t)) else (0,(0,0))
def dE (rs:List Ra) (fr:Int) (last:Int) (x:BL) (t:Int):List Int:=lX [t,(nmF rs fr last x t).1,(nmF rs fr last x t).2.1,(nmF rs fr last x t).2.2] [x.1]
def ZK (rs:List Ra) (fr:Int) (l:List BL) (last:Int) (p:Nat) (t:Int):List BL:=if (l.getD p b0).2.2.2.2.1 ≠ -1 then iH l p++[rcd (l.getD p b0) t (last+1) (Rt.SE (l.getD p b0).2.2.2.2.1 t) (Vr rs fr (l.getD p b0).2.2.1 (l.getD p b0).2.2.2.2.1 t)] else iH l p
def laF (l:List BL) (last:Int) (p:Nat):Int:=if (l.getD p b0).2.2.2.2.1 ≠ -1 then last+1 else last
open Classical in
def tC (rs:List Ra) (fr:Int) (g:LG) (p:Nat) (t now:Int):LG×Int :=
 if ((g.2.2.2.1.getD p b0).2.2.2.2.1 ≠ -1/\g.2.2.2.2.1>=1048576)\/g.2.2.1>=1048576 then (zG,10) else
  ((g.1++Jn.jU g.2.2.1 4 (dE rs fr g.2.2.2.2.1 (g.2.2.2.1.getD p b0) t),(g.2.1,(g.2.2.1+1,(ZK rs fr g.2.2.2.1 g.2.2.2.2.1 p t,(laF g.2.2.2.1 g.2.2.2.2.1 p,now))))),0)
theorem apm (rs:List Ra) (fr:Int) {last:Int} {x:BL} {t:Int} (h5:0<=last/\last<=1048576) (hx:Opb x) (ht:0<=t/\t<=1099511627776):DOk [t,(nmF rs fr last x t).1,(nmF rs fr last x t).2.1,(nmF rs fr last x t).2.2] [x.1]/\(dE rs fr last x t).length<=4096:=by
 obtain ⟨c,e,_,_,_,h6⟩:=RG rs fr x.2.2.1 x.2.2.2.2.1 t;have h7:=Rt.MB x.2.2.2.2.1 t;have h8:=hx.2.2;refine ⟨⟨⟨by simp,fun n hn => ?_⟩,by simp,fun t ht => ?_⟩,?_⟩
 ·unfold nmF at hn;simp only [List.mem_cons,List.not_mem_nil,or_false] at hn;split at hn<;>simp only at hn<;>omega
 ·rw [List.mem_singleton] at ht;subst ht;omega
 ·rw [dE,iJ];simp only [List.flatMap_cons,List.flatMap_nil,List.length_append,vI,List.length_cons,List.length_nil];omega
theorem ajQ (rs:List Ra) (fr:Int) (g:LG) {p:Nat} (t:Int) (hp:p<g.2.2.2.1.length) (hl:g.2.2.2.1.length<=1000000) (hB:g.1.length<=900000) (h1:0<=g.2.1/\g.2.1<=(g.1.length:Int)) (h2:0<=g.2.2.1) (h5:0<=g.2.2.2.2.1/\g.2.2.2.2.1<=1048576) (hx:Opb (g.2.2.2.1.getD p b0)) (ht:0<=t/\t<=1099511627776) :
 ji (g,((rs,fr),(((p:Nat):Int),t)))=some (tC rs fr g p t g.2.2.2.2.2):=by
 rw [amD];unfold tC;have hd:=apm rs fr h5 hx ht;have hrl:=RH hp;unfold ZK laF;obtain ⟨x,hxx,hxb⟩:=get_at b0 hp;rw [hxx] at hx hd ⊢;rw [Int.toNat_natCast] at hxb;obtain ⟨c,e,c1,c2,c3,c4⟩:=RG rs fr x.2.2.1 x.2.2.2.2.1 t;have hC:∀ {β:Type} (f:Int×Int->Option β),ah (bT ((rs,fr),(x.2.2.1,(x.2.2.2.2.1,t)))) f=f (c,e):=fun f=>by rw [c1];rfl
 have hD:=fun {β:Type} (f:List BL->Option β)=>afn (l:=g.2.2.2.1) (p:=p) (j:=((p:Nat):Int)+1) hl hp rfl f;have hrst:g.2.2.2.1.take p++g.2.2.2.1.drop (p+1)=iH g.2.2.2.1 p:=rfl;have hlast:IntKind.wrap .i64 (g.2.2.2.2.1+(1:Int))=g.2.2.2.2.1+1:=aj (by omega);have hpw:IntKind.wrap .i64 (((p:Nat):Int)+(1:Int))=((p:Nat):Int)+1:=aj (by omega);unfold dE at hd;unfold dE;by_cases ha:x.2.2.2.2.1 ≠ -1
 ·have hnm:nmF rs fr g.2.2.2.2.1 x t=(g.2.2.2.2.1+1,(Rt.SE x.2.2.2.2.1 t,Vr rs fr x.2.2.1 x.2.2.2.2.1 t)):=if_pos ha;rw [hnm] at hd ⊢;simp only at hd;by_cases hq:g.2.2.2.2.1>=1048576
  ·rw [if_pos (.inl ⟨ha,hq⟩)];simp (disch:=(first | omega | (simp only [bJ];omega))) only [↓aF,aG,if_pos,Int.toNat_natCast,↓hxb,↓oP hl,hpw,↓hD];rfl
  ·by_cases hc:g.2.2.1>=1048576
   ·rw [if_pos (.inr hc)];by_cases he:e=0
    ·rw [if_pos he] at c3;rw [c3] at hd;simp (disch:=(first | omega | (simp only [bJ];omega))) only [↓aF,aG,if_pos,if_neg,Int.toNat_natCast,↓hxb,↓oP hl,hpw,↓hD,hrst,hlast,↓IQ,↓hC,he,↓qx hd.1,↓Xz hc];rfl
    ·rw [if_neg he] at c3;rw [c3] at hd;have hz:=hx.1.2.2;simp (disch:=(first | omega | (simp only [bJ];omega))) only [↓aF,aG,if_pos,if_neg,hz,Int.toNat_natCast,↓hxb,↓oP hl,hpw,↓hD,hrst,hlast,↓IQ,↓hC,he,↓qx hd.1,↓Xz hc];rfl
   ·rw [if_neg (by omega),if_pos ha,if_pos ha];have hlg:U7 (g.1,(g.2.1,g.2.2.1)):=⟨hB,h1,h2,show g.2.2.1<1048576 by omega⟩
    by_cases he:e=0
    ·rw [if_pos he] at c3;rw [c3] at hd ⊢;simp (disch:=(first | omega | (simp only [bJ];omega))) only [↓aF,aG,if_pos,if_neg,Int.toNat_natCast,↓hxb,↓oP hl,hpw,↓hD,hrst,hlast,↓IQ,↓hC,he,↓qx hd.1,↓Xy hlg (show (0:Int)<=4/\(4:Int)<=255 by omega) (iV _ _) hd.2];rfl
    ·rw [if_neg he] at c3;rw [c3] at hd ⊢;have hz:=hx.1.2.2;simp (disch:=(first | omega | (simp only [bJ];omega))) only [↓aF,aG,if_pos,if_neg,hz,Int.toNat_natCast,↓hxb,↓oP hl,hpw,↓hD,hrst,hlast,↓IQ,↓hC,he,↓qx hd.1,↓Xy hlg (show (0:Int)<=4/\(4:Int)<=255 by omega) (iV _ _) hd.2];rfl
 ·have hnm:nmF rs fr g.2.2.2.2.1 x t=(0,(0,0)):=if_neg ha;rw [hnm] at hd ⊢;simp only at hd;have hz:=hx.1;by_cases hc:g.2.2.1>=1048576
  ·rw [if_pos (.inr hc)];simp (disch:=(first | omega | (simp only [bJ];omega))) only [↓aF,aG,if_pos,if_neg,Int.toNat_natCast,↓hxb,↓oP hl,hpw,↓hD,hrst,hz.1,hz.2.1,hz.2.2,↓qx hd.1,↓Xz hc];rfl
  ·rw [if_neg (by omega),if_neg ha,if_neg ha];have hlg:U7 (g.1,(g.2.1,g.2.2.1)):=⟨hB,h1,h2,show g.2.2.1<1048576 by omega⟩
   simp (disch:=(first | omega | (simp only [bJ];omega))) only [↓aF,aG,if_pos,if_neg,Int.toNat_natCast,↓hxb,↓oP hl,hpw,↓hD,hrst,hz.1,hz.2.1,hz.2.2,↓qx hd.1,↓Xy hlg (show (0:Int)<=4/\(4:Int)<=255 by omega) (iV _ _) hd.2]
end Go.Proofs.Ytkpijdndakljjaa
end
