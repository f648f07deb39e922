import Derived.Test.YtigfeinnobfflaaGreatZ17p
set_option linter.unusedSimpArgs false
set_option linter.unusedVariables false
set_option maxRecDepth 100000
set_option maxHeartbeats 4000000
namespace Go.Proofs.YtigfeinnobfflaaGreat
open Go.RowKit
theorem aaO {P:Program} {f:Nat} {ai:List IT} {G G':(bQ ai).T->Option Bool} (h:ay P f ⟨ai,riB,G⟩) (h':ay P f ⟨ai,riB,G'⟩) {a:(bQ ai).T} (hG:G a=some true\/G' a=some true) (hd:gW ai=true:=by rfl):fZ P nG f ((jJ ai a).map (·.2)) [] (bI true) [] :=
 Or.elim hG (fun e=>Tt h e hd) fun e=>Tt h' e hd
def adv (l:List FT):Prop:=(∀f∈l,V4 f)/\l.length<=120
def FI (s:Int×List FT):Prop:=∃n:Nat,s.1=(n:Int)/\n<=120/\s.2.length=n/\∀f∈s.2,V4 f
theorem Og {β:Type} {Q:β->Prop} (a5:List FT):So (bf (fun (v7,v8) =>
 bif (decide (v7<(a5.length:Int))) then
 bif (decide (v7<120)) then
 bif (decide ((0<=v7)/\(v7<(a5.length:Int)))) then
 ah a5[v7.toNat]? fun x9 =>
 ah (some (Int.tmod (IntKind.wrap .u64 x9.2.1) (3001:Int))) fun x11 =>
 ah (some (Int.tmod (IntKind.wrap .u64 x9.2.2.2) (3001:Int))) fun x14 =>
 bif (decide (v8.length<=v8.length)) then
 bif (decide (((List.length ((v8.take v8.length)++((x9.1,((IntKind.wrap .i64 x11),(x9.2.2.1,(IntKind.wrap .i64 x14))))::([]:List (Bool×(Int×(Bool×Int)))))))*32)<=140737488355328)) then
 ah (some ((v8.take v8.length)++((x9.1,((IntKind.wrap .i64 x11),(x9.2.2.1,(IntKind.wrap .i64 x14))))::([]:List (Bool×(Int×(Bool×Int))))))) fun x16 =>
 bif (decide (x16.length<=x16.length)) then
 some (Sum.inl ((IntKind.wrap .i64 (v7+(1:Int))),(x16.take x16.length)))
 else none
 else none
 else none
 else none
 else
 aB (bif (decide (v8.length<=v8.length)) then
 some (Sum.inl (v8.take v8.length))
 else none)
 else
 aB (bif (decide (v8.length<=v8.length)) then
 some (Sum.inl (v8.take v8.length))
 else none)) ((0:Int),([]:List (Bool×(Int×(Bool×Int)))))) (Sm adv Q):=by
 refine So.loop FI (fun s=>(120-s.1).toNat) (fun s hs => ?_) ⟨0,rfl,by omega,rfl,fun f hf=>(by cases hf)⟩;obtain ⟨v7,v8⟩:=s;obtain ⟨n,h1,h2,h3,h4⟩:=hs;simp only at h1 h3 h4;subst h1;have hend:adv (List.take v8.length v8):=by rw [List.take_length];exact ⟨h4,by omega⟩
 refine So.dec (fun hi=>So.dec (fun hj=>So.pos ⟨by omega,hi⟩ (So.get (show (n:Int).toNat<a5.length by omega) fun x _ _=>So.is rfl (So.is rfl (So.le (So.pos (by simp only [List.take_length];simp only [List.length_append,List.length_cons,List.length_nil];omega) (So.is rfl (So.le (.inl ⟨⟨n+1,?_,by omega,?_,?_⟩,?_⟩)))))))) fun _ => .out (So.le (.inl hend))) fun _ => .out (So.le (.inl hend))
 ·show IntKind.wrap .i64 ((n:Int)+1)=_;rw [aj (by omega)];omega
 ·simp only [List.take_length];simp only [List.length_append,List.length_cons,List.length_nil];omega
 ·intro f hf;simp only [List.take_length] at hf;rcases List.mem_append.1 hf with hf | hf
  ·exact h4 f hf
  ·rw [List.mem_singleton.1 hf];exact adt _ _ _ _
 ·show (120-IntKind.wrap .i64 ((n:Int)+1)).toNat<(120-(n:Int)).toNat;rw [aj (by omega)];omega
theorem Oh {β:Type} {Q:β->Prop} (a3 a4:Int):So (bif (decide (a3>=1)) then
 bif (decide (a3<=a4)) then
 some (Sum.inl (decide (a4<=1000)))
 else
 some (Sum.inl false)
 else
 some (Sum.inl false)) (Sm (fun b=>b=decide (1<=a3/\a3<=a4/\a4<=1000)) Q) :=
 So.dec (fun h1=>So.dec (fun h2 => .inl (decide_eq_decide.2 ⟨fun h=>⟨h1,h2,h⟩,fun h=>h.2.2⟩)) fun h2 => .inl (decide_eq_false fun h=>h2 h.2.1).symm) fun h1 => .inl (decide_eq_false fun h=>h1 h.1).symm
theorem Uf:aF (1,1)=some true:=by rw [C9];rfl
theorem So.bne {α:Type} {a b:Option α} {P:α->Prop} {x y:Bool} (e:x=y) (h:So b P):So (bif (x != y) then a else b) P:=by subst e;cases x<;>exact h
theorem So.tr {α:Type} {f:Bool} {a b:Option α} {P:α->Prop} (hf:f=true) (h:So b P):So (bif (!f) then a else b) P:=by subst hf;exact h
theorem So.fl {α:Type} {f:Bool} {a b:Option α} {P:α->Prop} (hf:f=false) (h:So b P):So (bif f then a else b) P:=by subst hf;exact h
theorem Oi:So (ah (aU ()) fun x=>some x) (· = true):=So.is ads (.mk rfl)
theorem aaP {a1 a2 a3 a4:Int} {a5:List FT} {a6:List Int} (h1:0<=a1) (hv:¬(1<=a3/\a3<=a4/\a4<=1000)):rX ((a1,(a2,(a3,(a4,a5)))),a6)=some true:=by
 unfold rX;refine So.eq (So.join (P:=adv) (Og a5) fun l hl=>So.bind (um h1) fun a ha=>So.is (o9 ha) (So.tr rfl (So.is Uf (So.tr rfl (So.bind (um h1) fun b hb=>So.is (o9 hb) (So.tr rfl (So.is C9 ?_)))))));refine So.nf (decide_eq_false hv) (So.pos rfl (So.is (Rh hl.1 (by have:=hl.2;omega)) (So.join (Oh a3 a4) fun v hv' => ?_)));rw [decide_eq_false hv] at hv';subst hv';exact So.bne rfl (So.nf rfl (So.nf rfl Oi))
def BeP (s:Bool×(VT×(List FT×(List NR×(Int×(Int×Int)))))) (le mo:Int):Prop:=∃a b fs,s=(true,((je a b le mo).t,(pG fs).t))/\Jo a/\Jo b/\∀f∈fs,V4 f
def RIv (s:Int×(VT×(List FT×(List NR×(Int×(Int×Int)))))):Prop:=∃(n:Nat) (v:Vl) (c:Ca),s=((n:Int),(v.t,c.t))/\n<=60/\RK n v c
def REv (s:VT×(List FT×(List NR×(Int×(Int×Int))))):Prop:=∃(n:Nat) (v:Vl) (c:Ca),s=(v.t,c.t)/\n<=60/\RK n v c
theorem Xm {a1 a2 a3 a4:Int} {a5:List FT} {a6:List Int} (h1:0<=a1) (hv:1<=a3/\a3<=a4/\a4<=1000):iH ((a1,(a2,(a3,(a4,a5)))),a6)=some true:=by
 unfold iH;refine So.eq (So.join (P:=fun s=>BeP s a3 a4) ?_ fun s hs => ?_)
 ·refine So.join (P:=adv) (Og a5) fun l hl=>So.bind (um h1) fun a ha=>So.is (o9 ha) (So.tr rfl (So.is Uf (So.tr rfl (So.bind (um h1) fun b hb=>So.is (o9 hb) (So.tr rfl (So.is C9 ?_))))));refine So.tr (decide_eq_true hv) (So.pos rfl (So.is (Rh hl.1 (by have:=hl.2;omega)) (So.join (Oh a3 a4) fun v hv' => ?_)));rw [decide_eq_true hv] at hv';subst hv';exact So.bne rfl (So.pos rfl (.inl ⟨a,b,l,rfl,ha,hb,hl.1⟩))
 ·obtain ⟨a,b,fs,rfl,ha,hb,hf⟩:=hs;refine So.tr rfl (So.fl rfl (So.join (P:=REv) (So.le4 (So.loop RIv (fun s=>(60-s.1).toNat) (fun s hs => ?_) ⟨0,je a b a3 a4,pG fs,rfl,by omega,aaM ha hb hv hf⟩)) fun s hs => ?_))
  ·obtain ⟨n,v,c,rfl,hn,hr⟩:=hs;have hend:REv (v.t,c.t):=⟨n,v,c,rfl,hn,hr⟩
   refine So.dec (p:=(n:Int)<60) (fun hi=>So.nf hr.gk.lv.ff (So.eq4 (So.bind (P:=fun r=>∃(v':Vl) (c':Ca),r=(v'.t,c'.t)/\GK v' v' [] c'/\v'.f=v.f/\v'.sent=v.sent/\v'.now=20*n) ?_ fun r hr' => ?_))) fun hi => .out (So.le4 (.inl ?_))
   ·rw [aj (n:=20*(n:Int)) (by omega)];exact Ue hr (by omega) (by omega)
   ·obtain ⟨v',c',rfl,k1,k2,k3,k4⟩:=hr';refine So.join (P:=fun _=>True) (So.dec (fun h=>So.pos ⟨by omega,h⟩ (So.get (show (n:Int).toNat<a6.length by omega) fun x _ _ => .inl trivial)) fun _ => .inl trivial) fun x _=>So.bind (Ud x _) fun fr hfr=>So.eq4 (So.bind (adu (i:=n) k1 (by rw [k2];exact hr.tm) (by rw [k3];exact hr.sl) k4 (by omega) hfr.1 hfr.2) fun r hr' => ?_);obtain ⟨w,c2,rfl,_,hw⟩:=hr';refine So.le4 (.inl ⟨⟨n+1,w,c2,?_,by omega,hw⟩,?_⟩)
    ·simp only [Vl.t,Ca.t,List.take_length];rw [aj (n:=(n:Int)+1) (by omega)];rfl
    ·show (60-IntKind.wrap .i64 ((n:Int)+1)).toNat<(60-(n:Int)).toNat;rw [aj (by omega)];omega
   ·simp only [Vl.t,Ca.t,List.take_length];exact hend
  ·obtain ⟨n,v,c,rfl,hn,hr⟩:=hs;have hnw:=hr.gk.lv.nw;have hnn:=hr.nw;refine So.eq4 (So.bind (P:=fun r=>∃(v':Vl) (c':Ca),r=(v'.t,c'.t)/\GK v' v' [] c'/\v'.f=v.f/\v'.sent=v.sent/\v'.now=v.now+4000) ?_ fun r hr' => ?_)
   ·show So (aX (IntKind.wrap .i64 (v.now+4000),(v.t,c.t))) _;rw [aj (n:=v.now+4000) (by omega)];exact Ue hr (by omega) (by omega)
   ·obtain ⟨v',c',rfl,k1,k2,k3,k4⟩:=hr';refine So.eq4 (So.bind (P:=fun r=>∃v':Vl,r=v'.t/\v'.fails=false/\v'.due=[]) ?_ fun r hr' => ?_)
    ·show So (bH (IntKind.wrap .i64 (v'.now+200000),(v'.t,c'.t))) _;rw [aj (n:=v'.now+200000) (by omega)];exact aaL k1.lv (by omega)
    ·obtain ⟨u,rfl,z1,z2⟩:=hr';exact So.nf z1 (So.pos (by rw [z2];rfl) Oi)
theorem Ri (a:(bQ [(.tmp 0 true [(.dat (.int .u8)),(.dat (.int .u8)),(.dat (.int .i64)),(.dat (.int .i64)),(.dat (.list (.pair .bool (.pair (.int .i64) (.pair .bool (.int .i64))))))]),(.tmp 1 false [(.dat (.list (.int .u16)))])]).T) (h:Qq _ a):iH a=some true\/rX a=some true:=by
 obtain ⟨⟨a1,a2,a3,a4,a5⟩,a6⟩:=a;have h1:0<=a1:=(ak9 h.1.1).1;by_cases hv:1<=a3/\a3<=a4/\a4<=1000
 ·exact .inl (Xm h1 hv)
 ·exact .inr (aaP h1 hv)
end Go.Proofs.YtigfeinnobfflaaGreat
