import Derived.Test.YtkpijdndakljjaaFp
import Derived.Test.YtkpijdndakljjaaXBp
import Derived.Lib.Overlaps
set_option linter.unusedSimpArgs false
set_option linter.unusedVariables false
noncomputable section
/- Short words for trees. -/
namespace Go.Proofs.Ytkpijdndakljjaa
open Go.RowKit
abbrev lI {α : Type} (l : List α) : Int := ((l.length : Nat) : Int)
abbrev iR {α : Type} (v : Int) (l : List α) : Bool := decide (((0 : Int) <= v) /\ (v < lI l))
abbrev lE {α : Type} (l : List α) : Bool := decide (l.length <= l.length)
abbrev lQ {α β : Type} (a : List α) (b : List β) : Bool := decide (a.length = b.length)
abbrev rO {α : Type} (l : List α) (k : Nat) : Bool := decide ((l.length * k) <= 140737488355328)
abbrev tA {α : Type} (l : List α) : List α := List.take l.length l
abbrev wI (n : Int) : Int := IntKind.wrap .i64 n
abbrev z0 : Int := 0
abbrev z1 : Int := 1
abbrev LU := List UInt8
abbrev LN := List Int
abbrev dI : CS := .dat (.int .i64)
abbrev dS : CS := .dat .str
abbrev dO : CS := .dat .bool
abbrev dY : CS := .dat (.list (.int .u8))
abbrev Gv : CS := .dat (.int .u8)
abbrev dH : U := .int .i64
abbrev vP : U := .int .u8
abbrev iT:=List UInt8×(List UInt8×(List UInt8×(Int×(Int×(Int×(Int×(Int×(Int×Bool))))))))
abbrev nZ:U:=.pair .str (.pair .str (.pair .str (.pair (.int .i64) (.pair (.int .i64) (.pair (.int .i64) (.pair (.int .i64) (.pair (.int .i64) (.pair (.int .i64) .bool))))))))
abbrev zl:=List Int×(Int×(Int×(List iT×(Int×Int))))
theorem nT (pl:List (Nat×PL)) (eg:Nat->Bool) {cons:List (Nat×CE)} (hc:dZ Try.prog cons) {f:Nat} {fn:Func} (hf:Try.prog.funcs[f]? = some fn) {ai ri:List IT} {G:(bZ ai).T->Option (bZ ri).T} (hfn:yx Try.prog f=true:=by kernel_rfl) (hsh:WY fn ai ri=true:=by kernel_rfl) (hG:∀a,(ad3 (xw (aS Try.prog) yC) (qOf xC) (TM anT) (aef cons) (vF pl) eg 10000 f fn ai ri).run a=G a:=by intro a;kernel_rfl):aV Try.prog f ⟨ai,ri,G⟩:=
 ag0 KK qj (nI hc) hf hfn hsh 10000 fun a r h=>(hG a).trans h
abbrev pV:U := .pair .str (.pair .str (.pair .str (.pair (.int .i64) (.pair (.int .i64) (.pair (.int .i64) (.pair (.int .i64) (.pair (.int .i64) (.pair (.int .i64) .bool))))))))
set_option maxRecDepth 100000
theorem UE {P:Program} {GL:Nat->Option (List DV)} {f:FuncId} {args:List AV} {os us us':List (Nat×AO)} {v:AV} (h:fB P GL f args os v us) (hu:aJ us=aJ us'):fB P GL f args os v us':=fun E w vs h1 h2 h3 h4=>by
 refine (h E w vs h1 h2 h3 h4).mono ?_;rintro e w' ⟨u,E',k1,k2,k3,k4⟩;exact ⟨u,E',k1,k2,k3.trans hu,k4⟩
theorem KR {P:Program} {GL:Nat->Option (List DV)} {f:FuncId} {r1 r3 e s n n':Nat} {args:List AV} {os os':List (Nat×AO)} {cs cs':List DV} (h1:1<=n) (h13:r1≠r3) (ho3:look r3 os'=none)
 (h:∀c,n<=c->c<=maxLen->fB P GL f (.sl r1 0 n (some c)::args) ((r1,.data e s cs true)::os) (.sl r1 0 n' (some c)) ((r1,.data e s cs' true)::os') \/
   fB P GL f (.sl r1 0 n (some c)::args) ((r1,.data e s cs true)::os) (.sl r3 0 n' none) ((r3,.data e s cs' true)::(r1,.dead)::os')) :
 fB P GL f (.sl r1 0 n none::args) ((r1,.data e s cs true)::os) (.sl r3 0 n' none) ((r3,.data e s cs' true)::(r1,.dead)::os'):=fun E w vs hE hw hs hrel=>by
 have ho1:E.hp r1=some (.data e s cs true):=by rw [hE];simp [aJ,look]
 rw [aP] at hrel;obtain ⟨u1,vs',e1,hx,hrest⟩:=hrel;have hx0:=hx;rw [Rel,ho1] at hx;rcases hx with ⟨h0,_⟩ | ⟨b,z,c,g1,e2,g3,g4,g5,g6⟩
 ·omega
 have g6':0+c*s=z:=g6;have hrel':aP E (.sl r1 0 n (some c)::args) vs.toList:=by
  rw [aP];refine ⟨u1,vs',e1,?_,hrest⟩;rw [Rel,ho1];exact .inr ⟨b,z,c,g1,e2,g3,g4,g5,rfl⟩
 rcases h c g3 g4 with hA | hB
 ·refine (hA E w vs hE hw hs hrel').mono ?_;rintro ex w' ⟨u,E',rfl,k2,k3,k4,k5,k6,k7⟩;have ho1':E'.hp r1=some (.data e s cs' true):=by rw [k3];simp [aJ,look]
  have hn3:E'.hp r3=none:=by rw [k3];simp [aJ,look,h13,ho3]
  have hmv:=Ov (w:=w') k2 k4 ho1' hn3;have hm:E'.m r1=E.m r1:=by
   obtain ⟨o',q1,_,q3⟩:=k5.ob r1 _ ho1;rw [ho1'] at q1;cases q1;rcases q3 with q3 | q3
   ·cases q3
   ·exact q3
  refine ⟨u,_,rfl,hmv.h,?_,hmv.sim,k5.trans hmv.ext,k6.trans hmv.fr,?_⟩
  ·rw [hmv.hp,k3];funext q;simp only [dN,aJ,look];by_cases q3:r3=q
   ·subst q3;simp
   ·by_cases q1:r1=q
    ·subst q1;simp [q3]
    ·simp [q3,q1]
  ·rw [Rel,ho1'] at k7;rcases k7 with ⟨_,hc,_⟩ | ⟨b',z',c',p1,p2,p3,p4,p5,p6⟩
   ·rcases hc with hc | hc
    ·cases hc
    ·cases hc;omega
   have p6':c'=c:=p6;subst p6';rw [hm,g1] at p1;cases p1;have e2':(nV E' r1 r3 (.data e s cs' true)).hp r3=some (.data e s cs' true):=by simp [nV,dN,look]
   have e3':(nV E' r1 r3 (.data e s cs' true)).m r3=some (b,z):=by simp [nV,hm,g1]
   rw [Rel,e2'];exact .inr ⟨b,z,c',e3',p2,p3,p4,p5,g6'⟩
 ·exact hB E w vs hE hw hs hrel'
theorem W9 {r2 r1 off2 n2 off1 n1:Nat} {cap2 cap1:Option Nat} {hp:Nat->Option AO} {cs2 cs1:List DV} (h2:hp r2=some (.data 29 10 cs2 true)) (h1:hp r1=some (.data 29 10 cs1 true)) (hne:r2≠r1) (hn2:1<=n2) (hn1:1<=n1) :
 DoesE Try.prog (fun _=>none) 80 [.sl r2 off2 n2 cap2,.sl r1 off1 n1 cap1] [r2,r1] (eu false) [] hp:=fun E w vs hrd hw hs hrel=>by
 rw [<-hrd r2 (by simp)] at h2;rw [<-hrd r1 (by simp)] at h1;obtain ⟨vl⟩:=vs;simp only [aP] at hrel;obtain ⟨u2,vs2,rfl,hx2,u1,vs1,rfl,hx1,rfl⟩:=hrel;obtain ⟨b2,cur2,c2,p1,p2,p3,rfl,p4,p5⟩:=DY hs hx2 h2 hn2;obtain ⟨b1,cur1,c1,q1,q2,q3,rfl,q4,q5⟩:=DY hs hx1 h1 hn1;have hb:b2≠b1:=fun e=>by
  subst e;exact hne (hs.inj r2 r1 _ _ b2 _ _ h2 h1 rfl rfl p1 q1)
 have w2:w.heap[b2]? = some (.cells cur2 29 (0,0)):=by rw [hw];exact p2
 have w1:w.heap[b1]? = some (.cells cur1 29 (0,0)):=by rw [hw];exact q2
 refine ⟨.bool false,w,E,?_,Goes.refl hw hs,oz _⟩;have hti:(aS Try.prog 29).map (·.size)=some 10:=by rw [KK.hT];kernel_rfl
 have hsz:∀w,(Go.sizeOf 29).run Try.prog w = .ok 10 w:=fun w=>by
  obtain ⟨i,hi,h10⟩:=Option.map_eq_some_iff.1 hti;rw [run_sizeOf hi,h10]
 rw [run_callFunc_extern Try.func80 (by kernel_rfl) (by kernel_rfl) (by kernel_rfl) (e:=Extern.SlicesOverlaps.overlaps #[25,25] #[4]) (by kernel_rfl),
  Lib.run_overlaps_apart w 25 4 29 (by kernel_rfl) 10 hsz ⟨b2,off2,none⟩ ⟨b1,off1,none⟩ n2 c2 n1 c1 hb 29 29 cur2.size cur1.size (by unfold World.shape?;rw [w2]) (by unfold World.shape?;rw [w1]) (by omega)
   (by unfold World.frozen?;rw [w2];simp) (by unfold World.frozen?;rw [w2];simp)]
 rfl
theorem YJ {p:Pr} (hp:p=real) {i:Int} {n:Nat} (h:(n:Int)<i):p.ixle i n=none:=by
 rw [hp];show (if 0<=i/\i<=n then some i.toNat else none)=none;rw [if_neg (by omega)]
theorem xM {α:Type}:∀(l:List α) (o:Nat) (new:List α),o<=l.length->splice l o new=l.take o++(new++l.drop (o+new.length))
 | l,0,new,_=>by cases l<;>simp [splice]
 | [],o+1,new,h=>by simp at h
 | x::l,o+1,new,h=>by
   rw [splice,xM l o new (by simpa using h),List.take_succ_cons,List.cons_append,show o+1+new.length=(o+new.length)+1 from by omega,List.drop_succ_cons]
theorem aeg {α:Type} {cs vs:List α} {a k:Nat} (hv:vs.length=k) (ha:a+k<=cs.length):splice (cs.take (a+k)++cs.drop a) a vs=cs.take a++vs++cs.drop a:=by
 rw [xM _ _ _ (by simp;omega),hv];have e1:(List.take (a+k) cs++List.drop a cs).take a=cs.take a:=by
  rw [List.take_append_of_le_length (by rw [List.length_take];omega),List.take_take,Nat.min_eq_left (by omega)]
 have e2:(List.take (a+k) cs++List.drop a cs).drop (a+k)=cs.drop a:=by
  rw [List.drop_append_of_le_length (by rw [List.length_take];omega),List.drop_eq_nil_of_le (by rw [List.length_take];omega),List.nil_append]
 rw [e1,e2,List.append_assoc]
theorem aa7 {α:Type} {cs vs zs:List α} {a k:Nat} (hv:vs.length=k) (ha:a<=cs.length) (hz:zs.length=k+(cs.length-a)):splice (splice (cs.take a++zs) a vs) (a+k) (cs.drop a)=cs.take a++vs++cs.drop a:=by
 have l1:(cs.take a).length=a:=by rw [List.length_take];omega
 have e0:splice (cs.take a++zs) a vs=cs.take a++vs++zs.drop k:=by
  rw [xM _ _ _ (by simp;omega),hv,List.take_append_of_le_length (by omega),List.take_of_length_le (by omega),List.drop_append,l1];rw [List.drop_eq_nil_of_le (by omega),List.nil_append,show a+k-a=k from by omega,List.append_assoc]
 have l2:(cs.take a++vs).length=a+k:=by rw [List.length_append,l1,hv]
 rw [e0,xM _ _ _ (by rw [List.length_append,l2];omega),List.take_append_of_le_length (by omega),List.take_of_length_le (by omega)];have e3:(cs.take a++vs++zs.drop k).drop (a+k+(cs.drop a).length)=[]:=List.drop_eq_nil_of_le (by rw [List.length_append,l2,List.length_drop,List.length_drop];omega);rw [e3,List.append_nil]
theorem aeh {α:Type} {cs:List α} {a b:Nat} (hab:a<=b) (hb:b<=cs.length):(splice cs a (cs.drop b)).take (a+(cs.length-b))=cs.take a++cs.drop b:=by
 rw [xM _ _ _ (by omega),<-List.append_assoc,List.take_append_of_le_length (by rw [List.length_append,List.length_take,List.length_drop];omega),List.take_of_length_le (by rw [List.length_append,List.length_take,List.length_drop];omega)]
theorem ag2 {P:Program} {GL:Nat->Option (List DV)} {N:Nat} {hp0:Nat->Option AO} {C:Qh} (hC:C=yV P GL N hp0) {f:FuncId} {args:List AV} {rds:List Nat} {v:AV} {us:List (Nat×AO)} {rd:Nat->Option AO} {X:AV->List (Nat×AO)->List Nat->Prop} (h:DoesE P GL f args rds v us rd) (h1:X v us rds):∃v us rds,C.D f args rds v us rd/\X v us rds:=by
 subst hC;exact ⟨v,us,rds,.inr h,h1⟩
set_option maxHeartbeats 4000000
set_option maxRecDepth 10000
theorem ag3 {cs vs T:List DV} {n N:Nat} (hT:T=cs++vs) (hN:N=n+1) {kz:Int} (hkz:kz=n) (hw:cs.length=n*10) (hv:vs.length=1*10) (h2:n<=1000000):fB Try.prog (fun _=>none) 46 [.sl 20000001 0 n none,.d (.val (.int .i64 kz)),.sl 20000002 0 1 none] [(20000001,.data 29 10 cs true),(20000002,.data 29 10 vs true)] (.sl 20000003 0 N none) [(20000003,.data 29 10 T true),(20000001,.dead),(20000002,.data 29 10 vs true)]:=by
 refine mZ KK (fn:=Try.f46) Try.func46 rfl (by show 3<=_;decide) ?_;intro C F p hC hF hp
 conv=>cbv
 obtain ⟨j1,hj1,lj1,ej1⟩:=kF (i:=kz) (n:=n) hp (by omega) (by omega);simp only [ej1]
 conv=>cbv
 have ez2:(p.zi 1)=1:=by rw [hp];rfl
 simp only [ez2];clear ez2
 conv=>cbv
 have e4:(p.cmp .eql 1 0)=false:=by rw [kU hp];exact decide_eq_false (by omega)
 simp only [e4];clear e4
 conv=>cbv
 obtain ⟨z5,hz5⟩:∃z:Int,z=((n:Nat):Int):=⟨_,rfl⟩
 have ez5:(p.zi n)=z5:=by rw [hz5];exact aaJ hp
 simp only [ez5]
 conv=>cbv
 have e6:(p.cmp .eql kz z5)=true:=by rw [kU hp];exact decide_eq_true (by omega)
 simp only [e6];clear e6
 conv=>cbv
 have ez7:(p.nm 1 10)=10:=by rw [hp];rfl
 simp only [ez7];clear ez7
 conv=>cbv
 have ez8:(p.na 0 10)=10:=by rw [hp];rfl
 simp only [ez8];clear ez8
 conv=>cbv
 obtain ⟨z9,hz9⟩:∃z:Nat,z=(vs).length:=⟨_,rfl⟩
 have ez9:(p.len vs)=z9:=by rw [hz9];exact xB hp
 simp only [ez9]
 conv=>cbv
 have e10:(p.nle 10 z9)=true:=pF hp (by omega);simp only [e10];clear e10
 conv=>cbv
 have e11:(p.neq 0 0)=true:=vX hp (by omega);simp only [e11];clear e11
 conv=>cbv
 obtain ⟨z12,hz12⟩:∃z:Nat,z=n*10:=⟨_,rfl⟩
 have ez12:(p.nm n 10)=z12:=by rw [hz12];exact wJ hp
 simp only [ez12]
 conv=>cbv
 obtain ⟨z13,hz13⟩:∃z:Nat,z=(cs).length:=⟨_,rfl⟩
 have ez13:(p.len cs)=z13:=by rw [hz13];exact xB hp
 simp only [ez13]
 conv=>cbv
 have e14:(p.neq z12 z13)=true:=vX hp (by omega);simp only [e14];clear e14
 conv=>cbv
 have e15:(p.fit n 1 104)=true:=JZ hp (by omega) (by show _<=9223372036854775807;omega);simp only [e15];clear e15
 conv=>cbv
 obtain ⟨z16,hz16⟩:∃z:Nat,z=n+1:=⟨_,rfl⟩
 have ez16:(p.na n 1)=z16:=by rw [hz16];exact uQ hp
 simp only [ez16]
 conv=>cbv
 have ez17:(p.cut vs 0 10)=vs:=uS hp (by omega);simp only [ez17]
 conv=>cbv
 obtain ⟨z18,hz18⟩:∃z:List DV,z=cs++vs:=⟨_,rfl⟩
 have ez18:(p.app cs vs)=z18:=by rw [hz18];exact Ig hp
 simp only [ez18];have lz18:z18.length=(cs).length+(vs).length:=by rw [hz18];simp only [List.length_append,List.length_cons,List.length_nil]<;>omega
 conv=>cbv
 obtain rfl:T=z18:=by rw [hT,hz18]
 obtain rfl:N=z16:=by omega
 exact qh [(20000003,1702),(20000001,20000001),(20000002,20000002)] rfl rfl ⟨⟨rfl,rfl,rfl⟩,trivial,⟨rfl,rfl,rfl⟩,trivial⟩ rfl rfl
theorem akV {cs vs T:List DV} {n i c N:Nat} (hT:T=cs.take (i*10)++vs++cs.drop (i*10)) (hN:N=n+1) {kz:Int} (hkz:kz=i) (hw:cs.length=n*10) (hv:vs.length=1*10) (h2:n<=1000000) (hi:i<n) (hc:n+1<=c) (hc2:c<=9223372036854775807):fB Try.prog (fun _=>none) 46 [.sl 20000001 0 n (some c),.d (.val (.int .i64 kz)),.sl 20000002 0 1 none] [(20000001,.data 29 10 cs true),(20000002,.data 29 10 vs true)] (.sl 20000001 0 N (some c)) [(20000001,.data 29 10 T true),(20000002,.data 29 10 vs true)]:=by
 refine mZ KK (fn:=Try.f46) Try.func46 rfl (by show 3<=_;decide) ?_;intro C F p hC hF hp
 conv=>cbv
 obtain ⟨j19,hj19,lj19,ej19⟩:=kF (i:=kz) (n:=n) hp (by omega) (by omega);simp only [ej19]
 conv=>cbv
 have ez20:(p.zi 1)=1:=by rw [hp];rfl
 simp only [ez20];clear ez20
 conv=>cbv
 have e22:(p.cmp .eql 1 0)=false:=by rw [kU hp];exact decide_eq_false (by omega)
 simp only [e22];clear e22
 conv=>cbv
 obtain ⟨z23,hz23⟩:∃z:Int,z=((n:Nat):Int):=⟨_,rfl⟩
 have ez23:(p.zi n)=z23:=by rw [hz23];exact aaJ hp
 simp only [ez23]
 conv=>cbv
 have e25:(p.cmp .eql kz z23)=false:=by rw [kU hp];exact decide_eq_false (by omega)
 simp only [e25];clear e25
 conv=>cbv
 obtain ⟨z26,hz26⟩:∃z:Int,z=z23+1:=⟨_,rfl⟩
 have ez26:(p.ar .add .i64 z23 1)=z26:=by rw [hz26];exact X3 hp (by omega) (by omega)
 simp only [ez26]
 conv=>cbv
 obtain ⟨z27,hz27⟩:∃z:Int,z=((c:Nat):Int):=⟨_,rfl⟩
 have ez27:(p.zi c)=z27:=by rw [hz27];exact aaJ hp
 simp only [ez27]
 conv=>cbv
 have e29:(p.cmp .gtr z26 z27)=false:=by rw [pz hp];exact decide_eq_false (by omega)
 simp only [e29];clear e29
 conv=>cbv
 simp only [ez26]
 conv=>cbv
 have e31:(p.ixle (z26) (n))=none:=YJ hp (by omega);simp only [e31];clear e31
 conv=>cbv
 obtain ⟨j32,hj32,lj32,ej32⟩:=kF (i:=z26) (n:=c) hp (by omega) (by omega);simp only [ej32]
 conv=>cbv
 obtain ⟨z33,hz33⟩:∃z:Int,z=kz+1:=⟨_,rfl⟩
 have ez33:(p.ar .add .i64 kz 1)=z33:=by rw [hz33];exact X3 hp (by omega) (by omega)
 simp only [ez33]
 conv=>cbv
 have ez34:(p.ns j32 0)=j32:=by rw [CO hp];omega
 simp only [ez34];clear ez34
 conv=>cbv
 obtain ⟨j35,hj35,lj35,ej35⟩:=kF (i:=z33) (n:=j32) hp (by omega) (by omega);simp only [ej35]
 conv=>cbv
 have ez36:(p.nm 0 10)=0:=by rw [hp];rfl
 simp only [ez36];clear ez36
 conv=>cbv
 have ez37:(p.na 0 0)=0:=by rw [hp];rfl
 simp only [ez37];clear ez37
 conv=>cbv
 obtain ⟨z38,hz38⟩:∃z:Nat,z=j35*10:=⟨_,rfl⟩
 have ez38:(p.nm j35 10)=z38:=by rw [hz38];exact wJ hp
 simp only [ez38]
 conv=>cbv
 have ez39:(p.na 0 z38)=z38:=by rw [uQ hp];omega
 simp only [ez39];clear ez39
 conv=>cbv
 obtain ⟨z40,hz40⟩:∃z:Nat,z=j32-j35:=⟨_,rfl⟩
 have ez40:(p.ns j32 j35)=z40:=by rw [hz40];exact CO hp
 simp only [ez40]
 conv=>cbv
 have ez41:(p.ns c 0)=c:=by rw [CO hp];omega
 simp only [ez41];clear ez41
 conv=>cbv
 obtain ⟨z42,hz42⟩:∃z:Nat,z=c-j35:=⟨_,rfl⟩
 have ez42:(p.ns c j35)=z42:=by rw [hz42];exact CO hp
 simp only [ez42]
 conv=>cbv
 refine ag2 hC (W9 rfl rfl (by decide) (by omega) (by omega)) ?_;refine ⟨by decide_cbv,?_⟩
 conv=>cbv
 simp only [ez33]
 conv=>cbv
 simp only [ej35]
 conv=>cbv
 obtain ⟨j44,hj44,lj44,ej44⟩:=kF (i:=kz) (n:=j32) hp (by omega) (by omega);simp only [ej44]
 conv=>cbv
 obtain ⟨z45,hz45⟩:∃z:Nat,z=j44*10:=⟨_,rfl⟩
 have ez45:(p.nm j44 10)=z45:=by rw [hz45];exact wJ hp
 simp only [ez45]
 conv=>cbv
 have ez46:(p.na 0 z45)=z45:=by rw [uQ hp];omega
 simp only [ez46];clear ez46
 conv=>cbv
 obtain ⟨z47,hz47⟩:∃z:Nat,z=j32-j44:=⟨_,rfl⟩
 have ez47:(p.ns j32 j44)=z47:=by rw [hz47];exact CO hp
 simp only [ez47]
 conv=>cbv
 obtain ⟨z48,hz48⟩:∃z:Nat,z=z47*10:=⟨_,rfl⟩
 have ez48:(p.nm z47 10)=z48:=by rw [hz48];exact wJ hp
 simp only [ez48]
 conv=>cbv
 obtain ⟨z49,hz49⟩:∃z:Nat,z=z45+z48:=⟨_,rfl⟩
 have ez49:(p.na z45 z48)=z49:=by rw [hz49];exact uQ hp
 simp only [ez49]
 conv=>cbv
 obtain ⟨z50,hz50⟩:∃z:Nat,z=(cs).length:=⟨_,rfl⟩
 have ez50:(p.len cs)=z50:=by rw [hz50];exact xB hp
 simp only [ez50]
 conv=>cbv
 have e52:(p.nle z49 z50)=false:=ac3 hp (by omega);simp only [e52];clear e52
 conv=>cbv
 simp only [ez40]
 conv=>cbv
 have e53:(p.nle 1 z40)=true:=pF hp (by omega);simp only [e53];clear e53
 conv=>cbv
 have e54:(p.nle 1 z47)=true:=pF hp (by omega);simp only [e54];clear e54
 conv=>cbv
 simp only [ez38]
 conv=>cbv
 have ez55:(p.na 0 z38)=z38:=by rw [uQ hp];omega
 simp only [ez55];clear ez55
 conv=>cbv
 simp only [ez50]
 conv=>cbv
 have e56:(p.nle z38 z50)=true:=pF hp (by omega);simp only [e56];clear e56
 conv=>cbv
 obtain ⟨z57,hz57⟩:∃z:Nat,z=min z47 z40:=⟨_,rfl⟩
 have ez57:(p.nmin z47 z40)=z57:=by rw [hz57];exact Qo hp
 simp only [ez57]
 conv=>cbv
 obtain ⟨z58,hz58⟩:∃z:Nat,z=z57*10:=⟨_,rfl⟩
 have ez58:(p.nm z57 10)=z58:=by rw [hz58];exact wJ hp
 simp only [ez58]
 conv=>cbv
 obtain ⟨z59,hz59⟩:∃z:Nat,z=z45+z58:=⟨_,rfl⟩
 have ez59:(p.na z45 z58)=z59:=by rw [hz59];exact uQ hp
 simp only [ez59]
 conv=>cbv
 have e60:(p.nle z59 z50)=true:=pF hp (by omega);simp only [e60];clear e60
 conv=>cbv
 simp only [ej44]
 conv=>cbv
 have ez61:(p.nm 1 10)=10:=by rw [hp];rfl
 simp only [ez61];clear ez61
 conv=>cbv
 have ez62:(p.na 0 10)=10:=by rw [hp];rfl
 simp only [ez62];clear ez62
 conv=>cbv
 obtain ⟨z63,hz63⟩:∃z:Nat,z=(vs).length:=⟨_,rfl⟩
 have ez63:(p.len vs)=z63:=by rw [hz63];exact xB hp
 simp only [ez63]
 conv=>cbv
 have e64:(p.nle 10 z63)=true:=pF hp (by omega);simp only [e64];clear e64
 conv=>cbv
 simp only [ez45]
 conv=>cbv
 have ez65:(p.na 0 z45)=z45:=by rw [uQ hp];omega
 simp only [ez65];clear ez65
 conv=>cbv
 simp only [ez47]
 conv=>cbv
 simp only [ez48]
 conv=>cbv
 simp only [ez49]
 conv=>cbv
 obtain ⟨z66,hz66⟩:∃z:List DV,z=((cs).drop 0).take z38:=⟨_,rfl⟩
 have ez66:(p.cut cs 0 z38)=z66:=by rw [hz66];exact FT hp
 simp only [ez66];have lz66:z66.length=min z38 ((cs).length-0):=by rw [hz66];simp only [List.length_take,List.length_drop,List.length_cons,List.length_nil]<;>omega
 conv=>cbv
 obtain ⟨z67,hz67⟩:∃z:List DV,z=((cs).drop z45).take z58:=⟨_,rfl⟩
 have ez67:(p.cut cs z45 z58)=z67:=by rw [hz67];exact FT hp
 simp only [ez67];have lz67:z67.length=min z58 ((cs).length-z45):=by rw [hz67];simp only [List.length_take,List.length_drop,List.length_cons,List.length_nil]<;>omega
 conv=>cbv
 obtain ⟨z68,hz68⟩:∃z:List DV,z=z66++z67:=⟨_,rfl⟩
 have ez68:(p.app z66 z67)=z68:=by rw [hz68];exact Ig hp
 simp only [ez68];have lz68:z68.length=(z66).length+(z67).length:=by rw [hz68];simp only [List.length_append,List.length_cons,List.length_nil]<;>omega
 conv=>cbv
 obtain ⟨z69,hz69⟩:∃z:Nat,z=(z68).length:=⟨_,rfl⟩
 have ez69:(p.len z68)=z69:=by rw [hz69];exact xB hp
 simp only [ez69]
 conv=>cbv
 have e70:(p.nle z49 z69)=true:=pF hp (by omega);simp only [e70];clear e70
 conv=>cbv
 have ez71:(p.cut vs 0 10)=vs:=uS hp (by omega);simp only [ez71]
 conv=>cbv
 obtain ⟨z72,hz72⟩:∃z:Nat,z=min 1 z47:=⟨_,rfl⟩
 have ez72:(p.nmin 1 z47)=z72:=by rw [hz72];exact Qo hp
 simp only [ez72]
 conv=>cbv
 obtain ⟨z73,hz73⟩:∃z:Nat,z=z72*10:=⟨_,rfl⟩
 have ez73:(p.nm z72 10)=z73:=by rw [hz73];exact wJ hp
 simp only [ez73]
 conv=>cbv
 have ez74:(p.cut vs 0 z73)=vs:=uS hp (by omega);simp only [ez74]
 conv=>cbv
 obtain ⟨z75,hz75⟩:∃z:List DV,z=splice z68 z45 vs:=⟨_,rfl⟩
 have ez75:(p.spl z68 z45 vs)=z75:=by rw [hz75];exact X9 hp
 simp only [ez75];have lz75:z75.length=(z68).length:=by rw [hz75,uT _ _ _ (by (try simp only [List.length_cons,List.length_nil]);omega)]<;>(try simp only [List.length_cons,List.length_nil])<;>omega
 conv=>cbv
 obtain rfl:T=z75:=by
  have e1:z67=cs.drop (i*10):=by rw [hz67,List.take_of_length_le (by rw [List.length_drop];omega),show z45=i*10 from by omega]
  rw [hz75,hz68,hz66,e1,List.drop_zero,show z38=i*10+10 from by omega,show z45=i*10 from by omega,aeg (by omega) (by omega),hT]
 obtain rfl:N=j32:=by omega
 exact qh [(20000001,20000001),(20000002,20000002)] rfl rfl ⟨⟨rfl,rfl,rfl⟩,⟨rfl,rfl,rfl⟩,trivial⟩ rfl rfl
theorem aei {cs vs T:List DV} {n i N:Nat} (hT:T=cs.take (i*10)++vs++cs.drop (i*10)) (hN:N=n+1) {kz:Int} (hkz:kz=i) (hw:cs.length=n*10) (hv:vs.length=1*10) (h2:n<=1000000) (hi:i<n):fB Try.prog (fun _=>none) 46 [.sl 20000001 0 n (some n),.d (.val (.int .i64 kz)),.sl 20000002 0 1 none] [(20000001,.data 29 10 cs true),(20000002,.data 29 10 vs true)] (.sl 20000003 0 N none) [(20000003,.data 29 10 T true),(20000001,.dead),(20000002,.data 29 10 vs true)]:=by
 refine mZ KK (fn:=Try.f46) Try.func46 rfl (by show 3<=_;decide) ?_;intro C F p hC hF hp
 conv=>cbv
 obtain ⟨j76,hj76,lj76,ej76⟩:=kF (i:=kz) (n:=n) hp (by omega) (by omega);simp only [ej76]
 conv=>cbv
 have ez77:(p.zi 1)=1:=by rw [hp];rfl
 simp only [ez77];clear ez77
 conv=>cbv
 have e79:(p.cmp .eql 1 0)=false:=by rw [kU hp];exact decide_eq_false (by omega)
 simp only [e79];clear e79
 conv=>cbv
 obtain ⟨z80,hz80⟩:∃z:Int,z=((n:Nat):Int):=⟨_,rfl⟩
 have ez80:(p.zi n)=z80:=by rw [hz80];exact aaJ hp
 simp only [ez80]
 conv=>cbv
 have e82:(p.cmp .eql kz z80)=false:=by rw [kU hp];exact decide_eq_false (by omega)
 simp only [e82];clear e82
 conv=>cbv
 obtain ⟨z83,hz83⟩:∃z:Int,z=z80+1:=⟨_,rfl⟩
 have ez83:(p.ar .add .i64 z80 1)=z83:=by rw [hz83];exact X3 hp (by omega) (by omega)
 simp only [ez83]
 conv=>cbv
 simp only [ez80]
 conv=>cbv
 have e84:(p.cmp .gtr z83 z80)=true:=by rw [pz hp];exact decide_eq_true (by omega)
 simp only [e84];clear e84
 conv=>cbv
 simp only [ej76]
 conv=>cbv
 simp only [ez83]
 conv=>cbv
 obtain ⟨z85,hz85⟩:∃z:Int,z=z83-kz:=⟨_,rfl⟩
 have ez85:(p.ar .sub .i64 z83 kz)=z85:=by rw [hz85];exact ajc hp (by omega) (by omega)
 simp only [ez85]
 conv=>cbv
 have e86:(p.cmp .lss 0 z85)=true:=by rw [AX hp];exact decide_eq_true (by omega)
 simp only [e86];clear e86
 conv=>cbv
 have e87:(p.cmp .leq z85 140737488355328)=true:=by rw [OO hp];exact decide_eq_true (by omega)
 simp only [e87];clear e87
 conv=>cbv
 have ez88:(p.ns j76 0)=j76:=by rw [CO hp];omega
 simp only [ez88];clear ez88
 conv=>cbv
 obtain ⟨z89,hz89⟩:∃z:Nat,z=(z85).toNat:=⟨_,rfl⟩
 have ez89:(p.tn z85)=z89:=by rw [hz89];exact anR hp
 simp only [ez89]
 conv=>cbv
 obtain ⟨z90,hz90⟩:∃z:Nat,z=j76+z89:=⟨_,rfl⟩
 have ez90:(p.na j76 z89)=z90:=by rw [hz90];exact uQ hp
 simp only [ez90]
 conv=>cbv
 have ez91:(p.ns n 0)=n:=by rw [CO hp];omega
 simp only [ez91];clear ez91
 conv=>cbv
 have e93:(p.nle z90 n)=false:=ac3 hp (by omega);simp only [e93];clear e93
 conv=>cbv
 have ez94:(p.nm 0 10)=0:=by rw [hp];rfl
 simp only [ez94];clear ez94
 conv=>cbv
 have ez95:(p.na 0 0)=0:=by rw [hp];rfl
 simp only [ez95];clear ez95
 conv=>cbv
 obtain ⟨z96,hz96⟩:∃z:Nat,z=j76*10:=⟨_,rfl⟩
 have ez96:(p.nm j76 10)=z96:=by rw [hz96];exact wJ hp
 simp only [ez96]
 conv=>cbv
 have ez97:(p.na 0 z96)=z96:=by rw [uQ hp];omega
 simp only [ez97];clear ez97
 conv=>cbv
 obtain ⟨z98,hz98⟩:∃z:Nat,z=(cs).length:=⟨_,rfl⟩
 have ez98:(p.len cs)=z98:=by rw [hz98];exact xB hp
 simp only [ez98]
 conv=>cbv
 have e99:(p.nle z96 z98)=true:=pF hp (by omega);simp only [e99];clear e99
 conv=>cbv
 have e100:(p.fit j76 z89 104)=true:=JZ hp (by omega) (by show _<=9223372036854775807;omega);simp only [e100];clear e100
 conv=>cbv
 obtain ⟨j101,hj101,lj101,ej101⟩:=kF (i:=kz) (n:=z90) hp (by omega) (by omega);simp only [ej101]
 conv=>cbv
 have ez102:(p.nm 1 10)=10:=by rw [hp];rfl
 simp only [ez102];clear ez102
 conv=>cbv
 have ez103:(p.na 0 10)=10:=by rw [hp];rfl
 simp only [ez103];clear ez103
 conv=>cbv
 obtain ⟨z104,hz104⟩:∃z:Nat,z=(vs).length:=⟨_,rfl⟩
 have ez104:(p.len vs)=z104:=by rw [hz104];exact xB hp
 simp only [ez104]
 conv=>cbv
 have e105:(p.nle 10 z104)=true:=pF hp (by omega);simp only [e105];clear e105
 conv=>cbv
 obtain ⟨z106,hz106⟩:∃z:Nat,z=j101*10:=⟨_,rfl⟩
 have ez106:(p.nm j101 10)=z106:=by rw [hz106];exact wJ hp
 simp only [ez106]
 conv=>cbv
 have ez107:(p.na 0 z106)=z106:=by rw [uQ hp];omega
 simp only [ez107];clear ez107
 conv=>cbv
 obtain ⟨z108,hz108⟩:∃z:Nat,z=z90-j101:=⟨_,rfl⟩
 have ez108:(p.ns z90 j101)=z108:=by rw [hz108];exact CO hp
 simp only [ez108]
 conv=>cbv
 obtain ⟨z109,hz109⟩:∃z:Nat,z=z108*10:=⟨_,rfl⟩
 have ez109:(p.nm z108 10)=z109:=by rw [hz109];exact wJ hp
 simp only [ez109]
 conv=>cbv
 obtain ⟨z110,hz110⟩:∃z:Nat,z=z106+z109:=⟨_,rfl⟩
 have ez110:(p.na z106 z109)=z110:=by rw [hz110];exact uQ hp
 simp only [ez110]
 conv=>cbv
 obtain ⟨z111,hz111⟩:∃z:List DV,z=((cs).drop 0).take z96:=⟨_,rfl⟩
 have ez111:(p.cut cs 0 z96)=z111:=by rw [hz111];exact FT hp
 simp only [ez111];have lz111:z111.length=min z96 ((cs).length-0):=by rw [hz111];simp only [List.length_take,List.length_drop,List.length_cons,List.length_nil]<;>omega
 conv=>cbv
 obtain ⟨z112,hz112⟩:∃z:List DV,z=qA z89 ([DV.val (Value.string {data:={toList:=[]}}),DV.val (Value.string {data:={toList:=[]}}),
  DV.val (Value.string {data:={toList:=[]}}),DV.val (Value.int .i64 0),
  DV.val (Value.int .i64 0),DV.val (Value.int .i64 0),DV.val (Value.int .i64 0),
  DV.val (Value.int .i64 0),DV.val (Value.int .i64 0),DV.val (Value.bool false)]):=⟨_,rfl⟩
 have ez112:(p.rep z89 ([DV.val (Value.string {data:={toList:=[]}}),DV.val (Value.string {data:={toList:=[]}}),
  DV.val (Value.string {data:={toList:=[]}}),DV.val (Value.int .i64 0),
  DV.val (Value.int .i64 0),DV.val (Value.int .i64 0),DV.val (Value.int .i64 0),
  DV.val (Value.int .i64 0),DV.val (Value.int .i64 0),DV.val (Value.bool false)]))=z112:=by rw [hz112];exact aje hp
 simp only [ez112];have lz112:z112.length=z89*10:=by rw [hz112,J4]<;>(try simp only [List.length_cons,List.length_nil])<;>omega
 conv=>cbv
 obtain ⟨z113,hz113⟩:∃z:List DV,z=z111++z112:=⟨_,rfl⟩
 have ez113:(p.app z111 z112)=z113:=by rw [hz113];exact Ig hp
 simp only [ez113];have lz113:z113.length=(z111).length+(z112).length:=by rw [hz113];simp only [List.length_append,List.length_cons,List.length_nil]<;>omega
 conv=>cbv
 obtain ⟨z114,hz114⟩:∃z:Nat,z=(z113).length:=⟨_,rfl⟩
 have ez114:(p.len z113)=z114:=by rw [hz114];exact xB hp
 simp only [ez114]
 conv=>cbv
 have e115:(p.nle z110 z114)=true:=pF hp (by omega);simp only [e115];clear e115
 conv=>cbv
 obtain ⟨z116,hz116⟩:∃z:Int,z=kz+1:=⟨_,rfl⟩
 have ez116:(p.ar .add .i64 kz 1)=z116:=by rw [hz116];exact X3 hp (by omega) (by omega)
 simp only [ez116]
 conv=>cbv
 obtain ⟨j117,hj117,lj117,ej117⟩:=kF (i:=z116) (n:=z90) hp (by omega) (by omega);simp only [ej117]
 conv=>cbv
 simp only [ej76]
 conv=>cbv
 simp only [ez96]
 conv=>cbv
 have ez118:(p.na 0 z96)=z96:=by rw [uQ hp];omega
 simp only [ez118];clear ez118
 conv=>cbv
 obtain ⟨z119,hz119⟩:∃z:Nat,z=n-j76:=⟨_,rfl⟩
 have ez119:(p.ns n j76)=z119:=by rw [hz119];exact CO hp
 simp only [ez119]
 conv=>cbv
 obtain ⟨z120,hz120⟩:∃z:Nat,z=z119*10:=⟨_,rfl⟩
 have ez120:(p.nm z119 10)=z120:=by rw [hz120];exact wJ hp
 simp only [ez120]
 conv=>cbv
 obtain ⟨z121,hz121⟩:∃z:Nat,z=z96+z120:=⟨_,rfl⟩
 have ez121:(p.na z96 z120)=z121:=by rw [hz121];exact uQ hp
 simp only [ez121]
 conv=>cbv
 simp only [ez98]
 conv=>cbv
 have e122:(p.nle z121 z98)=true:=pF hp (by omega);simp only [e122];clear e122
 conv=>cbv
 obtain ⟨z123,hz123⟩:∃z:Nat,z=j117*10:=⟨_,rfl⟩
 have ez123:(p.nm j117 10)=z123:=by rw [hz123];exact wJ hp
 simp only [ez123]
 conv=>cbv
 have ez124:(p.na 0 z123)=z123:=by rw [uQ hp];omega
 simp only [ez124];clear ez124
 conv=>cbv
 obtain ⟨z125,hz125⟩:∃z:Nat,z=z90-j117:=⟨_,rfl⟩
 have ez125:(p.ns z90 j117)=z125:=by rw [hz125];exact CO hp
 simp only [ez125]
 conv=>cbv
 obtain ⟨z126,hz126⟩:∃z:Nat,z=z125*10:=⟨_,rfl⟩
 have ez126:(p.nm z125 10)=z126:=by rw [hz126];exact wJ hp
 simp only [ez126]
 conv=>cbv
 obtain ⟨z127,hz127⟩:∃z:Nat,z=z123+z126:=⟨_,rfl⟩
 have ez127:(p.na z123 z126)=z127:=by rw [hz127];exact uQ hp
 simp only [ez127]
 conv=>cbv
 have ez128:(p.cut vs 0 10)=vs:=uS hp (by omega);simp only [ez128]
 conv=>cbv
 obtain ⟨z129,hz129⟩:∃z:Nat,z=min 1 z108:=⟨_,rfl⟩
 have ez129:(p.nmin 1 z108)=z129:=by rw [hz129];exact Qo hp
 simp only [ez129]
 conv=>cbv
 obtain ⟨z130,hz130⟩:∃z:Nat,z=z129*10:=⟨_,rfl⟩
 have ez130:(p.nm z129 10)=z130:=by rw [hz130];exact wJ hp
 simp only [ez130]
 conv=>cbv
 have ez131:(p.cut vs 0 z130)=vs:=uS hp (by omega);simp only [ez131]
 conv=>cbv
 obtain ⟨z132,hz132⟩:∃z:List DV,z=splice z113 z106 vs:=⟨_,rfl⟩
 have ez132:(p.spl z113 z106 vs)=z132:=by rw [hz132];exact X9 hp
 simp only [ez132];have lz132:z132.length=(z113).length:=by rw [hz132,uT _ _ _ (by (try simp only [List.length_cons,List.length_nil]);omega)]<;>(try simp only [List.length_cons,List.length_nil])<;>omega
 conv=>cbv
 obtain ⟨z133,hz133⟩:∃z:Nat,z=(z132).length:=⟨_,rfl⟩
 have ez133:(p.len z132)=z133:=by rw [hz133];exact xB hp
 simp only [ez133]
 conv=>cbv
 have e134:(p.nle z127 z133)=true:=pF hp (by omega);simp only [e134];clear e134
 conv=>cbv
 obtain ⟨z135,hz135⟩:∃z:List DV,z=((cs).drop z96).take z120:=⟨_,rfl⟩
 have ez135:(p.cut cs z96 z120)=z135:=by rw [hz135];exact FT hp
 simp only [ez135];have lz135:z135.length=min z120 ((cs).length-z96):=by rw [hz135];simp only [List.length_take,List.length_drop,List.length_cons,List.length_nil]<;>omega
 conv=>cbv
 obtain ⟨z136,hz136⟩:∃z:Nat,z=min z119 z125:=⟨_,rfl⟩
 have ez136:(p.nmin z119 z125)=z136:=by rw [hz136];exact Qo hp
 simp only [ez136]
 conv=>cbv
 obtain ⟨z137,hz137⟩:∃z:Nat,z=z136*10:=⟨_,rfl⟩
 have ez137:(p.nm z136 10)=z137:=by rw [hz137];exact wJ hp
 simp only [ez137]
 conv=>cbv
 have ez138:(p.cut z135 0 z137)=z135:=uS hp (by omega);simp only [ez138]
 conv=>cbv
 obtain ⟨z139,hz139⟩:∃z:List DV,z=splice z132 z123 z135:=⟨_,rfl⟩
 have ez139:(p.spl z132 z123 z135)=z139:=by rw [hz139];exact X9 hp
 simp only [ez139];have lz139:z139.length=(z132).length:=by rw [hz139,uT _ _ _ (by (try simp only [List.length_cons,List.length_nil]);omega)]<;>(try simp only [List.length_cons,List.length_nil])<;>omega
 conv=>cbv
 obtain rfl:T=z139:=by
  have e1:z135=cs.drop (i*10):=by rw [hz135,List.take_of_length_le (by rw [List.length_drop];omega),show z96=i*10 from by omega]
  rw [hz139,hz132,hz113,hz111,e1,List.drop_zero,show z96=i*10 from by omega,show z106=i*10 from by omega,show z123=i*10+10 from by omega,aa7 (by omega) (by omega) (by omega),hT]
 obtain rfl:N=z90:=by omega
 exact qh [(20000003,1908),(20000001,20000001),(20000002,20000002)] rfl rfl ⟨⟨rfl,rfl,rfl⟩,trivial,⟨rfl,rfl,rfl⟩,trivial⟩ rfl rfl
theorem akW {cs T:List DV} {n i c N:Nat} (hT:T=cs.take (i*10)++cs.drop ((i+1)*10)) (hN:N+1=n) {kz kj:Int} (hkz:kz=i) (hkj:kj=i+1) (hw:cs.length=n*10) (h2:n<=1000000) (hi:i<n) (hc:n<=c) (hc2:c<=9223372036854775807):fB Try.prog (fun _=>none) 88 [.sl 20000001 0 n (some c),.d (.val (.int .i64 kz)),.d (.val (.int .i64 kj))] [(20000001,.data 29 10 cs true)] (.sl 20000001 0 N (some c)) [(20000001,.data 29 10 T true)]:=by
 refine mZ KK (fn:=Try.f88) Try.func88 rfl (by show 3<=_;decide) ?_;intro C F p hC hF hp
 conv=>cbv
 obtain ⟨z140,hz140⟩:∃z:Int,z=((n:Nat):Int):=⟨_,rfl⟩
 have ez140:(p.zi n)=z140:=by rw [hz140];exact aaJ hp
 simp only [ez140]
 conv=>cbv
 obtain ⟨j141,hj141,lj141,ej141⟩:=kF (i:=z140) (n:=n) hp (by omega) (by omega);simp only [ej141]
 conv=>cbv
 obtain ⟨j142,hj142,lj142,ej142⟩:=kF (i:=kj) (n:=j141) hp (by omega) (by omega);simp only [ej142]
 conv=>cbv
 obtain ⟨j143,hj143,lj143,ej143⟩:=kF (i:=kz) (n:=j142) hp (by omega) (by omega);simp only [ej143]
 conv=>cbv
 have e145:(p.cmp .eql kz kj)=false:=by rw [kU hp];exact decide_eq_false (by omega)
 simp only [e145];clear e145
 conv=>cbv
 obtain ⟨j146,hj146,lj146,ej146⟩:=kF (i:=kz) (n:=n) hp (by omega) (by omega);simp only [ej146]
 conv=>cbv
 obtain ⟨j147,hj147,lj147,ej147⟩:=kF (i:=kj) (n:=n) hp (by omega) (by omega);simp only [ej147]
 conv=>cbv
 obtain ⟨z148,hz148⟩:∃z:Nat,z=j147*10:=⟨_,rfl⟩
 have ez148:(p.nm j147 10)=z148:=by rw [hz148];exact wJ hp
 simp only [ez148]
 conv=>cbv
 have ez149:(p.na 0 z148)=z148:=by rw [uQ hp];omega
 simp only [ez149];clear ez149
 conv=>cbv
 obtain ⟨z150,hz150⟩:∃z:Nat,z=n-j147:=⟨_,rfl⟩
 have ez150:(p.ns n j147)=z150:=by rw [hz150];exact CO hp
 simp only [ez150]
 conv=>cbv
 obtain ⟨z151,hz151⟩:∃z:Nat,z=z150*10:=⟨_,rfl⟩
 have ez151:(p.nm z150 10)=z151:=by rw [hz151];exact wJ hp
 simp only [ez151]
 conv=>cbv
 obtain ⟨z152,hz152⟩:∃z:Nat,z=z148+z151:=⟨_,rfl⟩
 have ez152:(p.na z148 z151)=z152:=by rw [hz152];exact uQ hp
 simp only [ez152]
 conv=>cbv
 obtain ⟨z153,hz153⟩:∃z:Nat,z=(cs).length:=⟨_,rfl⟩
 have ez153:(p.len cs)=z153:=by rw [hz153];exact xB hp
 simp only [ez153]
 conv=>cbv
 have e154:(p.nle z152 z153)=true:=pF hp (by omega);simp only [e154];clear e154
 conv=>cbv
 have ez155:(p.ns c 0)=c:=by rw [CO hp];omega
 simp only [ez155];clear ez155
 conv=>cbv
 have ez156:(p.ns j146 0)=j146:=by rw [CO hp];omega
 simp only [ez156];clear ez156
 conv=>cbv
 have e158:(p.neq c j146)=false:=ac1 hp (by omega);simp only [e158];clear e158
 conv=>cbv
 have ez159:(p.nm 0 10)=0:=by rw [hp];rfl
 simp only [ez159];clear ez159
 conv=>cbv
 have ez160:(p.na 0 0)=0:=by rw [hp];rfl
 simp only [ez160];clear ez160
 conv=>cbv
 have e161:(p.neq 0 0)=true:=vX hp (by omega);simp only [e161];clear e161
 conv=>cbv
 obtain ⟨z162,hz162⟩:∃z:Nat,z=j146+z150:=⟨_,rfl⟩
 have ez162:(p.na j146 z150)=z162:=by rw [hz162];exact uQ hp
 simp only [ez162]
 conv=>cbv
 have e163:(p.nle z162 c)=true:=pF hp (by omega);simp only [e163];clear e163
 conv=>cbv
 obtain ⟨z164,hz164⟩:∃z:Nat,z=z162*10:=⟨_,rfl⟩
 have ez164:(p.nm z162 10)=z164:=by rw [hz164];exact wJ hp
 simp only [ez164]
 conv=>cbv
 simp only [ez153]
 conv=>cbv
 have e165:(p.nle z164 z153)=true:=pF hp (by omega);simp only [e165];clear e165
 conv=>cbv
 simp only [ez140]
 conv=>cbv
 have e167:(p.ixle (z140) (z162))=none:=YJ hp (by omega);simp only [e167];clear e167
 conv=>cbv
 obtain ⟨j168,hj168,lj168,ej168⟩:=kF (i:=z140) (n:=c) hp (by omega) (by omega);simp only [ej168]
 conv=>cbv
 obtain ⟨z169,hz169⟩:∃z:Int,z=((z162:Nat):Int):=⟨_,rfl⟩
 have ez169:(p.zi z162)=z169:=by rw [hz169];exact aaJ hp
 simp only [ez169]
 conv=>cbv
 obtain ⟨j170,hj170,lj170,ej170⟩:=kF (i:=z169) (n:=j168) hp (by omega) (by omega);simp only [ej170]
 conv=>cbv
 obtain ⟨z171,hz171⟩:∃z:Nat,z=j168-j170:=⟨_,rfl⟩
 have ez171:(p.ns j168 j170)=z171:=by rw [hz171];exact CO hp
 simp only [ez171]
 conv=>cbv
 have e172:(p.nle 1 z171)=true:=pF hp (by omega);simp only [e172];clear e172
 conv=>cbv
 obtain ⟨z173,hz173⟩:∃z:Nat,z=j170*10:=⟨_,rfl⟩
 have ez173:(p.nm j170 10)=z173:=by rw [hz173];exact wJ hp
 simp only [ez173]
 conv=>cbv
 have ez174:(p.na 0 z173)=z173:=by rw [uQ hp];omega
 simp only [ez174];clear ez174
 conv=>cbv
 obtain ⟨z175,hz175⟩:∃z:Nat,z=j146*10:=⟨_,rfl⟩
 have ez175:(p.nm j146 10)=z175:=by rw [hz175];exact wJ hp
 simp only [ez175]
 conv=>cbv
 obtain ⟨z176,hz176⟩:∃z:List DV,z=((cs).drop z148).take z151:=⟨_,rfl⟩
 have ez176:(p.cut cs z148 z151)=z176:=by rw [hz176];exact FT hp
 simp only [ez176];have lz176:z176.length=min z151 ((cs).length-z148):=by rw [hz176];simp only [List.length_take,List.length_drop,List.length_cons,List.length_nil]<;>omega
 conv=>cbv
 obtain ⟨z177,hz177⟩:∃z:List DV,z=splice cs z175 z176:=⟨_,rfl⟩
 have ez177:(p.spl cs z175 z176)=z177:=by rw [hz177];exact X9 hp
 simp only [ez177];have lz177:z177.length=(cs).length:=by rw [hz177,uT _ _ _ (by (try simp only [List.length_cons,List.length_nil]);omega)]<;>(try simp only [List.length_cons,List.length_nil])<;>omega
 conv=>cbv
 obtain ⟨z178,hz178⟩:∃z:Nat,z=(z177).length:=⟨_,rfl⟩
 have ez178:(p.len z177)=z178:=by rw [hz178];exact xB hp
 simp only [ez178]
 conv=>cbv
 have e179:(p.nle z173 z178)=true:=pF hp (by omega);simp only [e179];clear e179
 conv=>cbv
 obtain ⟨z180,hz180⟩:∃z:List DV,z=((z177).drop 0).take z173:=⟨_,rfl⟩
 have ez180:(p.cut z177 0 z173)=z180:=by rw [hz180];exact FT hp
 simp only [ez180];have lz180:z180.length=min z173 ((z177).length-0):=by rw [hz180];simp only [List.length_take,List.length_drop,List.length_cons,List.length_nil]<;>omega
 conv=>cbv
 obtain rfl:T=z180:=by
  have e1:z176=cs.drop ((i+1)*10):=by rw [hz176,List.take_of_length_le (by rw [List.length_drop];omega),show z148=(i+1)*10 from by omega]
  rw [hz180,hz177,e1,List.drop_zero,show z175=i*10 from by omega,show z173=i*10+(cs.length-(i+1)*10) from by omega,aeh (by omega) (by omega),hT]
 obtain rfl:N=z162:=by omega
 exact qh [(20000001,20000001)] rfl rfl ⟨⟨rfl,rfl,rfl⟩,trivial⟩ rfl rfl
theorem aB {α β:Type} (a:α) (f:α->Option β):ah (some a) f=f a:=rfl
theorem aK {α β:Type} (f:α->Option β):ah none f=none:=rfl
theorem aX {α β:Type} (a:α) (f:α->Option β):aA (some (.inl a)) f=f a:=rfl
theorem bC {α β:Type} (b:β) (f:α->Option β):aA (some (.inr b)) f=some b:=rfl
theorem aN {α β:Type} (f:α->Option β):aA none f=none:=rfl
theorem bD {α β:Type} (b:β):(au (some b):Option (α ⊕ β))=some (.inr b):=rfl
theorem bF {α β:Type}:(au none:Option (α ⊕ β))=none:=rfl
theorem aO {α:Type} (p:Prop) [Decidable p] (a b:α):(bif decide p then a else b)=if p then a else b:=by by_cases h:p<;>simp [h]
theorem aej {α:Type} (p q:Bool) (a b:α):(bif (p&&q) then a else b)=bif p then (bif q then a else b) else b:=by cases p<;>rfl
theorem ag4 {α:Type} (p q:Bool) (a b:α):(bif (p||q) then a else b)=bif p then a else (bif q then a else b):=by cases p<;>rfl
theorem cond_not {α:Type} (p:Bool) (a b:α):(bif (!p) then a else b)=bif p then b else a:=by cases p<;>rfl
theorem Jl (p q:Prop) [Decidable p] [Decidable q]:(decide p&&decide q)=decide (p/\q):=by by_cases h:p<;>by_cases k:q<;>simp [h,k]
theorem Gw {α β:Type} (p:Prop) [Decidable p] (a b:Option α) (f:α->Option β):ah (if p then a else b) f=if p then ah a f else ah b f:=by split<;>rfl
theorem Gx {α β:Type} (p:Prop) [Decidable p] (a b:Option (α ⊕ β)) (f:α->Option β):aA (if p then a else b) f=if p then aA a f else aA b f:=by split<;>rfl
theorem KT {α β:Type} (p:Prop) [Decidable p] (a b:Option β):(au (if p then a else b):Option (α ⊕ β))=if p then au a else au b:=by split<;>rfl
theorem iU {α β:Type} {x:Option α} {f:α->Option β} {a:α} {r:Option β} (h:x=some a) (k:f a=r):ah x f=r:=by rw [h];exact k
theorem kG {α β:Type} {x:Option (α ⊕ β)} {f:α->Option β} {a:α} {r:Option β} (h:x=some (.inl a)) (k:f a=r):aA x f=r:=by rw [h];exact k
theorem aa8 {α β:Type} {x:Option (α ⊕ β)} {f:α->Option β} {b:β} (h:x=some (.inr b)):aA x f=some b:=by rw [h];rfl
theorem EJ {α:Type} {l:List α} {i:Nat} (h1:i<l.length):l[((i:Nat):Int).toNat]? = some l[i]:=by rw [Int.toNat_natCast];exact List.getElem?_eq_getElem h1
theorem UF {υ β:Type} {body:υ->Option (υ ⊕ β)} (st:Nat->υ):∀(n:Nat) {r:β},(∀i,i<n->body (st i)=some (.inl (st (i+1))))->body (st n)=some (.inr r)->ay body (st 0)=some r:=by
 intro n r h he
 suffices hs:∀k,k<=n->ay body (st (n-k))=some r by
  have:=hs n (Nat.le_refl n)
  rwa [Nat.sub_self] at this
 intro k
 induction k with
 | zero=>intro _;rw [Nat.sub_zero,dR,he]
 | succ k ih =>
   intro hk;rw [dR,h (n-(k+1)) (by omega)];simp only;rw [show n-(k+1)+1=n-k from by omega];exact ih (by omega)
theorem bG {υ β:Type} {body:υ->Option (υ ⊕ β)} {x:υ} (st:Nat->υ) (n:Nat) {r:β} (h0:st 0=x) (h:∀i,i<n->body (st i)=some (.inl (st (i+1)))) (he:body (st n)=some (.inr r)):ay body x=some r:=by
 rw [<-h0];exact UF st n h he
theorem least {p:Nat->Prop} (h:∃n,p n):∃n,p n/\∀m,m<n->¬p m:=by
 obtain ⟨n,hn⟩:=h
 induction n using Nat.strongRecOn with
 | _ n ih =>
   by_cases hx:∃m,m<n/\p m
   ·obtain ⟨m,h1,h2⟩:=hx;exact ih m h1 h2
   ·exact ⟨n,hn,fun m hm hp=>hx ⟨m,hm,hp⟩⟩
theorem tZ {υ β:Type} {body:υ->Option (υ ⊕ β)} (st:Nat->υ) (m:Nat) (bad:Nat->Prop) {r0 r1:β} {x:υ} (hx:st 0=x) (h1:∀i,i<m->¬bad i->body (st i)=some (.inl (st (i+1)))) (h2:∀i,i<m->bad i->body (st i)=some (.inr r1)) (h3:body (st m)=some (.inr r0)) :
 ((∃i,i<m/\bad i)/\ay body x=some r1)\/((¬ ∃i,i<m/\bad i)/\ay body x=some r0):=by
 by_cases h:∃i,i<m/\bad i
 ·left;refine ⟨h,?_⟩;obtain ⟨k,⟨k1,k2⟩,k3⟩:=least h;exact bG st k hx (fun i hi=>h1 i (by omega) fun hb=>k3 i hi ⟨by omega,hb⟩) (h2 k k1 k2)
 ·right;exact ⟨h,bG st m hx (fun i hi=>h1 i hi fun hb=>h ⟨i,hi,hb⟩) h3⟩
theorem NZ {υ α β:Type} {body:υ->Option (υ ⊕ (α ⊕ β))} {f:α->Option β} {x:υ} (Q:Option β->Prop) (st:Nat->υ) (m:Nat) (bad:Nat->Prop) (r0 r1:α ⊕ β) (hx:st 0=x) (h1:∀i,i<m->¬bad i->body (st i)=some (.inl (st (i+1)))) (h2:∀i,i<m->bad i->body (st i)=some (.inr r1)) (h3:body (st m)=some (.inr r0))
 (k1:(∃i,i<m/\bad i)->Q (aA (some r1) f)) (k0:(¬ ∃i,i<m/\bad i)->Q (aA (some r0) f)):Q (aA (ay body x) f):=by
 rcases tZ st m bad hx h1 h2 h3 with ⟨h,e⟩ | ⟨h,e⟩
 ·rw [e];exact k1 h
 ·rw [e];exact k0 h
theorem YK {α:Type} {l:List α} {i:Nat} (d:α) (h1:i<l.length):l[((i:Nat):Int).toNat]? = some (l.getD i d):=by rw [EJ h1,List.getD_eq_getElem?_getD,List.getElem?_eq_getElem h1];rfl
theorem Gy {α:Type} {l:List α} {i:Nat} (d:α) (h1:i<l.length):l[i]? = some (l.getD i d):=by rw [List.getD_eq_getElem?_getD,List.getElem?_eq_getElem h1];rfl
theorem aek {α:Type} {l:List α} {i:Nat} (d:α) (h1:i<l.length):l.getD i d=l[i]:=by rw [List.getD_eq_getElem?_getD,List.getElem?_eq_getElem h1];rfl
theorem aa9 {υ1 υ2 β1 β2:Type} {b1:υ1->Option (υ1 ⊕ β1)} {b2:υ2->Option (υ2 ⊕ β2)} (R:υ1->υ2->Prop) (S:β1->β2->Prop)
 (h:∀x y,R x y->(∃x' y',b1 x=some (.inl x')/\b2 y=some (.inl y')/\R x' y')\/(∃r s,b1 x=some (.inr r)/\b2 y=some (.inr s)/\S r s)) {x:υ1} {y:υ2} (hxy:R x y) {s:β2} (hs:ay b2 y=some s):∃r,ay b1 x=some r/\S r s:=by
 have hr:=pI.1 hs;clear hs
 induction hr generalizing x with
 | done hd =>
   rcases h _ _ hxy with ⟨x',y',h1,h2,h3⟩ | ⟨r,s',h1,h2,h3⟩
   ·rw [hd] at h2;cases h2
   ·rw [hd] at h2;cases h2;exact ⟨r,by rw [dR,h1],h3⟩
 | step hd _ ih =>
   rcases h _ _ hxy with ⟨x',y',h1,h2,h3⟩ | ⟨r,s',h1,h2,h3⟩
   ·rw [hd] at h2;cases h2;obtain ⟨r,q1,q2⟩:=ih h3;exact ⟨r,by rw [dR,h1];exact q1,q2⟩
   ·rw [hd] at h2;cases h2
def Dn {υ1 υ2 α β:Type} (R:υ1->υ2->Prop) (k:α->Option β) (o1:Option (υ1 ⊕ (α ⊕ β))) (o2:Option (υ2 ⊕ β)):Prop :=
 (∃x y,o1=some (.inl x)/\o2=some (.inl y)/\R x y)\/∃r s,o1=some (.inr r)/\o2=some (.inr s)/\aA (some r) k=some s
section
variable {υ1 υ2 α β γ:Type} {R:υ1->υ2->Prop} {k:α->Option β} {o2:Option (υ2 ⊕ β)}
theorem Dn.next {x:υ1} {y:υ2} (h:R x y):Dn R k (some (.inl x)) (some (.inl y)) := .inl ⟨x,y,rfl,rfl,h⟩
theorem Dn.stop {r:α ⊕ β} {s:β} (h:aA (some r) k=some s):Dn R k (some (.inr r)) (some (.inr s)) := .inr ⟨r,s,rfl,rfl,h⟩
theorem Dn.join {x:Option (γ ⊕ (υ1 ⊕ (α ⊕ β)))} {f:γ->Option (υ1 ⊕ (α ⊕ β))} (a:γ) (h:x=some (.inl a)) (hk:Dn R k (f a) o2):Dn R k (aA x f) o2:=by rw [h];exact hk
theorem Dn.bind {x:Option γ} {f:γ->Option (υ1 ⊕ (α ⊕ β))} (a:γ) (h:x=some a) (hk:Dn R k (f a) o2):Dn R k (ah x f) o2:=by rw [h];exact hk
end
theorem Xa {υ1 υ2 α β:Type} {b1:υ1->Option (υ1 ⊕ (α ⊕ β))} {b2:υ2->Option (υ2 ⊕ β)} {k:α->Option β} (R:υ1->υ2->Prop)
 (h:∀x y,R x y->Dn R k (b1 x) (b2 y)) {x:υ1} {y:υ2} (hxy:R x y) {s:β} (hs:ay b2 y=some s):aA (ay b1 x) k=some s:=by
 obtain ⟨r,h1,h2⟩:=aa9 R (fun r s=>aA (some r) k=some s) h hxy hs;rw [h1];exact h2
theorem Dp {υ β:Type} {body:υ->Option (υ ⊕ β)} (I:υ->Prop) (Q:β->Prop) (μ:υ->Nat) (h:∀x,I x->(∃b,body x=some (.inr b)/\Q b)\/∃y,body x=some (.inl y)/\I y/\μ y<μ x) {x:υ} (hx:I x):∃r,ay body x=some r/\Q r:=by
 suffices hs:∀n x,μ x<=n->I x->∃r,ay body x=some r/\Q r from hs _ x (Nat.le_refl _) hx
 intro n
 induction n with
 | zero =>
   intro x hm hx;rcases h x hx with ⟨b,h1,h2⟩ | ⟨y,h1,h2,h3⟩
   ·exact ⟨b,by rw [dR,h1],h2⟩
   ·omega
 | succ n ih =>
   intro x hm hx;rcases h x hx with ⟨b,h1,h2⟩ | ⟨y,h1,h2,h3⟩
   ·exact ⟨b,by rw [dR,h1],h2⟩
   ·obtain ⟨r,hr,hq⟩:=ih y (by omega) h2;exact ⟨r,by rw [dR,h1];exact hr,hq⟩
def wu {υ β:Type} (I:υ->Prop) (Q:β->Prop) (μ:υ->Nat) (m:Nat) (o:Option (υ ⊕ β)):Prop:=(∃b,o=some (.inr b)/\Q b)\/∃y,o=some (.inl y)/\I y/\μ y<m
section
variable {υ β γ:Type} {I:υ->Prop} {Q:β->Prop} {μ:υ->Nat} {m:Nat}
theorem wu.next {y:υ} (h:I y) (k:μ y<m):wu I Q μ m (some (.inl y)) := .inr ⟨y,rfl,h,k⟩
theorem wu.stop {b:β} (h:Q b):wu I Q μ m (some (.inr b)) := .inl ⟨b,rfl,h⟩
theorem wu.join {x:Option (γ ⊕ (υ ⊕ β))} {f:γ->Option (υ ⊕ β)} (a:γ) (h:x=some (.inl a)) (hk:wu I Q μ m (f a)):wu I Q μ m (aA x f):=by rw [h];exact hk
theorem wu.bind {x:Option γ} {f:γ->Option (υ ⊕ β)} (a:γ) (h:x=some a) (hk:wu I Q μ m (f a)):wu I Q μ m (ah x f):=by rw [h];exact hk
theorem UG {α β:Type} {body:υ->Option (υ ⊕ (α ⊕ β))} {k:α->Option β} (I:υ->Prop) (μ:υ->Nat) (P:Option β->Prop) (h:∀x,I x->wu I (fun r=>P (aA (some r) k)) μ (μ x) (body x)) {x:υ} (hx:I x):P (aA (ay body x) k):=by
 obtain ⟨r,h1,h2⟩:=Dp I (fun r=>P (aA (some r) k)) μ h hx;rw [h1];exact h2
end
theorem ael {α:Type} {f l:List α} (h:l.length=f.length):zW f 0 l=l:=by
 unfold zW;rw [List.take_zero,List.nil_append,Nat.zero_add,h,List.drop_length,List.append_nil]
theorem aj {n:Int} (h : -9223372036854775808<=n/\n<=9223372036854775807):IntKind.wrap .i64 n=n:=wrap_i64 h.1 h.2
theorem zh (n:Int):IntKind.wrap .u8 n=n % 256:=by
 show (if (false&&decide (n % 256>=128))=true then n % 256-256 else n % 256)=_;simp
theorem Gz (n:Int):IntKind.wrap .u32 n=n % 4294967296:=by
 show (if (false&&decide (n % 4294967296>=2147483648))=true then n % 4294967296-4294967296 else n % 4294967296)=_;simp
theorem Dq (n:Int):IntKind.wrap .u64 n=n % 18446744073709551616:=by
 show (if (false&&decide (n % 18446744073709551616>=9223372036854775808))=true then n % 18446744073709551616-18446744073709551616 else n % 18446744073709551616)=_;simp
theorem aor {n:Int} (h:YI (.int .u8) n):0<=n/\n<=255:=wf_u8 h
theorem aju {n:Int} (h:YI (.int .u16) n):0<=n/\n<=65535:=wf_u16 h
def Bytes (l:List Int):Prop:=∀x∈l,0<=x/\x<=255
theorem Bytes.app {a b:List Int} (h:Bytes a) (k:Bytes b):Bytes (a++b):=fun x hx=>by
 rcases List.mem_append.1 hx with e | e
 ·exact h x e
 ·exact k x e
theorem Bytes.take {l:List Int} (h:Bytes l) (n:Nat):Bytes (l.take n):=fun x hx=>h x (List.mem_of_mem_take hx)
theorem Bytes.drop {l:List Int} (h:Bytes l) (n:Nat):Bytes (l.drop n):=fun x hx=>h x (List.mem_of_mem_drop hx)
theorem Bytes.get {l:List Int} (h:Bytes l) {i:Nat} (hi:i<l.length):0<=l[i]/\l[i]<=255:=h _ (List.getElem_mem hi)
theorem Bytes.getD {l:List Int} (h:Bytes l) (i:Nat):0<=l.getD i 0/\l.getD i 0<=255:=by
 rw [List.getD_eq_getElem?_getD];cases hi:l[i]? with
 | none=>simp
 | some x=>exact h x (List.mem_of_getElem? hi)
theorem KU {x y:Int} (hx:0<=x/\x<=255) (hy:0<=y/\y<=255):IntKind.wrap .i64 (((BitVec.toNat ((BitVec.ofInt 64 (IntKind.wrap .i64 ((IntKind.wrap .i64 x)*(256:Int)))) ||| (BitVec.ofInt 64 (IntKind.wrap .i64 y)))):Nat):Int)=256*x+y:=by
 obtain ⟨a,rfl⟩:=Int.eq_ofNat_of_zero_le hx.1;obtain ⟨b,rfl⟩:=Int.eq_ofNat_of_zero_le hy.1;rw [aj (n:=(a:Int)) (by omega),aj (n:=(b:Int)) (by omega),aj (n:=(a:Int)*256) (by omega)];rw [BitVec.toNat_or,show ((a:Int)*256)=((a*256:Nat):Int) from by omega,BitVec.ofInt_natCast,BitVec.ofInt_natCast,BitVec.toNat_ofNat,BitVec.toNat_ofNat,Nat.mod_eq_of_lt (by omega),Nat.mod_eq_of_lt (by omega)];have:=Nat.shiftLeft_add_eq_or_of_lt (i:=8) (b:=b) (by omega) a;rw [Nat.shiftLeft_eq] at this;rw [<-this,aj (by omega)];omega
theorem wO (l:List Int):(ni l).length=l.length:=by unfold ni;rw [List.length_map]
theorem Xb {a b:List Int} (ha:Bytes a) (hb:Bytes b):ni a=ni b↔a=b:=by
 constructor
 ·intro h;have hl:a.length=b.length:=by rw [<-wO a,<-wO b,h]
  refine List.ext_getElem hl fun i h1 h2 => ?_;have:=congrArg (fun l=>l[i]?) h;simp only [ni,List.getElem?_map,List.getElem?_eq_getElem h1,List.getElem?_eq_getElem h2,Option.map_some,Option.some.injEq] at this;have e:=congrArg UInt8.toNat this;rw [UInt8.toNat_ofNat',UInt8.toNat_ofNat'] at e;have:=ha.get h1;have:=hb.get h2;omega
 ·rintro rfl;rfl
set_option maxHeartbeats 4000000
set_option maxRecDepth 10000
theorem abb {e z q:Nat} {cs:List DV} {hp:List (Nat×AO)} (h:look q hp=some (.data e z cs true)):Back [] hp [(20000003,.data e z [] true)] (.sl 20000003 0 0 none) (.sl q 0 0 none):=by
 refine ⟨fun r=>if r=20000003 then some q else none,fun r o h=>(by cases h),⟨fun r' o ho => ?_,fun r' r'' o' o'' r h1 h2 h3 h4 h5 h6 => ?_⟩,?_⟩
 ·unfold aJ at ho;rw [look] at ho;split at ho
  ·rename_i hk;subst hk;cases ho;show ∃wr1 cs1,_;exact ⟨true,cs,h,.inr (.inr ⟨0,by simp⟩),fun h=>h,fun h=>by cases h⟩
  ·cases ho
 ·split at h5
  ·split at h6
   ·rename_i a b;rw [a,b]
   ·cases h6
  ·cases h5
 ·rw [gG];exact ⟨rfl,.inl ⟨q,if_pos rfl,rfl⟩⟩
theorem Xc {e z:Nat} {hp:List (Nat×AO)}:Back [] hp [(20000003,.data e z [] true)] (.sl 20000003 0 0 none) (.d (.val (.slice none 0 0))):=by
 refine ⟨fun r=>none,fun r o h=>(by cases h),⟨fun r' o ho => ?_,fun r' r'' o' o'' r h1 h2 h3 h4 h5 h6=>(by cases h5)⟩,?_⟩
 ·unfold aJ at ho;rw [look] at ho;split at ho
  ·rename_i hk;subst hk;cases ho;rfl
  ·cases ho
 ·rw [gG];exact ⟨rfl,.inr (.inl ⟨rfl,rfl,rfl,rfl,rfl⟩)⟩
theorem aos {n:Int} (h1:1<=n) (h2:n<=1000000):fB Try.prog (fun _=>none) 99 [.d (.val (.slice none 0 0)),.d (.val (.int .i64 n))] [] (.sl 20000003 0 0 none) [(20000003,.data 29 10 [] true)]:=by
 refine mZ KK (fn:=Try.f99) Try.func99 rfl (by show 2<=_;decide) ?_;intro C F p hC hF hp
 conv=>cbv
 have e2:(p.cmp .lss n 0)=false:=by rw [AX hp];exact decide_eq_false (by omega)
 simp only [e2];clear e2
 conv=>cbv
 have ez3:(p.ar .sub .i64 0 0)=(0):=by rw [hp];rfl
 simp only [ez3];clear ez3
 conv=>cbv
 obtain ⟨z4,hz4⟩:∃z:Int,z=n-0:=⟨_,rfl⟩
 have ez4:(p.ar .sub .i64 n 0)=z4:=by rw [hz4];exact ajc hp (by omega) (by omega)
 simp only [ez4]
 conv=>cbv
 have e5:(p.cmp .gtr z4 0)=true:=by rw [pz hp];exact decide_eq_true (by omega)
 simp only [e5];clear e5
 conv=>cbv
 obtain ⟨j6,hj6,lj6,ej6⟩:=kF (i:=0) (n:=0) hp (by omega) (by omega);simp only [ej6]
 conv=>cbv
 have e7:(p.cmp .lss 0 z4)=true:=by rw [AX hp];exact decide_eq_true (by omega)
 simp only [e7];clear e7
 conv=>cbv
 have e8:(p.cmp .leq z4 140737488355328)=true:=by rw [OO hp];exact decide_eq_true (by omega)
 simp only [e8];clear e8
 conv=>cbv
 obtain ⟨z9,hz9⟩:∃z:Nat,z=(z4).toNat:=⟨_,rfl⟩
 have ez9:(p.tn z4)=z9:=by rw [hz9];exact anR hp
 simp only [ez9]
 conv=>cbv
 have e10:(p.nle 1 z9)=true:=pF hp (by omega);simp only [e10];clear e10
 conv=>cbv
 have e11:(p.fit 0 z9 104)=true:=JZ hp (by omega) (by show _<=9223372036854775807;omega);simp only [e11];clear e11
 conv=>cbv
 have ez12:(p.na 0 z9)=z9:=by rw [uQ hp];omega
 simp only [ez12];clear ez12
 conv=>cbv
 obtain ⟨j13,hj13,lj13,ej13⟩:=kF (i:=0) (n:=z9) hp (by omega) (by omega);simp only [ej13]
 conv=>cbv
 have ez14:(p.nm 0 10)=0:=by rw [hp];rfl
 simp only [ez14];clear ez14
 conv=>cbv
 have ez15:(p.na 0 0)=0:=by rw [hp];rfl
 simp only [ez15];clear ez15
 conv=>cbv
 have ez16:(p.ns j13 0)=j13:=by rw [CO hp];omega
 simp only [ez16];clear ez16
 conv=>cbv
 obtain ⟨z17,hz17⟩:∃z:List DV,z=qA z9 ([DV.val (Value.string {data:={toList:=[]}}),DV.val (Value.string {data:={toList:=[]}}),
  DV.val (Value.string {data:={toList:=[]}}),DV.val (Value.int .i64 0),
  DV.val (Value.int .i64 0),DV.val (Value.int .i64 0),DV.val (Value.int .i64 0),
  DV.val (Value.int .i64 0),DV.val (Value.int .i64 0),DV.val (Value.bool false)]):=⟨_,rfl⟩
 have ez17:(p.rep z9 ([DV.val (Value.string {data:={toList:=[]}}),DV.val (Value.string {data:={toList:=[]}}),
  DV.val (Value.string {data:={toList:=[]}}),DV.val (Value.int .i64 0),
  DV.val (Value.int .i64 0),DV.val (Value.int .i64 0),DV.val (Value.int .i64 0),
  DV.val (Value.int .i64 0),DV.val (Value.int .i64 0),DV.val (Value.bool false)]))=z17:=by rw [hz17];exact aje hp
 simp only [ez17];have lz17:z17.length=z9*10:=by rw [hz17,J4]<;>(try simp only [List.length_cons,List.length_nil])<;>omega
 conv=>cbv
 have ez18:(p.app [] z17)=z17:=by rw [Ig hp];rfl
 simp only [ez18];clear ez18
 conv=>cbv
 obtain rfl:j13=0:=by omega
 exact abb rfl
theorem aot:fB Try.prog (fun _=>none) 99 [.d (.val (.slice none 0 0)),.d (.val (.int .i64 0))] [] (.sl 20000003 0 0 none) [(20000003,.data 29 10 [] true)]:=by
 refine mZ KK (fn:=Try.f99) Try.func99 rfl (by show 2<=_;decide) ?_;intro C F p hC hF hp
 conv=>cbv
 have e20:(p.cmp .lss 0 0)=false:=by rw [AX hp];exact decide_eq_false (by omega)
 simp only [e20];clear e20
 conv=>cbv
 have ez21:(p.ar .sub .i64 0 0)=(0):=by rw [hp];rfl
 simp only [ez21];clear ez21
 conv=>cbv
 have e23:(p.cmp .gtr 0 0)=false:=by rw [pz hp];exact decide_eq_false (by omega)
 simp only [e23];clear e23
 conv=>cbv
 exact Xc
theorem KW {a b:Nat} {o x:AO} {t:List (Nat×AO)}:aJ ((a,o)::(b,.dead)::t)=aJ ((a,o)::(b,.dead)::(b,x)::t):=by
 funext q;simp only [aJ,look];by_cases h1:a=q
 ·rw [if_pos h1,if_pos h1]
 ·rw [if_neg h1,if_neg h1];by_cases h2:b=q
  ·rw [if_pos h2,if_pos h2]
  ·rw [if_neg h2,if_neg h2,if_neg h2]
def Q5 {α:Type}:List α×(Int×List α)->Option (List α):=fun (l,(i,v))=>bif decide (l.length<=1000000) then bif decide (0<=i/\i<=(l.length:Int)) then bif decide (v.length=1) then some (l.take i.toNat++v++l.drop i.toNat) else none else none else none
def N7 {α:Type}:List α×(Int×Int)->Option (List α):=fun (l,(i,j))=>bif decide (l.length<=1000000) then bif decide (0<=i/\i<(l.length:Int)) then bif decide (j=i+1) then some (l.take i.toNat++l.drop (i.toNat+1)) else none else none else none
def Iw {α:Type}:Int->Option (List α):=fun n=>bif decide (0<=n/\n<=1000000) then some [] else none
theorem YL:aV Try.prog 46 ⟨[.tmp 0 false [.own 20000001 29 pV],.tmp 1 false [.dat (.int .i64)],.tmp 2 false [.own 20000002 29 pV]],[.tmp 0 false [.own 20000003 29 pV],.dead 20000001],Q5⟩:=by
 refine ⟨by kernel_rfl,?_⟩;rintro ⟨l,i,v⟩ x hx;show fB Try.prog iY 46 [.sl 20000001 0 l.length none,dV .i64 i,.sl 20000002 0 v.length none] [(20000001,.data 29 (fK pV) (aI pV l) true),(20000002,.data 29 (fK pV) (aI pV v) true)] (.sl 20000003 0 x.length none) [(20000003,.data 29 (fK pV) (aI pV x) true),(20000001,.dead),(20000001,.data 29 (fK pV) (aI pV l) true),(20000002,.data 29 (fK pV) (aI pV v) true)];replace hx:Q5 (l,(i,v))=some x:=hx;unfold Q5 at hx;simp only [aO] at hx;split at hx
 ·rename_i hl;split at hx
  ·rename_i hi;split at hx
   ·rename_i hv;obtain ⟨b,rfl⟩:=List.length_eq_one_iff.1 hv;cases hx;obtain ⟨k,rfl⟩:=Int.eq_ofNat_of_zero_le hi.1;have hk:k<=l.length:=by omega
    have hw:(aI pV l).length=l.length*10:=bI _ _;have hv':(aI pV [b]).length=1*10:=bI _ _;have hT:aI pV (l.take k++[b]++l.drop k)=(aI pV l).take (k*10)++aI pV [b]++(aI pV l).drop (k*10):=by
     rw [jJ,jJ,<-gy,<-jo];rfl
    have hN:(l.take k++[b]++l.drop k).length=l.length+1:=by simp;omega
    rw [Int.toNat_natCast];refine UE (us:=[(20000003,.data 29 10 (aI pV (l.take k++[b]++l.drop k)) true),(20000001,.dead),(20000002,.data 29 10 (aI pV [b]) true)]) ?_ KW;by_cases hkl:k=l.length
    ·refine ag3 ?_ hN (by omega) hw hv' hl;rw [hT,hkl,List.take_of_length_le (by omega),List.drop_eq_nil_of_le (by omega),List.append_nil]
    ·refine KR (os:=[(20000002,.data 29 10 (aI pV [b]) true)]) (os':=[(20000002,.data 29 10 (aI pV [b]) true)]) (by omega) (by decide) rfl fun c h1 h2 => ?_;by_cases hc:l.length+1<=c
     ·exact .inl (akV hT hN rfl hw hv' hl (by omega) hc h2)
     ·obtain rfl:c=l.length:=by omega
      exact .inr (aei hT hN rfl hw hv' hl (by omega))
   ·cases hx
  ·cases hx
 ·cases hx
theorem YM:aV Try.prog 88 ⟨[.tmp 0 false [.own 20000001 29 pV],.tmp 1 false [.dat (.int .i64)],.tmp 2 false [.dat (.int .i64)]],[.tmp 0 false [.own 20000003 29 pV],.dead 20000001],N7⟩:=by
 refine ⟨by kernel_rfl,?_⟩;rintro ⟨l,i,j⟩ x hx;show fB Try.prog iY 88 [.sl 20000001 0 l.length none,dV .i64 i,dV .i64 j] [(20000001,.data 29 (fK pV) (aI pV l) true)] (.sl 20000003 0 x.length none) [(20000003,.data 29 (fK pV) (aI pV x) true),(20000001,.dead),(20000001,.data 29 (fK pV) (aI pV l) true)];replace hx:N7 (l,(i,j))=some x:=hx;unfold N7 at hx;simp only [aO] at hx;split at hx
 ·rename_i hl;split at hx
  ·rename_i hi;split at hx
   ·rename_i hv;cases hx;obtain ⟨k,rfl⟩:=Int.eq_ofNat_of_zero_le hi.1;have hk:k<l.length:=by omega
    have hw:(aI pV l).length=l.length*10:=bI _ _;have hT:aI pV (l.take k++l.drop (k+1))=(aI pV l).take (k*10)++(aI pV l).drop ((k+1)*10):=by
     rw [jJ,<-gy,<-jo];rfl
    have hN:(l.take k++l.drop (k+1)).length+1=l.length:=by simp;omega
    rw [Int.toNat_natCast];refine UE (us:=[(20000003,.data 29 10 (aI pV (l.take k++l.drop (k+1))) true),(20000001,.dead)]) ?_ KW;refine KR (os:=[]) (os':=[]) (by omega) (by decide) rfl fun c h1 h2 => ?_;exact .inl (akW hT hN rfl hv hw hl hk h1 h2)
   ·cases hx
  ·cases hx
 ·cases hx
theorem aem:aV Try.prog 99 ⟨[.tmp 0 false [.nil],.tmp 1 false [.dat (.int .i64)]],[.tmp 0 false [.own 20000003 29 pV]],Iw⟩:=by
 refine ⟨by kernel_rfl,?_⟩;intro (n:Int) x hx;show fB Try.prog iY 99 [.d (.val (.slice none 0 0)),dV .i64 n] [] (.sl 20000003 0 x.length none) [(20000003,.data 29 (fK pV) (aI pV x) true)];replace hx:Iw n=some x:=hx;unfold Iw at hx;simp only [aO] at hx;split at hx
 ·rename_i h;cases hx;by_cases h0:n=0
  ·subst h0;exact aot
  ·exact aos (by omega) h.2
 ·cases hx
set_option maxHeartbeats 4000000
set_option maxRecDepth 10000
theorem abd:fB Try.prog (fun _=>none) 47 [.d (.dl [] 0 none)] [] (.sl 1 0 0 none) [(1,.data 29 10 [] true)]:=by
 refine mZ KK (fn:=Try.f47) Try.func47 rfl (by show 1<=_;decide) ?_;intro C F p hC hF hp;have e1:p.emp []=true:=by rw [hp];rfl
 conv=>cbv
 simp only [e1]
 conv=>cbv
 refine ⟨TT,?_⟩
 conv=>cbv
 have ez1:(p.len [])=0:=by rw [hp];rfl
 simp only [ez1];clear ez1
 conv=>cbv
 have ez2:(p.nm 0 10)=0:=by rw [hp];rfl
 simp only [ez2];clear ez2
 conv=>cbv
 have e3:(p.neq 0 0)=true:=vX hp (by omega);simp only [e3];clear e3
 conv=>cbv
 have e4:(p.neq 0 0)=true:=vX hp (by omega);simp only [e4];clear e4
 conv=>cbv
 have ez5:(p.nm 0 10)=0:=by rw [hp];rfl
 simp only [ez5];clear ez5
 conv=>cbv
 have ez6:(p.len [])=0:=by rw [hp];rfl
 simp only [ez6];clear ez6
 conv=>cbv
 have e7:(p.neq 0 0)=true:=vX hp (by omega);simp only [e7];clear e7
 conv=>cbv
 have e8:(p.fit 0 0 104)=true:=JZ hp (by omega) (by show _<=9223372036854775807;omega);simp only [e8];clear e8
 conv=>cbv
 have ez9:(p.na 0 0)=0:=by rw [hp];rfl
 simp only [ez9];clear ez9
 conv=>cbv
 have ez10:(p.app [] [])=[]:=by rw [Ig hp];rfl
 simp only [ez10];clear ez10
 conv=>cbv
 exact qh [(1,1302)] rfl rfl ⟨⟨rfl,rfl,rfl⟩,trivial⟩ rfl rfl
set_option maxHeartbeats 4000000
set_option maxRecDepth 10000
def jZ {α:Type} (l:List α):Option (List α):=bif decide (l.length<=1000000) then some l else none
theorem abe {cs:List DV} {n:Nat} (hw:cs.length=n*10) (h1:1<=n) (h2:n<=1000000):fB Try.prog (fun _=>none) 47 [.d (.dl cs n none)] [] (.sl 1 0 n none) [(1,.data 29 10 cs true)]:=by
 refine mZ KK (fn:=Try.f47) Try.func47 rfl (by show 1<=_;decide) ?_;intro C F p hC hF hp
 conv=>cbv
 have e1:(p.emp cs)=false:=Qq hp (by omega);simp only [e1];clear e1
 conv=>cbv
 obtain ⟨z2,hz2⟩:∃z:Nat,z=(cs).length:=⟨_,rfl⟩
 have ez2:(p.len cs)=z2:=by rw [hz2];exact xB hp
 simp only [ez2]
 conv=>cbv
 obtain ⟨z3,hz3⟩:∃z:Nat,z=n*10:=⟨_,rfl⟩
 have ez3:(p.nm n 10)=z3:=by rw [hz3];exact wJ hp
 simp only [ez3]
 conv=>cbv
 have e4:(p.neq z2 z3)=true:=vX hp (by omega);simp only [e4];clear e4
 conv=>cbv
 have e5:(p.neq 0 0)=true:=vX hp (by omega);simp only [e5];clear e5
 conv=>cbv
 have ez6:(p.nm 0 10)=0:=by rw [hp];rfl
 simp only [ez6];clear ez6
 conv=>cbv
 have ez7:(p.len [])=0:=by rw [hp];rfl
 simp only [ez7];clear ez7
 conv=>cbv
 have e8:(p.neq 0 0)=true:=vX hp (by omega);simp only [e8];clear e8
 conv=>cbv
 have e9:(p.fit 0 n 104)=true:=JZ hp (by omega) (by show _<=9223372036854775807;omega);simp only [e9];clear e9
 conv=>cbv
 have ez10:(p.na 0 n)=n:=by rw [uQ hp];omega
 simp only [ez10];clear ez10
 conv=>cbv
 have ez11:(p.app [] cs)=cs:=by rw [Ig hp];rfl
 simp only [ez11];clear ez11
 conv=>cbv
 exact qh [(1,1302)] rfl rfl ⟨⟨rfl,rfl,rfl⟩,trivial⟩ rfl rfl
theorem sJ:aV Try.prog 47 ⟨[.tmp 0 false [.dat (.list (.pair .str (.pair .str (.pair .str (.pair (.int .i64) (.pair (.int .i64) (.pair (.int .i64) (.pair (.int .i64) (.pair (.int .i64) (.pair (.int .i64) .bool))))))))))]],[.tmp 0 false [.own 1 29 (.pair .str (.pair .str (.pair .str (.pair (.int .i64) (.pair (.int .i64) (.pair (.int .i64) (.pair (.int .i64) (.pair (.int .i64) (.pair (.int .i64) .bool)))))))))]],jZ⟩:=by
 refine ⟨by kernel_rfl,?_⟩;show ∀(a x:List ((List UInt8)×((List UInt8)×((List UInt8)×((Int)×((Int)×((Int)×((Int)×((Int)×((Int)×(Bool))))))))))),jZ a=some x->fB Try.prog iY 47 [.d (.dl (aI (.pair .str (.pair .str (.pair .str (.pair (.int .i64) (.pair (.int .i64) (.pair (.int .i64) (.pair (.int .i64) (.pair (.int .i64) (.pair (.int .i64) .bool))))))))) a) a.length none)] [] (.sl 1 0 x.length none) [(1,.data 29 (fK (.pair .str (.pair .str (.pair .str (.pair (.int .i64) (.pair (.int .i64) (.pair (.int .i64) (.pair (.int .i64) (.pair (.int .i64) (.pair (.int .i64) .bool)))))))))) (aI (.pair .str (.pair .str (.pair .str (.pair (.int .i64) (.pair (.int .i64) (.pair (.int .i64) (.pair (.int .i64) (.pair (.int .i64) (.pair (.int .i64) .bool))))))))) x) true)];intro a x hx;unfold jZ at hx;rw [aO] at hx;split at hx
 ·cases hx;by_cases h0:a=[]
  ·subst h0;exact abd
  ·refine abe ?_ (by cases a with | nil=>exact absurd rfl h0 | cons _ _=>simp) (by assumption);exact bI _ _
 ·cases hx
set_option maxHeartbeats 4000000
set_option maxRecDepth 10000
theorem Xd {e z:Nat}:Back [(20000001,.data e z [] true)] [(20000001,.data e z [] true)] [(20000002,.data e z [] true),(20000001,.data e z [] true)] (.sl 20000002 0 0 none) (.d (.val (.slice none 0 0))):=by
 refine ⟨fun r=>if r=20000001 then some 20000001 else none,fun r o h => ?_,⟨fun r' o ho => ?_,fun r' r'' o' o'' r h1 h2 h3 h4 h5 h6 => ?_⟩,?_⟩
 ·rw [look] at h;split at h
  ·rename_i hk;subst hk;exact ⟨if_pos rfl,rfl⟩
  ·cases h
 ·unfold aJ at ho;rw [look] at ho;unfold vM;split at ho
  ·rename_i hk;subst hk;cases ho;exact rfl
  ·rw [look] at ho;split at ho
   ·rename_i hk;subst hk;cases ho;show ∃wr1 cs1,_;exact ⟨true,[],rfl,.inl rfl,fun h=>h,fun h=>by cases h⟩
   ·cases ho
 ·split at h5
  ·split at h6
   ·rename_i a b;rw [a,b]
   ·cases h6
  ·cases h5
 ·rw [gG];exact ⟨rfl,.inr (.inl ⟨by rw [if_neg (by decide)],rfl,rfl,rfl,rfl⟩)⟩
theorem abf:fB Try.prog (fun _=>none) 47 [.sl 20000001 0 0 none] [(20000001,.data 29 10 [] true)] (.sl 20000002 0 0 none) [(20000002,.data 29 10 [] true),(20000001,.data 29 10 [] true)]:=by
 refine mZ KK (fn:=Try.f47) Try.func47 rfl (by show 1<=_;decide) ?_;intro C F p hC hF hp
 conv=>cbv
 have e1:(p.neq 0 0)=true:=vX hp (by omega);simp only [e1];clear e1
 conv=>cbv
 refine ⟨Xd,?_⟩
 conv=>cbv
 have ez2:(p.nm 0 10)=0:=by rw [hp];rfl
 simp only [ez2];clear ez2
 conv=>cbv
 have ez3:(p.na 0 0)=0:=by rw [hp];rfl
 simp only [ez3];clear ez3
 conv=>cbv
 have ez4:(p.len [])=0:=by rw [hp];rfl
 simp only [ez4];clear ez4
 conv=>cbv
 have e5:(p.nle 0 0)=true:=pF hp (by omega);simp only [e5];clear e5
 conv=>cbv
 have e6:(p.neq 0 0)=true:=vX hp (by omega);simp only [e6];clear e6
 conv=>cbv
 have ez7:(p.nm 0 10)=0:=by rw [hp];rfl
 simp only [ez7];clear ez7
 conv=>cbv
 have ez8:(p.len [])=0:=by rw [hp];rfl
 simp only [ez8];clear ez8
 conv=>cbv
 have e9:(p.neq 0 0)=true:=vX hp (by omega);simp only [e9];clear e9
 conv=>cbv
 have e10:(p.fit 0 0 104)=true:=JZ hp (by omega) (by show _<=9223372036854775807;omega);simp only [e10];clear e10
 conv=>cbv
 have ez11:(p.na 0 0)=0:=by rw [hp];rfl
 simp only [ez11];clear ez11
 conv=>cbv
 have ez12:(p.cut [] 0 0)=[]:=by rw [hp];rfl
 simp only [ez12];clear ez12
 conv=>cbv
 have ez13:(p.app [] [])=[]:=by rw [Ig hp];rfl
 simp only [ez13];clear ez13
 conv=>cbv
 exact qh [(20000002,1302),(20000001,20000001)] rfl rfl ⟨⟨rfl,rfl,rfl⟩,⟨rfl,rfl,rfl⟩,trivial⟩ rfl rfl
theorem abg {cs:List DV} {n:Nat} (hw:cs.length=n*10) (h1:1<=n) (h2:n<=1000000):fB Try.prog (fun _=>none) 47 [.sl 20000001 0 n none] [(20000001,.data 29 10 cs true)] (.sl 20000002 0 n none) [(20000002,.data 29 10 cs true),(20000001,.data 29 10 cs true)]:=by
 refine mZ KK (fn:=Try.f47) Try.func47 rfl (by show 1<=_;decide) ?_;intro C F p hC hF hp
 conv=>cbv
 have e15:(p.neq n 0)=false:=ac1 hp (by omega);simp only [e15];clear e15
 conv=>cbv
 obtain ⟨z16,hz16⟩:∃z:Nat,z=n*10:=⟨_,rfl⟩
 have ez16:(p.nm n 10)=z16:=by rw [hz16];exact wJ hp
 simp only [ez16]
 conv=>cbv
 have ez17:(p.na 0 z16)=z16:=by rw [uQ hp];omega
 simp only [ez17];clear ez17
 conv=>cbv
 obtain ⟨z18,hz18⟩:∃z:Nat,z=(cs).length:=⟨_,rfl⟩
 have ez18:(p.len cs)=z18:=by rw [hz18];exact xB hp
 simp only [ez18]
 conv=>cbv
 have e19:(p.nle z16 z18)=true:=pF hp (by omega);simp only [e19];clear e19
 conv=>cbv
 have e20:(p.neq 0 0)=true:=vX hp (by omega);simp only [e20];clear e20
 conv=>cbv
 have ez21:(p.nm 0 10)=0:=by rw [hp];rfl
 simp only [ez21];clear ez21
 conv=>cbv
 have ez22:(p.len [])=0:=by rw [hp];rfl
 simp only [ez22];clear ez22
 conv=>cbv
 have e23:(p.neq 0 0)=true:=vX hp (by omega);simp only [e23];clear e23
 conv=>cbv
 have e24:(p.fit 0 n 104)=true:=JZ hp (by omega) (by show _<=9223372036854775807;omega);simp only [e24];clear e24
 conv=>cbv
 have ez25:(p.na 0 n)=n:=by rw [uQ hp];omega
 simp only [ez25];clear ez25
 conv=>cbv
 have ez26:(p.cut cs 0 z16)=cs:=uS hp (by omega);simp only [ez26]
 conv=>cbv
 have ez27:(p.app [] cs)=cs:=by rw [Ig hp];rfl
 simp only [ez27];clear ez27
 conv=>cbv
 exact qh [(20000002,1302),(20000001,20000001)] rfl rfl ⟨⟨rfl,rfl,rfl⟩,⟨rfl,rfl,rfl⟩,trivial⟩ rfl rfl
theorem qp:aV Try.prog 47 ⟨[.tmp 0 false [.own 20000001 29 (.pair .str (.pair .str (.pair .str (.pair (.int .i64) (.pair (.int .i64) (.pair (.int .i64) (.pair (.int .i64) (.pair (.int .i64) (.pair (.int .i64) .bool)))))))))]],[.tmp 0 false [.own 20000002 29 (.pair .str (.pair .str (.pair .str (.pair (.int .i64) (.pair (.int .i64) (.pair (.int .i64) (.pair (.int .i64) (.pair (.int .i64) (.pair (.int .i64) .bool)))))))))]],jZ⟩:=by
 refine ⟨by kernel_rfl,?_⟩;show ∀(a x:List ((List UInt8)×((List UInt8)×((List UInt8)×((Int)×((Int)×((Int)×((Int)×((Int)×((Int)×(Bool))))))))))),jZ a=some x->fB Try.prog iY 47 [.sl 20000001 0 a.length none] [(20000001,.data 29 (fK (.pair .str (.pair .str (.pair .str (.pair (.int .i64) (.pair (.int .i64) (.pair (.int .i64) (.pair (.int .i64) (.pair (.int .i64) (.pair (.int .i64) .bool)))))))))) (aI (.pair .str (.pair .str (.pair .str (.pair (.int .i64) (.pair (.int .i64) (.pair (.int .i64) (.pair (.int .i64) (.pair (.int .i64) (.pair (.int .i64) .bool))))))))) a) true)] (.sl 20000002 0 x.length none) [(20000002,.data 29 (fK (.pair .str (.pair .str (.pair .str (.pair (.int .i64) (.pair (.int .i64) (.pair (.int .i64) (.pair (.int .i64) (.pair (.int .i64) (.pair (.int .i64) .bool)))))))))) (aI (.pair .str (.pair .str (.pair .str (.pair (.int .i64) (.pair (.int .i64) (.pair (.int .i64) (.pair (.int .i64) (.pair (.int .i64) (.pair (.int .i64) .bool))))))))) x) true),(20000001,.data 29 (fK (.pair .str (.pair .str (.pair .str (.pair (.int .i64) (.pair (.int .i64) (.pair (.int .i64) (.pair (.int .i64) (.pair (.int .i64) (.pair (.int .i64) .bool)))))))))) (aI (.pair .str (.pair .str (.pair .str (.pair (.int .i64) (.pair (.int .i64) (.pair (.int .i64) (.pair (.int .i64) (.pair (.int .i64) (.pair (.int .i64) .bool))))))))) a) true)];intro a x hx;unfold jZ at hx;rw [aO] at hx;split at hx
 ·cases hx;by_cases h0:a=[]
  ·subst h0;exact abf
  ·refine abg ?_ (by cases a with | nil=>exact absurd rfl h0 | cons _ _=>simp) (by assumption);exact bI _ _
 ·cases hx
set_option maxRecDepth 1000000
set_option maxHeartbeats 0
def ag5:List (Nat×PL):=[]
def gJ:(Int×(Int×Int))->Option Bool:=fun (a1,(a2,a3)) =>
 bif (decide (a1>=1)) then
 bif (decide (a1<=127)) then
 bif (decide (0<=a2)) then
 bif (decide (a2<a3)) then
 some (decide (a3<=1440))
 else
 some false
 else
 some false
 else
 some false
 else
 some false
def YN:List (Nat×CE):=[]
theorem KX:dZ Try.prog YN:=trivial
theorem akX:aV Try.prog 118 ⟨[(.tmp 0 true [Gv,dI,dI])],[(.tmp 0 false [dO])],gJ⟩ :=nT ag5 fC KX Try.func118
def ag6:List (Nat×PL):=[]
def dF:Int->Option Bool:=fun a1 =>
 bif (decide (a1>=0)) then
 some (decide (a1<=1000000000))
 else
 some false
def YO:List (Nat×CE):=(118,⟨[(.tmp 0 true [Gv,dI,dI])],[(.tmp 0 false [dO])],gJ⟩)::YN
theorem KY:dZ Try.prog YO:=⟨akX,KX⟩
theorem akY:aV Try.prog 117 ⟨[(.tmp 0 false [dI])],[(.tmp 0 false [dO])],dF⟩ :=nT ag6 fC KY Try.func117
def akZ:List (Nat×PL):=[(262657,(.carry [])),(134480385,(.carry [])),(18049651601311750,(.carry [.tmp 3 false [dI]])),(35253226045953,(.carry [])),(4731607904558101301254,(.carry [.tmp 4 false [dI]]))]
def cu:(LU×(Int×(Int×(Int×(List ((Int×(Int×Int))×(Int×Int)))))))->Option Bool:=fun (a1,(a2,(a3,(a4,a5)))) =>
 aA (bif (decide ((a1.length:Int) > 20)) then
 au (some false)
 else
 ah (dF a2) fun x6 =>
 bif (!x6) then
 au (some false)
 else
 bif (decide (a3<1)) then
 au (some false)
 else
 bif (decide (a3 > 3600)) then
 au (some false)
 else
 bif (decide (a4<1)) then
 au (some false)
 else
 bif (decide (a4 > 3600)) then
 au (some false)
 else
 some (Sum.inl ())) fun _ =>
 aA (ay (fun v7 =>
 bif (decide (v7<(a1.length:Int))) then
 bif (decide ((0<=v7)/\(v7<(a1.length:Int)))) then
 bif (decide ((((UInt8.toNat (List.getD a1 v7.toNat (0:UInt8))):Nat):Int)<48)) then
 au (au (some false))
 else
 bif (decide ((0<=v7)/\(v7<(a1.length:Int)))) then
 bif (decide ((((UInt8.toNat (List.getD a1 v7.toNat (0:UInt8))):Nat):Int) > 57)) then
 au (au (some false))
 else
 some (Sum.inl (IntKind.wrap .i64 (v7+(1:Int))))
 else none
 else none
 else
 au (some (Sum.inl ()))) (0:Int)) fun _ =>
 bif (decide ((a5.length:Int)<1)) then
 some false
 else
 bif (decide ((a5.length:Int) > 20)) then
 some false
 else
 aA (ay (fun v9 =>
 bif (decide (v9<(a5.length:Int))) then
 bif (decide ((0<=v9)/\(v9<(a5.length:Int)))) then
 ah a5[v9.toNat]? fun x10 =>
 ah (gJ (x10.1.1,(x10.1.2.1,x10.1.2.2))) fun x11 =>
 bif (!x11) then
 au (au (some false))
 else
 ah (dF x10.2.1) fun x12 =>
 bif (!x12) then
 au (au (some false))
 else
 ah (dF x10.2.2) fun x13 =>
 bif (!x13) then
 au (au (some false))
 else
 some (Sum.inl (IntKind.wrap .i64 (v9+(1:Int))))
 else none
 else
 au (some (Sum.inl ()))) (0:Int)) fun _ =>
 ah (some (IntKind.wrap .i64 ((a5.length:Int)-(1:Int)))) fun x15 =>
 bif (decide ((0<=x15)/\(x15<(a5.length:Int)))) then
 ah a5[x15.toNat]? fun x16 =>
 bif (decide (x16.1.1=127)) then
 bif (decide (x16.1.2.1=0)) then
 some (decide (x16.1.2.2=1440))
 else
 some false
 else
 some false
 else none
def aen:List (Nat×CE):=(117,⟨[(.tmp 0 false [dI])],[(.tmp 0 false [dO])],dF⟩)::YO
theorem Pn:dZ Try.prog aen:=⟨akY,KY⟩
theorem aou:aV Try.prog 89 ⟨[(.tmp 0 true [dS,dI,dI,dI,(.dat (.list (.pair (.pair vP (.pair dH dH)) (.pair dH dH))))])],[(.tmp 0 false [dO])],cu⟩ :=nT akZ fC Pn Try.func89
def ak0:List (Nat×PL):=[(262657,(.carry [])),(134480385,(.carry [])),(18049651601311750,(.carry [.tmp 3 false [dI]])),(4731607869374267392513,(.carry [.tmp 4 false [dI]])),(166478651854509821417867418488014854,(.carry [.tmp 4 false [dI]]))]
def dG:((List (LU×(Int×(Int×(Int×(List ((Int×(Int×Int))×(Int×Int))))))))×Int)->Option Bool:=fun (a1,a2) =>
 aA (bif (decide ((a1.length:Int) > 1000)) then
 au (some false)
 else
 bif (decide (a2<0)) then
 au (some false)
 else
 bif (decide (a2 > 3600)) then
 au (some false)
 else
 some (Sum.inl ())) fun _ =>
 aA (ay (fun v3 =>
 bif (decide (v3<(a1.length:Int))) then
 aA (bif (decide ((0<=v3)/\(v3<(a1.length:Int)))) then
 ah a1[v3.toNat]? fun x4 =>
 ah (cu (x4.1,(x4.2.1,(x4.2.2.1,(x4.2.2.2.1,x4.2.2.2.2))))) fun x5 =>
 bif (!x5) then
 au (au (au (some false)))
 else
 ay (fun v6 =>
 bif (decide (v6<v3)) then
 bif (decide ((0<=v6)/\(v6<(a1.length:Int)))) then
 ah a1[v6.toNat]? fun x7 =>
 bif (decide ((0<=v3)/\(v3<(a1.length:Int)))) then
 ah a1[v3.toNat]? fun x8 =>
 bif (decide (x7.1=x8.1)) then
 au (au (au (au (some false))))
 else
 some (Sum.inl (IntKind.wrap .i64 (v6+(1:Int))))
 else none
 else none
 else
 au (some (Sum.inl v6))) (0:Int)
 else none) fun v10 =>
 some (Sum.inl (IntKind.wrap .i64 (v3+(1:Int))))
 else
 au (some (Sum.inl ()))) (0:Int)) fun _ =>
 some true
def aeo:List (Nat×CE):=(89,⟨[(.tmp 0 true [dS,dI,dI,dI,(.dat (.list (.pair (.pair vP (.pair dH dH)) (.pair dH dH))))])],[(.tmp 0 false [dO])],cu⟩)::aen
theorem Po:dZ Try.prog aeo:=⟨aou,Pn⟩
theorem aov:aV Try.prog 63 ⟨[(.tmp 0 true [(.dat (.list (.pair .str (.pair dH (.pair dH (.pair dH (.list (.pair (.pair vP (.pair dH dH)) (.pair dH dH))))))))),dI])],[(.tmp 0 false [dO])],dG⟩ :=nT ak0 fC Po Try.func63
def ag7:List (Nat×PL):=[]
def fP:(LU×LU)->Option Bool:=fun (a1,a2) =>
 bif (decide ((a1.length:Int)>=(a2.length:Int))) then
 bif (decide ((0<=(a2.length:Int))/\((a2.length:Int)<=(a1.length:Int)))) then
 some (decide ((List.take (Int.toNat (a2.length:Int)) a1)=a2))
 else none
 else
 some false
def YP:List (Nat×CE):=(63,⟨[(.tmp 0 true [(.dat (.list (.pair .str (.pair dH (.pair dH (.pair dH (.list (.pair (.pair vP (.pair dH dH)) (.pair dH dH))))))))),dI])],[(.tmp 0 false [dO])],dG⟩)::aeo
theorem KZ:dZ Try.prog YP:=⟨aov,Po⟩
theorem ak1:aV Try.prog 132 ⟨[(.tmp 0 false [dS]),(.tmp 1 false [dS])],[(.tmp 0 false [dO])],fP⟩ :=nT ag7 fC KZ Try.func132
def ag8:List (Nat×PL):=[(134480385,(.carry [])),(18049651601311750,(.carry [.tmp 6 false [dI]])),(4731607869374267392513,(.carry [.tmp 7 false [dI]])),(325153616903339494956772301735942,(.carry [.tmp 7 false [dI]]))]
def eU:(((List (LU×(Int×(Int×(Int×(List ((Int×(Int×Int))×(Int×Int))))))))×Int)×LU)->Option (Int×Bool):=fun ((a1,a2),a3) =>
 ah (dG (a1,a2)) fun x4 =>
 bif (!x4) then
 some ((0:Int),false)
 else
 aA (ay (fun v5 =>
 bif (decide (v5>=0)) then
 aA (ay (fun v6 =>
 bif (decide (v6<(a1.length:Int))) then
 bif (decide ((0<=v6)/\(v6<(a1.length:Int)))) then
 ah a1[v6.toNat]? fun x7 =>
 bif (decide ((x7.1.length:Int)=v5)) then
 bif (decide ((0<=v6)/\(v6<(a1.length:Int)))) then
 ah a1[v6.toNat]? fun x8 =>
 ah (fP (a3,x8.1)) fun x9 =>
 bif x9 then
 au (au (au (au (some (v6,true)))))
 else
 some (Sum.inl (IntKind.wrap .i64 (v6+(1:Int))))
 else none
 else
 some (Sum.inl (IntKind.wrap .i64 (v6+(1:Int))))
 else none
 else
 au (some (Sum.inl v6))) (0:Int)) fun v12 =>
 some (Sum.inl (IntKind.wrap .i64 (v5-(1:Int))))
 else
 au (some (Sum.inl ()))) (20:Int)) fun _ =>
 some ((0:Int),false)
def YQ:List (Nat×CE):=(132,⟨[(.tmp 0 false [dS]),(.tmp 1 false [dS])],[(.tmp 0 false [dO])],fP⟩)::YP
theorem La:dZ Try.prog YQ:=⟨ak1,KZ⟩
theorem ak2:aV Try.prog 119 ⟨[(.tmp 0 true [(.dat (.list (.pair .str (.pair dH (.pair dH (.pair dH (.list (.pair (.pair vP (.pair dH dH)) (.pair dH dH))))))))),dI]),(.tmp 1 false [dS])],[(.tmp 0 false [dI]),(.tmp 1 false [dO])],eU⟩ :=nT ag8 fC La Try.func119
def ag9:List (Nat×PL):=[]
def fQ:(Int×Int)->Option Bool:=fun (a1,a2) =>
 bif (decide (a1>=0)) then
 bif (decide (a2>=0)) then
 bif (decide (a1<=281474976710656)) then
 bif (decide (a2<=281474976710656)) then
 some (decide (a1<=a2))
 else
 some false
 else
 some false
 else
 some false
 else
 some false
def YR:List (Nat×CE):=(119,⟨[(.tmp 0 true [(.dat (.list (.pair .str (.pair dH (.pair dH (.pair dH (.list (.pair (.pair vP (.pair dH dH)) (.pair dH dH))))))))),dI]),(.tmp 1 false [dS])],[(.tmp 0 false [dI]),(.tmp 1 false [dO])],eU⟩)::YQ
theorem Lc:dZ Try.prog YR:=⟨ak2,La⟩
theorem ak3:aV Try.prog 115 ⟨[(.tmp 0 false [dI]),(.tmp 1 false [dI])],[(.tmp 0 false [dO])],fQ⟩ :=nT ag9 fC Lc Try.func115
def ak4:List (Nat×PL):=[]
def bK:(Int×Int)->Option Int:=fun (a1,a2) =>
 ah (fQ (a1,a2)) fun x3 =>
 bif (!x3) then
 some (0:Int)
 else
 ah (some (IntKind.wrap .i64 (Int.tdiv (IntKind.wrap .i64 (a2-a1)) (1000:Int)))) fun x5 =>
 bif (decide ((Int.tmod (IntKind.wrap .i64 (a2-a1)) (1000:Int)) > 0)) then
 some (IntKind.wrap .i64 (x5+(1:Int)))
 else
 some x5
def aep:List (Nat×CE):=(115,⟨[(.tmp 0 false [dI]),(.tmp 1 false [dI])],[(.tmp 0 false [dO])],fQ⟩)::YR
theorem Pq:dZ Try.prog aep:=⟨ak3,Lc⟩
theorem aow:aV Try.prog 85 ⟨[(.tmp 0 false [dI]),(.tmp 1 false [dI])],[(.tmp 0 false [dI])],bK⟩ :=nT ak4 fC Pq Try.func85
def aha:List (Nat×PL):=[(134480385,(.carry [.tmp 3 false [dI]])),(18049651601311750,(.carry [.tmp 4 false [dI],.tmp 3 false [dI]]))]
def kH:Int->Option Int:=fun a1 =>
 aA (ay (fun (v2,v3) =>
 bif (decide (v2<a1)) then
 some (Sum.inl ((IntKind.wrap .i64 (v2+(1:Int))),(IntKind.wrap .i64 ((2:Int)*v3))))
 else
 au (some (Sum.inl v3))) ((0:Int),(1:Int))) fun v6 =>
 some v6
def YS:List (Nat×CE):=(85,⟨[(.tmp 0 false [dI]),(.tmp 1 false [dI])],[(.tmp 0 false [dI])],bK⟩)::aep
theorem Ld:dZ Try.prog YS:=⟨aow,Pq⟩
theorem ak5:aV Try.prog 135 ⟨[(.tmp 0 false [dI])],[(.tmp 0 false [dI])],kH⟩ :=nT aha fC Ld Try.func135
def ahb:List (Nat×PL):=[]
def eX:((Int×(Int×Int))×Int)->Option Bool:=fun ((a1,(a2,a3)),a4) =>
 ah (some (Int.tmod (IntKind.wrap .i64 (Int.tdiv a4 (60000:Int))) (1440:Int))) fun x8 =>
 ah (kH (Int.tmod (IntKind.wrap .i64 (Int.tdiv a4 (86400000:Int))) (7:Int))) fun x10 =>
 bif (decide (x10≠0)) then
 bif (decide ((Int.tmod (IntKind.wrap .i64 (Int.tdiv (IntKind.wrap .i64 a1) x10)) (2:Int))=1)) then
 bif (decide (a2<=x8)) then
 some (decide (x8<a3))
 else
 some false
 else
 some false
 else none
def YT:List (Nat×CE):=(135,⟨[(.tmp 0 false [dI])],[(.tmp 0 false [dI])],kH⟩)::YS
theorem Le:dZ Try.prog YT:=⟨ak5,Ld⟩
theorem ak6:aV Try.prog 133 ⟨[(.tmp 0 true [Gv,dI,dI]),(.tmp 1 false [dI])],[(.tmp 0 false [dO])],eX⟩ :=nT ahb fC Le Try.func133
def ahc:List (Nat×PL):=[(262657,(.carry [])),(134480385,(.carry [])),(18049651601311750,(.carry [.tmp 6 false [dI]]))]
def fF:((LU×(Int×(Int×(Int×(List ((Int×(Int×Int))×(Int×Int)))))))×Int)->Option (Int×Bool):=fun ((a1,(a2,(a3,(a4,a5)))),a6) =>
 aA (ah (cu (a1,(a2,(a3,(a4,a5))))) fun x7 =>
 bif (!x7) then
 au (some ((0:Int),false))
 else
 bif (decide (a6<0)) then
 au (some ((0:Int),false))
 else
 bif (decide (a6 > 562949953421312)) then
 au (some ((0:Int),false))
 else
 some (Sum.inl ())) fun _ =>
 aA (ay (fun v8 =>
 bif (decide (v8<(a5.length:Int))) then
 bif (decide ((0<=v8)/\(v8<(a5.length:Int)))) then
 ah a5[v8.toNat]? fun x9 =>
 ah (eX ((x9.1.1,(x9.1.2.1,x9.1.2.2)),a6)) fun x10 =>
 bif x10 then
 au (au (some (v8,true)))
 else
 some (Sum.inl (IntKind.wrap .i64 (v8+(1:Int))))
 else none
 else
 au (some (Sum.inl ()))) (0:Int)) fun _ =>
 some ((0:Int),false)
def YU:List (Nat×CE):=(133,⟨[(.tmp 0 true [Gv,dI,dI]),(.tmp 1 false [dI])],[(.tmp 0 false [dO])],eX⟩)::YT
theorem Lh:dZ Try.prog YU:=⟨ak6,Le⟩
theorem ak7:aV Try.prog 121 ⟨[(.tmp 0 true [dS,dI,dI,dI,(.dat (.list (.pair (.pair vP (.pair dH dH)) (.pair dH dH))))]),(.tmp 1 false [dI])],[(.tmp 0 false [dI]),(.tmp 1 false [dO])],fF⟩ :=nT ahc fC Lh Try.func121
def ahd:List (Nat×PL):=[]
def dW:((LU×(Int×(Int×(Int×(List ((Int×(Int×Int))×(Int×Int)))))))×(Int×Int))->Option Int:=fun ((a1,(a2,(a3,(a4,a5)))),(a6,a7)) =>
 bif (decide (a7=0)) then
 some a6
 else
 some (IntKind.wrap .i64 ((IntKind.wrap .i64 (a6+a3))+(IntKind.wrap .i64 ((IntKind.wrap .i64 (a7-(1:Int)))*a4))))
def YV:List (Nat×CE):=(121,⟨[(.tmp 0 true [dS,dI,dI,dI,(.dat (.list (.pair (.pair vP (.pair dH dH)) (.pair dH dH))))]),(.tmp 1 false [dI])],[(.tmp 0 false [dI]),(.tmp 1 false [dO])],fF⟩)::YU
theorem Lj:dZ Try.prog YV:=⟨ak7,Lh⟩
theorem ak8:aV Try.prog 122 ⟨[(.tmp 0 true [dS,dI,dI,dI,(.dat (.list (.pair (.pair vP (.pair dH dH)) (.pair dH dH))))]),(.tmp 1 false [dI]),(.tmp 2 false [dI])],[(.tmp 0 false [dI])],dW⟩ :=nT ahd fC Lj Try.func122
def ahe:List (Nat×PL):=[(262657,(.carry [])),(68853957121,(.carry [.tmp 7 false [dI]])),(18049651735267334,(.carry [.tmp 7 false [dI]]))]
def gW:((LU×(Int×(Int×(Int×(List ((Int×(Int×Int))×(Int×Int)))))))×(Int×Int))->Option Int:=fun ((a1,(a2,(a3,(a4,a5)))),(a6,a7)) =>
 aA (ah (cu (a1,(a2,(a3,(a4,a5))))) fun x8 =>
 bif (!x8) then
 au (some (0:Int))
 else
 bif (decide (a6<0)) then
 au (some (0:Int))
 else
 bif (decide (a6 > 3600)) then
 au (some (0:Int))
 else
 bif (decide (a7<0)) then
 au (some (0:Int))
 else
 bif (decide (a7 > 1000000)) then
 au (some (0:Int))
 else
 some (Sum.inl ())) fun _ =>
 aA (ay (fun v9 =>
 ah (dW ((a1,(a2,(a3,(a4,a5)))),(a6,v9))) fun x10 =>
 bif (decide (x10<a7)) then
 some (Sum.inl (IntKind.wrap .i64 (v9+(1:Int))))
 else
 au (some (Sum.inl v9))) (0:Int)) fun v12 =>
 some v12
def YW:List (Nat×CE):=(122,⟨[(.tmp 0 true [dS,dI,dI,dI,(.dat (.list (.pair (.pair vP (.pair dH dH)) (.pair dH dH))))]),(.tmp 1 false [dI]),(.tmp 2 false [dI])],[(.tmp 0 false [dI])],dW⟩)::YV
theorem Ll:dZ Try.prog YW:=⟨ak8,Lj⟩
theorem ak9:aV Try.prog 120 ⟨[(.tmp 0 true [dS,dI,dI,dI,(.dat (.list (.pair (.pair vP (.pair dH dH)) (.pair dH dH))))]),(.tmp 1 false [dI]),(.tmp 2 false [dI])],[(.tmp 0 false [dI])],gW⟩ :=nT ahe fC Ll Try.func120
def ala:List (Nat×PL):=[(635065662736647214839835656705,(.carry [.tmp 14 false [dI]])),(85237070383327051513330625736199112710,(.carry [.tmp 15 false [dI],.tmp 14 false [dI]]))]
def gK:(((List (LU×(Int×(Int×(Int×(List ((Int×(Int×Int))×(Int×Int))))))))×Int)×(LU×(Int×Int)))->Option (Int×Int):=fun ((a1,a2),(a3,(a4,a5))) =>
 ah (dG (a1,a2)) fun x6 =>
 bif (!x6) then
 some ((0:Int),(2:Int))
 else
 ah (fQ (a4,a5)) fun x7 =>
 bif (!x7) then
 some ((0:Int),(3:Int))
 else
 ah (bK (a4,a5)) fun x8 =>
 bif (decide (x8 > 1000000)) then
 some ((0:Int),(4:Int))
 else
 ah (eU ((a1,a2),a3)) fun (x10,x11) =>
 bif (!x11) then
 some ((0:Int),(8:Int))
 else
 bif (decide ((0<=x10)/\(x10<(a1.length:Int)))) then
 ah a1[x10.toNat]? fun x12 =>
 ah (bK (a4,a5)) fun x13 =>
 ah (gW ((x12.1,(x12.2.1,(x12.2.2.1,(x12.2.2.2.1,x12.2.2.2.2)))),(a2,x13))) fun x14 =>
 bif (decide (x14=0)) then
 some ((0:Int),(0:Int))
 else
 aA (ay (fun (v15,v16) =>
 bif (decide (v15<x14)) then
 ah (dW ((x12.1,(x12.2.1,(x12.2.2.1,(x12.2.2.2.1,x12.2.2.2.2)))),(a2,v15))) fun x17 =>
 ah (fF ((x12.1,(x12.2.1,(x12.2.2.1,(x12.2.2.2.1,x12.2.2.2.2)))),(IntKind.wrap .i64 (a4+(IntKind.wrap .i64 ((1000:Int)*x17)))))) fun (x21,x22) =>
 bif (decide (v15=0)) then
 bif (decide ((0<=x21)/\(x21<(x12.2.2.2.2.length:Int)))) then
 ah x12.2.2.2.2[x21.toNat]? fun x23 =>
 some (Sum.inl ((IntKind.wrap .i64 (v15+(1:Int))),(IntKind.wrap .i64 (v16+x23.2.1))))
 else none
 else
 bif (decide ((0<=x21)/\(x21<(x12.2.2.2.2.length:Int)))) then
 ah x12.2.2.2.2[x21.toNat]? fun x26 =>
 some (Sum.inl ((IntKind.wrap .i64 (v15+(1:Int))),(IntKind.wrap .i64 (v16+x26.2.2))))
 else none
 else
 au (some (Sum.inl v16))) ((0:Int),x12.2.1)) fun v29 =>
 some (v29,(0:Int))
 else none
def aer:List (Nat×CE):=(120,⟨[(.tmp 0 true [dS,dI,dI,dI,(.dat (.list (.pair (.pair vP (.pair dH dH)) (.pair dH dH))))]),(.tmp 1 false [dI]),(.tmp 2 false [dI])],[(.tmp 0 false [dI])],gW⟩)::YW
theorem Pv:dZ Try.prog aer:=⟨ak9,Ll⟩
theorem aox:aV Try.prog 90 ⟨[(.tmp 0 true [(.dat (.list (.pair .str (.pair dH (.pair dH (.pair dH (.list (.pair (.pair vP (.pair dH dH)) (.pair dH dH))))))))),dI]),(.tmp 1 false [dS]),(.tmp 2 false [dI]),(.tmp 3 false [dI])],[(.tmp 0 false [dI]),(.tmp 1 false [Gv])],gK⟩ :=nT ala fC Pv Try.func90
def alb:List (Nat×PL):=[]
def aU:(Int×(Int×Int))->Option Bool:=fun (a1,(a2,a3)) =>
 bif (decide (a1>=a2)) then
 some (decide (a1<=a3))
 else
 some false
def aes:List (Nat×CE):=(90,⟨[(.tmp 0 true [(.dat (.list (.pair .str (.pair dH (.pair dH (.pair dH (.list (.pair (.pair vP (.pair dH dH)) (.pair dH dH))))))))),dI]),(.tmp 1 false [dS]),(.tmp 2 false [dI]),(.tmp 3 false [dI])],[(.tmp 0 false [dI]),(.tmp 1 false [Gv])],gK⟩)::aer
theorem Px:dZ Try.prog aes:=⟨aox,Pv⟩
theorem ajv:aV Try.prog 86 ⟨[(.tmp 0 false [dI]),(.tmp 1 false [dI]),(.tmp 2 false [dI])],[(.tmp 0 false [dO])],aU⟩ :=nT alb fC Px Try.func86
def ahf:List (Nat×PL):=[]
def kW:(Int×(Int×Int))->Option Bool:=fun (a1,(a2,a3)) =>
 bif (decide (a1>=1)) then
 bif (decide (a1<=127)) then
 bif (decide (a2>=0)) then
 bif (decide (a2<a3)) then
 some (decide (a3<=1440))
 else
 some false
 else
 some false
 else
 some false
 else
 some false
def YX:List (Nat×CE):=(86,⟨[(.tmp 0 false [dI]),(.tmp 1 false [dI]),(.tmp 2 false [dI])],[(.tmp 0 false [dO])],aU⟩)::aes
theorem Lm:dZ Try.prog YX:=⟨ajv,Px⟩
theorem alc:aV Try.prog 131 ⟨[(.tmp 0 true [Gv,dI,dI])],[(.tmp 0 false [dO])],kW⟩ :=nT ahf fC Lm Try.func131
def ahg:List (Nat×PL):=[]
def gu:(Int×(Int×(Int×(Int×Int))))->Option Bool:=fun (a1,(a2,(a3,(a4,a5)))) =>
 ah (kW (a1,(a2,a3))) fun x6 =>
 bif x6 then
 bif (decide (a4>=0)) then
 bif (decide (a4<=1000000000)) then
 bif (decide (a5>=0)) then
 some (decide (a5<=1000000000))
 else
 some false
 else
 some false
 else
 some false
 else
 some false
def YZ:List (Nat×CE):=(131,⟨[(.tmp 0 true [Gv,dI,dI])],[(.tmp 0 false [dO])],kW⟩)::YX
theorem Lp:dZ Try.prog YZ:=⟨alc,Lm⟩
theorem ald:aV Try.prog 116 ⟨[(.tmp 0 true [Gv,dI,dI,dI,dI])],[(.tmp 0 false [dO])],gu⟩ :=nT ahg fC Lp Try.func116
def ale:List (Nat×PL):=[(262657,(.carry [])),(134480385,(.carry [])),(18049651601311750,(.carry [.tmp 3 false [dI]])),(18049651735527937,(.carry [])),(2422583247133816450713606,(.carry [.tmp 64 false [dI]]))]
def dX:(LU×(Int×(Int×(Int×(List ((Int×(Int×Int))×(Int×Int)))))))->Option Bool:=fun (a1,(a2,(a3,(a4,a5)))) =>
 aA (bif (decide ((a1.length:Int) > 20)) then
 au (some false)
 else
 bif (decide (a2<0)) then
 au (some false)
 else
 bif (decide (a2 > 1000000000)) then
 au (some false)
 else
 ah (aU (a3,((1:Int),(3600:Int)))) fun x6 =>
 bif (!x6) then
 au (some false)
 else
 ah (aU (a4,((1:Int),(3600:Int)))) fun x7 =>
 bif (!x7) then
 au (some false)
 else
 some (Sum.inl ())) fun _ =>
 aA (ay (fun v8 =>
 bif (decide (v8<(a1.length:Int))) then
 bif (decide ((0<=v8)/\(v8<(a1.length:Int)))) then
 bif (decide ((((UInt8.toNat (List.getD a1 v8.toNat (0:UInt8))):Nat):Int)<48)) then
 au (au (some false))
 else
 bif (decide ((0<=v8)/\(v8<(a1.length:Int)))) then
 bif (decide ((((UInt8.toNat (List.getD a1 v8.toNat (0:UInt8))):Nat):Int) > 57)) then
 au (au (some false))
 else
 some (Sum.inl (IntKind.wrap .i64 (v8+(1:Int))))
 else none
 else none
 else
 au (some (Sum.inl ()))) (0:Int)) fun _ =>
 bif (decide ((a5.length:Int)<1)) then
 some false
 else
 bif (decide ((a5.length:Int) > 20)) then
 some false
 else
 aA (ay (fun v10 =>
 bif (decide (v10<(a5.length:Int))) then
 bif (decide ((0<=v10)/\(v10<(a5.length:Int)))) then
 ah a5[v10.toNat]? fun x11 =>
 ah (gu (x11.1.1,(x11.1.2.1,(x11.1.2.2,(x11.2.1,x11.2.2))))) fun x12 =>
 bif (!x12) then
 au (au (some false))
 else
 some (Sum.inl (IntKind.wrap .i64 (v10+(1:Int))))
 else none
 else
 au (some (Sum.inl ()))) (0:Int)) fun _ =>
 ah (some (IntKind.wrap .i64 ((a5.length:Int)-(1:Int)))) fun x14 =>
 bif (decide ((0<=x14)/\(x14<(a5.length:Int)))) then
 ah a5[x14.toNat]? fun x15 =>
 some ((decide (x15.1.1=127))&&((decide (x15.1.2.1=0))&&(decide (x15.1.2.2=1440))))
 else none
def aeu:List (Nat×CE):=(116,⟨[(.tmp 0 true [Gv,dI,dI,dI,dI])],[(.tmp 0 false [dO])],gu⟩)::YZ
theorem Py:dZ Try.prog aeu:=⟨ald,Lp⟩
theorem aoy:aV Try.prog 87 ⟨[(.tmp 0 true [dS,dI,dI,dI,(.dat (.list (.pair (.pair vP (.pair dH dH)) (.pair dH dH))))])],[(.tmp 0 false [dO])],dX⟩ :=nT ale fC Py Try.func87
def alf:List (Nat×PL):=[(68853957121,(.carry [.mp 12])),(9241421688456087558,(.carry [.tmp 20 false [dI],.mp 12]))]
def aW:((List (LU×(Int×(Int×(Int×(List ((Int×(Int×Int))×(Int×Int))))))))×Int)->Option Bool:=fun (a1,a2) =>
 bif (decide ((a1.length:Int) > 1000)) then
 some false
 else
 ah (aU (a2,((0:Int),(3600:Int)))) fun x3 =>
 bif (!x3) then
 some false
 else
 aA (ay (fun (v4,v5) =>
 bif (decide (v4<(a1.length:Int))) then
 bif (decide ((0<=v4)/\(v4<(a1.length:Int)))) then
 ah a1[v4.toNat]? fun x6 =>
 bif (decide (Membership.mem v5 x6.1)) then
 au (au (some false))
 else
 ah (dX (x6.1,(x6.2.1,(x6.2.2.1,(x6.2.2.2.1,x6.2.2.2.2))))) fun x7 =>
 bif (!x7) then
 au (au (some false))
 else
 some (Sum.inl ((IntKind.wrap .i64 (v4+(1:Int))),(Dz v5 x6.1)))
 else none
 else
 au (some (Sum.inl v5))) ((0:Int),([]:List LU))) fun v9 =>
 some true
def aev:List (Nat×CE):=(87,⟨[(.tmp 0 true [dS,dI,dI,dI,(.dat (.list (.pair (.pair vP (.pair dH dH)) (.pair dH dH))))])],[(.tmp 0 false [dO])],dX⟩)::aeu
theorem Pz:dZ Try.prog aev:=⟨aoy,Py⟩
theorem Y0:aV Try.prog 61 ⟨[(.tmp 0 true [(.dat (.list (.pair .str (.pair dH (.pair dH (.pair dH (.list (.pair (.pair vP (.pair dH dH)) (.pair dH dH))))))))),dI])],[(.tmp 0 false [dO])],aW⟩ :=nT alf fC Pz Try.func61
def ahh:List (Nat×PL):=[]
def strings_HasPrefix:(LU×LU)->Option Bool:=fun (a1,a2) =>
 bif (decide ((a1.length:Int)>=(a2.length:Int))) then
 bif (decide ((0<=(a2.length:Int))/\((a2.length:Int)<=(a1.length:Int)))) then
 some (decide ((List.take (Int.toNat (a2.length:Int)) a1)=a2))
 else none
 else
 some false
def Y1:List (Nat×CE):=(61,⟨[(.tmp 0 true [(.dat (.list (.pair .str (.pair dH (.pair dH (.pair dH (.list (.pair (.pair vP (.pair dH dH)) (.pair dH dH))))))))),dI])],[(.tmp 0 false [dO])],aW⟩)::aev
theorem Lr:dZ Try.prog Y1:=⟨Y0,Pz⟩
theorem alg:aV Try.prog 125 ⟨[(.tmp 0 false [dS]),(.tmp 1 false [dS])],[(.tmp 0 false [dO])],strings_HasPrefix⟩ :=nT ahh fC Lr Try.func125
def ahi:List (Nat×PL):=[(35253226045953,(.carry [.tmp 7 false [dI]])),(4731607904558101301254,(.carry [.tmp 17 false [dI],.tmp 7 false [dI]]))]
def gX:(((List (LU×(Int×(Int×(Int×(List ((Int×(Int×Int))×(Int×Int))))))))×Int)×LU)->Option (Int×Bool):=fun ((a1,a2),a3) =>
 ah (aW (a1,a2)) fun x4 =>
 bif (!x4) then
 some ((0:Int),false)
 else
 aA (ay (fun (v5,v6) =>
 bif (decide (v5<(a1.length:Int))) then
 bif (decide ((0<=v5)/\(v5<(a1.length:Int)))) then
 ah a1[v5.toNat]? fun x7 =>
 ah (strings_HasPrefix (a3,x7.1)) fun x8 =>
 bif x8 then
 bif (decide (v6<0)) then
 some (Sum.inl ((IntKind.wrap .i64 (v5+(1:Int))),v5))
 else
 bif (decide ((0<=v6)/\(v6<(a1.length:Int)))) then
 ah a1[v6.toNat]? fun x10 =>
 bif (decide ((x7.1.length:Int) > (x10.1.length:Int))) then
 some (Sum.inl ((IntKind.wrap .i64 (v5+(1:Int))),v5))
 else
 some (Sum.inl ((IntKind.wrap .i64 (v5+(1:Int))),v6))
 else none
 else
 some (Sum.inl ((IntKind.wrap .i64 (v5+(1:Int))),v6))
 else none
 else
 au (some (Sum.inl v6))) ((0:Int),(-1:Int))) fun v14 =>
 bif (decide (v14<0)) then
 some ((0:Int),false)
 else
 some (v14,true)
def Y2:List (Nat×CE):=(125,⟨[(.tmp 0 false [dS]),(.tmp 1 false [dS])],[(.tmp 0 false [dO])],strings_HasPrefix⟩)::Y1
theorem Ls:dZ Try.prog Y2:=⟨alg,Lr⟩
theorem aew:aV Try.prog 104 ⟨[(.tmp 0 true [(.dat (.list (.pair .str (.pair dH (.pair dH (.pair dH (.list (.pair (.pair vP (.pair dH dH)) (.pair dH dH))))))))),dI]),(.tmp 1 false [dS])],[(.tmp 0 false [dI]),(.tmp 1 false [dO])],gX⟩ :=nT ahi fC Ls Try.func104
def alh:List (Nat×PL):=[]
def bW:(Int×Int)->Option Int:=fun (a1,a2) =>
 ah (aU (a1,((0:Int),(281474976710656:Int)))) fun x3 =>
 bif (!x3) then
 some (0:Int)
 else
 ah (aU (a2,(a1,(281474976710656:Int)))) fun x4 =>
 bif (!x4) then
 some (0:Int)
 else
 some (IntKind.wrap .i64 (Int.tdiv (IntKind.wrap .i64 ((IntKind.wrap .i64 (a2-a1))+(999:Int))) (1000:Int)))
def aex:List (Nat×CE):=(104,⟨[(.tmp 0 true [(.dat (.list (.pair .str (.pair dH (.pair dH (.pair dH (.list (.pair (.pair vP (.pair dH dH)) (.pair dH dH))))))))),dI]),(.tmp 1 false [dS])],[(.tmp 0 false [dI]),(.tmp 1 false [dO])],gX⟩)::Y2
theorem PD:dZ Try.prog aex:=⟨aew,Ls⟩
theorem UH:aV Try.prog 76 ⟨[(.tmp 0 false [dI]),(.tmp 1 false [dI])],[(.tmp 0 false [dI])],bW⟩ :=nT alh fC PD Try.func76
def ahj:List (Nat×PL):=[(134480385,(.carry [])),(18049651601311750,(.carry [.tmp 17 false [dI]]))]
def fU:((List ((Int×(Int×Int))×(Int×Int)))×Int)->Option Int:=fun (a1,a2) =>
 ah (some (Int.tmod (IntKind.wrap .i64 (Int.tdiv a2 (86400000:Int))) (7:Int))) fun x4 =>
 ah (some (Int.tmod (IntKind.wrap .i64 (Int.tdiv a2 (60000:Int))) (1440:Int))) fun x6 =>
 aA (ay (fun v7 =>
 bif (decide (v7<(a1.length:Int))) then
 bif (decide ((0<=v7)/\(v7<(a1.length:Int)))) then
 ah a1[v7.toNat]? fun x8 =>
 bif (decide (0<=x4)) then
 bif (decide ((IntKind.wrap .u8 (((BitVec.toNat ((BitVec.ofInt 8 (Int.fdiv x8.1.1 ((2:Int) ^ (Min.min x4.toNat 8)))) &&& (BitVec.ofInt 8 (1:Int)))):Nat):Int))=1)) then
 bif (decide (x6>=x8.1.2.1)) then
 bif (decide (x6<x8.1.2.2)) then
 au (au (some v7))
 else
 some (Sum.inl (IntKind.wrap .i64 (v7+(1:Int))))
 else
 some (Sum.inl (IntKind.wrap .i64 (v7+(1:Int))))
 else
 some (Sum.inl (IntKind.wrap .i64 (v7+(1:Int))))
 else none
 else none
 else
 au (some (Sum.inl ()))) (0:Int)) fun _ =>
 some (-1:Int)
def Y3:List (Nat×CE):=(76,⟨[(.tmp 0 false [dI]),(.tmp 1 false [dI])],[(.tmp 0 false [dI])],bW⟩)::aex
theorem Lu:dZ Try.prog Y3:=⟨UH,PD⟩
theorem aey:aV Try.prog 107 ⟨[(.tmp 0 false [(.dat (.list (.pair (.pair vP (.pair dH dH)) (.pair dH dH))))]),(.tmp 1 false [dI])],[(.tmp 0 false [dI])],fU⟩ :=nT ahj fC Lu Try.func107
def ahk:List (Nat×PL):=[(262657,(.carry []))]
def jL:((LU×(Int×(Int×(Int×(List ((Int×(Int×Int))×(Int×Int)))))))×(Int×Int))->Option Int:=fun ((a1,(a2,(a3,(a4,a5)))),(a6,a7)) =>
 aA (ah (dX (a1,(a2,(a3,(a4,a5))))) fun x8 =>
 bif (!x8) then
 au (some (0:Int))
 else
 ah (aU (a6,((0:Int),(3600:Int)))) fun x9 =>
 bif (!x9) then
 au (some (0:Int))
 else
 ah (aU (a7,((0:Int),(1000000:Int)))) fun x10 =>
 bif (!x10) then
 au (some (0:Int))
 else
 bif (decide (a7<=a6)) then
 au (some (0:Int))
 else
 some (Sum.inl ())) fun _ =>
 ah (some (IntKind.wrap .i64 ((IntKind.wrap .i64 (a7-a6))-a3))) fun x12 =>
 bif (decide (x12<=0)) then
 some (1:Int)
 else
 bif (decide (a4≠0)) then
 some (IntKind.wrap .i64 ((1:Int)+(IntKind.wrap .i64 (Int.tdiv (IntKind.wrap .i64 ((IntKind.wrap .i64 (x12+a4))-(1:Int))) a4))))
 else none
def ahl:List (Nat×CE):=(107,⟨[(.tmp 0 false [(.dat (.list (.pair (.pair vP (.pair dH dH)) (.pair dH dH))))]),(.tmp 1 false [dI])],[(.tmp 0 false [dI])],fU⟩)::Y3
theorem Xe:dZ Try.prog ahl:=⟨aey,Lu⟩
theorem ali:aV Try.prog 105 ⟨[(.tmp 0 true [dS,dI,dI,dI,(.dat (.list (.pair (.pair vP (.pair dH dH)) (.pair dH dH))))]),(.tmp 1 false [dI]),(.tmp 2 false [dI])],[(.tmp 0 false [dI])],jL⟩ :=nT ahk fC Xe Try.func105
end Go.Proofs.Ytkpijdndakljjaa
end
