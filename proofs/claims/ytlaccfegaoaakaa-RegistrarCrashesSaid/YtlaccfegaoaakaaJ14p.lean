import Derived.Test.YtlaccfegaoaakaaJ10p
set_option linter.unusedSectionVars false
set_option linter.unusedSimpArgs false
set_option linter.unusedVariables false
set_option maxRecDepth 100000
set_option maxHeartbeats 4000000
namespace Go.Proofs.Ytlaccfegaoaakaa
open Go.RowKit
def zR:Rg9:=([],([],(0,(false,([],(0,([],(0,[]))))))))
def mcS (sg:Int→Int) (x:RC):Ct:=(bt x.1,(x.2.1,sg x.2.2))
def regOf (sg:Int→Int) (a:AC):Rg9:=(bt a.aor,(bt a.cid,(sg a.sq,(decide (a.st=1),(a.cs.map (mcS sg),(sg a.ex,(bt a.ins,(sg a.fl,a.ps.map bt))))))))
abbrev FMr (r:Rg9):Prop:=FM r.1 r.2.1 r.2.2.1 r.2.2.2.1 r.2.2.2.2.1 r.2.2.2.2.2.1 r.2.2.2.2.2.2.1 r.2.2.2.2.2.2.2.1 r.2.2.2.2.2.2.2.2
def goodA (sg:Int→Int) (a:AC):Prop:=a.rest=[]∧a.st≤1∧a.now≤1099511627776∧FMr (regOf sg a)
open Classical in
noncomputable def OUT (sg:Int→Int) (b:List Int):Int×(Rg9×Int):=match parse b with
 | none=>(0,(zR,6))
 | some a=>if goodA sg a then (a.now,(regOf sg a,0)) else (0,(zR,5))
theorem OUT_none {sg:Int→Int} {b:List Int} (h:parse b=none):OUT sg b=(0,(zR,6)):=by unfold OUT;rw [h]
theorem OUT_good {sg:Int→Int} {b:List Int} {a:AC} (h:parse b=some a) (g:goodA sg a):OUT sg b=(a.now,(regOf sg a,0)):=by unfold OUT;rw [h];exact if_pos g
theorem OUT_bad {sg:Int→Int} {b:List Int} {a:AC} (h:parse b=some a) (g:¬goodA sg a):OUT sg b=(0,(zR,5)):=by unfold OUT;rw [h];exact if_neg g
theorem pnum_rok {k:Nat} {r r':List Int} {v:Int} (h:pnum k r=some (v,r')) (hb:Rok r):Rok r'∧(0≤v∧v<256 ^ k):=by
 obtain ⟨h1,h2,h3⟩:=pnum_inv h hb.1
 refine ⟨⟨h3,?_⟩,h2⟩
 have:=congrArg List.length h1
 rw [List.length_append] at this
 have:=hb.2
 omega
theorem signed_0:registrar_signed 0=some 0:=rfl
open Classical in
theorem decP_j {b:List Int} (hb:Rok b):registrar_DecodeAct b=some (OUT sgP b):=by
 rw [decP_eq]
 have big:∀r:List Int,Rok r→r.length≤100000:=fun r hr=>by have:=hr.2;omega
 have six:(6:Int)≠0:=by decide
 have e2:(256:Int) ^ 2=65536:=by decide
 rcases num_z (k:=8) (R:=b) with ⟨v0,r0,h0,g0⟩ | ⟨h0,g0⟩
 rotate_left
 ·rw [dz8_j hb.1 (big _ hb),g0,joinO_inl]
  dsimp only
  have hz:parse b=none:=by unfold parse;simp only [h0,Option.bind_some,Option.bind_none]
  have d1:∀ {γ:Type},dn1 (γ:=γ) b 6=some (.inl (0,(b,6))):=fun {γ}=>by rw [dn1_j hb.1 (big _ hb),num_e six]
  have d2:∀ {γ:Type},dn2 (γ:=γ) b 6=some (.inl (0,(b,6))):=fun {γ}=>by rw [dn2_j hb.1 (big _ hb),num_e six]
  have d4:∀ {γ:Type},dn4 (γ:=γ) b 6=some (.inl (0,(b,6))):=fun {γ}=>by rw [dn4_j hb.1 (big _ hb),num_e six]
  have dd:∀ {γ:Type},dt (γ:=γ) 0 b 6=some (.inl ([],(b,6))):=fun {γ}=>by rw [dt_j (by decide) (big _ hb),txt_e six]
  rw [OUT_none hz]
  simp only [↓SDl,SDr,d1,d2,d4,dd,signed_0,dc_0,dp_0,ne_eq,not_false_eq_true,decide_true,show ¬(6:Int)=0 by decide,Bool.and_self]
  first | done | rfl
 rw [dz8_j hb.1 (big _ hb),g0,joinO_inl]
 dsimp only
 obtain ⟨o0,b0⟩:=pnum_rok h0 hb
 rw [pow8] at b0
 rcases num_z (k:=2) (R:=r0) with ⟨c1,s1,k1,g1⟩ | ⟨k1,g1⟩
 rotate_left
 ·rw [dn2_j o0.1 (big _ o0),g1,joinO_inl]
  dsimp only
  have h1:ptxt r0=none:=by unfold ptxt;rw [k1];rfl
  have hz:parse b=none:=by unfold parse;simp only [h0,h1,Option.bind_some,Option.bind_none]
  have d1:∀ {γ:Type},dn1 (γ:=γ) r0 6=some (.inl (0,(r0,6))):=fun {γ}=>by rw [dn1_j o0.1 (big _ o0),num_e six]
  have d2:∀ {γ:Type},dn2 (γ:=γ) r0 6=some (.inl (0,(r0,6))):=fun {γ}=>by rw [dn2_j o0.1 (big _ o0),num_e six]
  have d4:∀ {γ:Type},dn4 (γ:=γ) r0 6=some (.inl (0,(r0,6))):=fun {γ}=>by rw [dn4_j o0.1 (big _ o0),num_e six]
  have dd:∀ {γ:Type},dt (γ:=γ) 0 r0 6=some (.inl ([],(r0,6))):=fun {γ}=>by rw [dt_j (by decide) (big _ o0),txt_e six]
  rw [OUT_none hz]
  simp only [↓SDl,SDr,d1,d2,d4,dd,signed_0,dc_0,dp_0,ne_eq,not_false_eq_true,decide_true,show ¬(6:Int)=0 by decide,Bool.and_self]
  first | done | rfl
 rw [dn2_j o0.1 (big _ o0),g1,joinO_inl]
 dsimp only
 obtain ⟨p1,b1⟩:=pnum_rok k1 o0
 rw [e2] at b1
 rcases txt_z (n:=c1) (R:=s1) with ⟨q1,w1⟩ | ⟨q1,w1⟩
 ·rw [dt_j (R:=s1) (N:=c1) (E:=0) ⟨b1.1,by omega⟩ (big _ p1),w1,joinO_inl]
  dsimp only
  have h1:ptxt r0=none:=by unfold ptxt;rw [k1];exact if_pos q1
  have hz:parse b=none:=by unfold parse;simp only [h0,h1,Option.bind_some,Option.bind_none]
  have d1:∀ {γ:Type},dn1 (γ:=γ) s1 6=some (.inl (0,(s1,6))):=fun {γ}=>by rw [dn1_j p1.1 (big _ p1),num_e six]
  have d2:∀ {γ:Type},dn2 (γ:=γ) s1 6=some (.inl (0,(s1,6))):=fun {γ}=>by rw [dn2_j p1.1 (big _ p1),num_e six]
  have d4:∀ {γ:Type},dn4 (γ:=γ) s1 6=some (.inl (0,(s1,6))):=fun {γ}=>by rw [dn4_j p1.1 (big _ p1),num_e six]
  have dd:∀ {γ:Type},dt (γ:=γ) 0 s1 6=some (.inl ([],(s1,6))):=fun {γ}=>by rw [dt_j (by decide) (big _ p1),txt_e six]
  rw [OUT_none hz]
  simp only [↓SDl,SDr,d1,d2,d4,dd,signed_0,dc_0,dp_0,ne_eq,not_false_eq_true,decide_true,show ¬(6:Int)=0 by decide,Bool.and_self]
  first | done | rfl
 rw [dt_j (R:=s1) (N:=c1) (E:=0) ⟨b1.1,by omega⟩ (big _ p1),w1,joinO_inl]
 dsimp only
 have h1:ptxt r0=some (s1.take c1.toNat,s1.drop c1.toNat):=by unfold ptxt;rw [k1];exact if_neg q1
 have o1:Rok (s1.drop c1.toNat):=p1.drop _
 clear w1
 revert h1 o1
 generalize s1.take c1.toNat=t1
 generalize s1.drop c1.toNat=r1
 intro h1 o1
 rcases num_z (k:=2) (R:=r1) with ⟨c2,s2,k2,g2⟩ | ⟨k2,g2⟩
 rotate_left
 ·rw [dn2_j o1.1 (big _ o1),g2,joinO_inl]
  dsimp only
  have h2:ptxt r1=none:=by unfold ptxt;rw [k2];rfl
  have hz:parse b=none:=by unfold parse;simp only [h0,h1,h2,Option.bind_some,Option.bind_none]
  have d1:∀ {γ:Type},dn1 (γ:=γ) r1 6=some (.inl (0,(r1,6))):=fun {γ}=>by rw [dn1_j o1.1 (big _ o1),num_e six]
  have d2:∀ {γ:Type},dn2 (γ:=γ) r1 6=some (.inl (0,(r1,6))):=fun {γ}=>by rw [dn2_j o1.1 (big _ o1),num_e six]
  have d4:∀ {γ:Type},dn4 (γ:=γ) r1 6=some (.inl (0,(r1,6))):=fun {γ}=>by rw [dn4_j o1.1 (big _ o1),num_e six]
  have dd:∀ {γ:Type},dt (γ:=γ) 0 r1 6=some (.inl ([],(r1,6))):=fun {γ}=>by rw [dt_j (by decide) (big _ o1),txt_e six]
  rw [OUT_none hz]
  simp only [↓SDl,SDr,d1,d2,d4,dd,signed_0,dc_0,dp_0,ne_eq,not_false_eq_true,decide_true,show ¬(6:Int)=0 by decide,Bool.and_self]
  first | done | rfl
 rw [dn2_j o1.1 (big _ o1),g2,joinO_inl]
 dsimp only
 obtain ⟨p2,b2⟩:=pnum_rok k2 o1
 rw [e2] at b2
 rcases txt_z (n:=c2) (R:=s2) with ⟨q2,w2⟩ | ⟨q2,w2⟩
 ·rw [dt_j (R:=s2) (N:=c2) (E:=0) ⟨b2.1,by omega⟩ (big _ p2),w2,joinO_inl]
  dsimp only
  have h2:ptxt r1=none:=by unfold ptxt;rw [k2];exact if_pos q2
  have hz:parse b=none:=by unfold parse;simp only [h0,h1,h2,Option.bind_some,Option.bind_none]
  have d1:∀ {γ:Type},dn1 (γ:=γ) s2 6=some (.inl (0,(s2,6))):=fun {γ}=>by rw [dn1_j p2.1 (big _ p2),num_e six]
  have d2:∀ {γ:Type},dn2 (γ:=γ) s2 6=some (.inl (0,(s2,6))):=fun {γ}=>by rw [dn2_j p2.1 (big _ p2),num_e six]
  have d4:∀ {γ:Type},dn4 (γ:=γ) s2 6=some (.inl (0,(s2,6))):=fun {γ}=>by rw [dn4_j p2.1 (big _ p2),num_e six]
  have dd:∀ {γ:Type},dt (γ:=γ) 0 s2 6=some (.inl ([],(s2,6))):=fun {γ}=>by rw [dt_j (by decide) (big _ p2),txt_e six]
  rw [OUT_none hz]
  simp only [↓SDl,SDr,d1,d2,d4,dd,signed_0,dc_0,dp_0,ne_eq,not_false_eq_true,decide_true,show ¬(6:Int)=0 by decide,Bool.and_self]
  first | done | rfl
 rw [dt_j (R:=s2) (N:=c2) (E:=0) ⟨b2.1,by omega⟩ (big _ p2),w2,joinO_inl]
 dsimp only
 have h2:ptxt r1=some (s2.take c2.toNat,s2.drop c2.toNat):=by unfold ptxt;rw [k2];exact if_neg q2
 have o2:Rok (s2.drop c2.toNat):=p2.drop _
 clear w2
 revert h2 o2
 generalize s2.take c2.toNat=t2
 generalize s2.drop c2.toNat=r2
 intro h2 o2
 rcases num_z (k:=4) (R:=r2) with ⟨v3,r3,h3,g3⟩ | ⟨h3,g3⟩
 rotate_left
 ·rw [dn4_j o2.1 (big _ o2),g3,joinO_inl]
  dsimp only
  have hz:parse b=none:=by unfold parse;simp only [h0,h1,h2,h3,Option.bind_some,Option.bind_none]
  have d1:∀ {γ:Type},dn1 (γ:=γ) r2 6=some (.inl (0,(r2,6))):=fun {γ}=>by rw [dn1_j o2.1 (big _ o2),num_e six]
  have d2:∀ {γ:Type},dn2 (γ:=γ) r2 6=some (.inl (0,(r2,6))):=fun {γ}=>by rw [dn2_j o2.1 (big _ o2),num_e six]
  have d4:∀ {γ:Type},dn4 (γ:=γ) r2 6=some (.inl (0,(r2,6))):=fun {γ}=>by rw [dn4_j o2.1 (big _ o2),num_e six]
  have dd:∀ {γ:Type},dt (γ:=γ) 0 r2 6=some (.inl ([],(r2,6))):=fun {γ}=>by rw [dt_j (by decide) (big _ o2),txt_e six]
  rw [OUT_none hz]
  simp only [↓SDl,SDr,d1,d2,d4,dd,signed_0,dc_0,dp_0,ne_eq,not_false_eq_true,decide_true,show ¬(6:Int)=0 by decide,Bool.and_self]
  first | done | rfl
 rw [dn4_j o2.1 (big _ o2),g3,joinO_inl]
 dsimp only
 obtain ⟨o3,b3⟩:=pnum_rok h3 o2
 rw [pow4] at b3
 rw [signed_j b3,bindO_some]
 rcases num_z (k:=1) (R:=r3) with ⟨v4,r4,h4,g4⟩ | ⟨h4,g4⟩
 rotate_left
 ·rw [dn1_j o3.1 (big _ o3),g4,joinO_inl]
  dsimp only
  have hz:parse b=none:=by unfold parse;simp only [h0,h1,h2,h3,h4,Option.bind_some,Option.bind_none]
  have d1:∀ {γ:Type},dn1 (γ:=γ) r3 6=some (.inl (0,(r3,6))):=fun {γ}=>by rw [dn1_j o3.1 (big _ o3),num_e six]
  have d2:∀ {γ:Type},dn2 (γ:=γ) r3 6=some (.inl (0,(r3,6))):=fun {γ}=>by rw [dn2_j o3.1 (big _ o3),num_e six]
  have d4:∀ {γ:Type},dn4 (γ:=γ) r3 6=some (.inl (0,(r3,6))):=fun {γ}=>by rw [dn4_j o3.1 (big _ o3),num_e six]
  have dd:∀ {γ:Type},dt (γ:=γ) 0 r3 6=some (.inl ([],(r3,6))):=fun {γ}=>by rw [dt_j (by decide) (big _ o3),txt_e six]
  rw [OUT_none hz]
  simp only [↓SDl,SDr,d1,d2,d4,dd,signed_0,dc_0,dp_0,ne_eq,not_false_eq_true,decide_true,show ¬(6:Int)=0 by decide,Bool.and_self]
  first | done | rfl
 rw [dn1_j o3.1 (big _ o3),g4,joinO_inl]
 dsimp only
 obtain ⟨o4,b4⟩:=pnum_rok h4 o3
 rw [pow1] at b4
 rcases num_z (k:=4) (R:=r4) with ⟨v5,r5,h5,g5⟩ | ⟨h5,g5⟩
 rotate_left
 ·rw [dn4_j o4.1 (big _ o4),g5,joinO_inl]
  dsimp only
  have hz:parse b=none:=by unfold parse;simp only [h0,h1,h2,h3,h4,h5,Option.bind_some,Option.bind_none]
  have d1:∀ {γ:Type},dn1 (γ:=γ) r4 6=some (.inl (0,(r4,6))):=fun {γ}=>by rw [dn1_j o4.1 (big _ o4),num_e six]
  have d2:∀ {γ:Type},dn2 (γ:=γ) r4 6=some (.inl (0,(r4,6))):=fun {γ}=>by rw [dn2_j o4.1 (big _ o4),num_e six]
  have d4:∀ {γ:Type},dn4 (γ:=γ) r4 6=some (.inl (0,(r4,6))):=fun {γ}=>by rw [dn4_j o4.1 (big _ o4),num_e six]
  have dd:∀ {γ:Type},dt (γ:=γ) 0 r4 6=some (.inl ([],(r4,6))):=fun {γ}=>by rw [dt_j (by decide) (big _ o4),txt_e six]
  rw [OUT_none hz]
  simp only [↓SDl,SDr,d1,d2,d4,dd,signed_0,dc_0,dp_0,ne_eq,not_false_eq_true,decide_true,show ¬(6:Int)=0 by decide,Bool.and_self]
  first | done | rfl
 rw [dn4_j o4.1 (big _ o4),g5,joinO_inl]
 dsimp only
 obtain ⟨o5,b5⟩:=pnum_rok h5 o4
 rw [pow4] at b5
 rw [signed_j b5,bindO_some]
 rcases num_z (k:=2) (R:=r5) with ⟨c6,s6,k6,g6⟩ | ⟨k6,g6⟩
 rotate_left
 ·rw [dn2_j o5.1 (big _ o5),g6,joinO_inl]
  dsimp only
  have h6:ptxt r5=none:=by unfold ptxt;rw [k6];rfl
  have hz:parse b=none:=by unfold parse;simp only [h0,h1,h2,h3,h4,h5,h6,Option.bind_some,Option.bind_none]
  have d1:∀ {γ:Type},dn1 (γ:=γ) r5 6=some (.inl (0,(r5,6))):=fun {γ}=>by rw [dn1_j o5.1 (big _ o5),num_e six]
  have d2:∀ {γ:Type},dn2 (γ:=γ) r5 6=some (.inl (0,(r5,6))):=fun {γ}=>by rw [dn2_j o5.1 (big _ o5),num_e six]
  have d4:∀ {γ:Type},dn4 (γ:=γ) r5 6=some (.inl (0,(r5,6))):=fun {γ}=>by rw [dn4_j o5.1 (big _ o5),num_e six]
  have dd:∀ {γ:Type},dt (γ:=γ) 0 r5 6=some (.inl ([],(r5,6))):=fun {γ}=>by rw [dt_j (by decide) (big _ o5),txt_e six]
  rw [OUT_none hz]
  simp only [↓SDl,SDr,d1,d2,d4,dd,signed_0,dc_0,dp_0,ne_eq,not_false_eq_true,decide_true,show ¬(6:Int)=0 by decide,Bool.and_self]
  first | done | rfl
 rw [dn2_j o5.1 (big _ o5),g6,joinO_inl]
 dsimp only
 obtain ⟨p6,b6⟩:=pnum_rok k6 o5
 rw [e2] at b6
 rcases txt_z (n:=c6) (R:=s6) with ⟨q6,w6⟩ | ⟨q6,w6⟩
 ·rw [dt_j (R:=s6) (N:=c6) (E:=0) ⟨b6.1,by omega⟩ (big _ p6),w6,joinO_inl]
  dsimp only
  have h6:ptxt r5=none:=by unfold ptxt;rw [k6];exact if_pos q6
  have hz:parse b=none:=by unfold parse;simp only [h0,h1,h2,h3,h4,h5,h6,Option.bind_some,Option.bind_none]
  have d1:∀ {γ:Type},dn1 (γ:=γ) s6 6=some (.inl (0,(s6,6))):=fun {γ}=>by rw [dn1_j p6.1 (big _ p6),num_e six]
  have d2:∀ {γ:Type},dn2 (γ:=γ) s6 6=some (.inl (0,(s6,6))):=fun {γ}=>by rw [dn2_j p6.1 (big _ p6),num_e six]
  have d4:∀ {γ:Type},dn4 (γ:=γ) s6 6=some (.inl (0,(s6,6))):=fun {γ}=>by rw [dn4_j p6.1 (big _ p6),num_e six]
  have dd:∀ {γ:Type},dt (γ:=γ) 0 s6 6=some (.inl ([],(s6,6))):=fun {γ}=>by rw [dt_j (by decide) (big _ p6),txt_e six]
  rw [OUT_none hz]
  simp only [↓SDl,SDr,d1,d2,d4,dd,signed_0,dc_0,dp_0,ne_eq,not_false_eq_true,decide_true,show ¬(6:Int)=0 by decide,Bool.and_self]
  first | done | rfl
 rw [dt_j (R:=s6) (N:=c6) (E:=0) ⟨b6.1,by omega⟩ (big _ p6),w6,joinO_inl]
 dsimp only
 have h6:ptxt r5=some (s6.take c6.toNat,s6.drop c6.toNat):=by unfold ptxt;rw [k6];exact if_neg q6
 have o6:Rok (s6.drop c6.toNat):=p6.drop _
 clear w6
 revert h6 o6
 generalize s6.take c6.toNat=t6
 generalize s6.drop c6.toNat=r6
 intro h6 o6
 rcases num_z (k:=4) (R:=r6) with ⟨v7,r7,h7,g7⟩ | ⟨h7,g7⟩
 rotate_left
 ·rw [dn4_j o6.1 (big _ o6),g7,joinO_inl]
  dsimp only
  have hz:parse b=none:=by unfold parse;simp only [h0,h1,h2,h3,h4,h5,h6,h7,Option.bind_some,Option.bind_none]
  have d1:∀ {γ:Type},dn1 (γ:=γ) r6 6=some (.inl (0,(r6,6))):=fun {γ}=>by rw [dn1_j o6.1 (big _ o6),num_e six]
  have d2:∀ {γ:Type},dn2 (γ:=γ) r6 6=some (.inl (0,(r6,6))):=fun {γ}=>by rw [dn2_j o6.1 (big _ o6),num_e six]
  have d4:∀ {γ:Type},dn4 (γ:=γ) r6 6=some (.inl (0,(r6,6))):=fun {γ}=>by rw [dn4_j o6.1 (big _ o6),num_e six]
  have dd:∀ {γ:Type},dt (γ:=γ) 0 r6 6=some (.inl ([],(r6,6))):=fun {γ}=>by rw [dt_j (by decide) (big _ o6),txt_e six]
  rw [OUT_none hz]
  simp only [↓SDl,SDr,d1,d2,d4,dd,signed_0,dc_0,dp_0,ne_eq,not_false_eq_true,decide_true,show ¬(6:Int)=0 by decide,Bool.and_self]
  first | done | rfl
 rw [dn4_j o6.1 (big _ o6),g7,joinO_inl]
 dsimp only
 obtain ⟨o7,b7⟩:=pnum_rok h7 o6
 rw [pow4] at b7
 rw [signed_j b7,bindO_some]
 rcases num_z (k:=1) (R:=r7) with ⟨v8,r8,h8,g8⟩ | ⟨h8,g8⟩
 rotate_left
 ·rw [dn1_j o7.1 (big _ o7),g8,joinO_inl]
  dsimp only
  have hz:parse b=none:=by unfold parse;simp only [h0,h1,h2,h3,h4,h5,h6,h7,h8,Option.bind_some,Option.bind_none]
  have d1:∀ {γ:Type},dn1 (γ:=γ) r7 6=some (.inl (0,(r7,6))):=fun {γ}=>by rw [dn1_j o7.1 (big _ o7),num_e six]
  have d2:∀ {γ:Type},dn2 (γ:=γ) r7 6=some (.inl (0,(r7,6))):=fun {γ}=>by rw [dn2_j o7.1 (big _ o7),num_e six]
  have d4:∀ {γ:Type},dn4 (γ:=γ) r7 6=some (.inl (0,(r7,6))):=fun {γ}=>by rw [dn4_j o7.1 (big _ o7),num_e six]
  have dd:∀ {γ:Type},dt (γ:=γ) 0 r7 6=some (.inl ([],(r7,6))):=fun {γ}=>by rw [dt_j (by decide) (big _ o7),txt_e six]
  rw [OUT_none hz]
  simp only [↓SDl,SDr,d1,d2,d4,dd,signed_0,dc_0,dp_0,ne_eq,not_false_eq_true,decide_true,show ¬(6:Int)=0 by decide,Bool.and_self]
  first | done | rfl
 rw [dn1_j o7.1 (big _ o7),g8,joinO_inl]
 dsimp only
 obtain ⟨o8,b8⟩:=pnum_rok h8 o7
 rw [pow1] at b8
 have n8:v8=((v8.toNat:Nat):Int):=by omega
 rcases dc_j (γ:=Int×(Rg9×Int)) v8.toNat (by omega) (bytesU t1) (bytesU t2) (sgP v3) (decide (v4=1)) (sgP v5) (bytesU t6) (sgP v7) o8 with ⟨l9,r9,h9,o9,e9⟩ | ⟨h9,l9,r9,k9,o9,e9⟩
 rotate_left
 ·rw [←n8] at e9
  rw [e9,joinO_inl]
  dsimp only
  have hz:parse b=none:=by unfold parse;simp only [h0,h1,h2,h3,h4,h5,h6,h7,h8,h9,Option.bind_some,Option.bind_none]
  have d1:∀ {γ:Type},dn1 (γ:=γ) r9 6=some (.inl (0,(r9,6))):=fun {γ}=>by rw [dn1_j o9.1 (big _ o9),num_e six]
  have d2:∀ {γ:Type},dn2 (γ:=γ) r9 6=some (.inl (0,(r9,6))):=fun {γ}=>by rw [dn2_j o9.1 (big _ o9),num_e six]
  have d4:∀ {γ:Type},dn4 (γ:=γ) r9 6=some (.inl (0,(r9,6))):=fun {γ}=>by rw [dn4_j o9.1 (big _ o9),num_e six]
  have dd:∀ {γ:Type},dt (γ:=γ) 0 r9 6=some (.inl ([],(r9,6))):=fun {γ}=>by rw [dt_j (by decide) (big _ o9),txt_e six]
  rw [OUT_none hz]
  simp only [↓SDl,SDr,d1,d2,d4,dd,signed_0,dc_0,dp_0,ne_eq,not_false_eq_true,decide_true,show ¬(6:Int)=0 by decide,Bool.and_self]
  first | done | rfl
 rw [←n8] at e9
 rw [e9,joinO_inl]
 dsimp only
 rcases num_z (k:=1) (R:=r9) with ⟨v10,r10,h10,g10⟩ | ⟨h10,g10⟩
 rotate_left
 ·rw [dn1_j o9.1 (big _ o9),g10,joinO_inl]
  dsimp only
  have hz:parse b=none:=by unfold parse;simp only [h0,h1,h2,h3,h4,h5,h6,h7,h8,h9,h10,Option.bind_some,Option.bind_none]
  have d1:∀ {γ:Type},dn1 (γ:=γ) r9 6=some (.inl (0,(r9,6))):=fun {γ}=>by rw [dn1_j o9.1 (big _ o9),num_e six]
  have d2:∀ {γ:Type},dn2 (γ:=γ) r9 6=some (.inl (0,(r9,6))):=fun {γ}=>by rw [dn2_j o9.1 (big _ o9),num_e six]
  have d4:∀ {γ:Type},dn4 (γ:=γ) r9 6=some (.inl (0,(r9,6))):=fun {γ}=>by rw [dn4_j o9.1 (big _ o9),num_e six]
  have dd:∀ {γ:Type},dt (γ:=γ) 0 r9 6=some (.inl ([],(r9,6))):=fun {γ}=>by rw [dt_j (by decide) (big _ o9),txt_e six]
  rw [OUT_none hz]
  simp only [↓SDl,SDr,d1,d2,d4,dd,signed_0,dc_0,dp_0,ne_eq,not_false_eq_true,decide_true,show ¬(6:Int)=0 by decide,Bool.and_self]
  first | done | rfl
 rw [dn1_j o9.1 (big _ o9),g10,joinO_inl]
 dsimp only
 obtain ⟨o10,b10⟩:=pnum_rok h10 o9
 rw [pow1] at b10
 simp only [Nat.le_refl,decide_true,cond_true,List.take_length]
 have n10:v10=((v10.toNat:Nat):Int):=by omega
 rcases dp_j (γ:=Int×(Rg9×Int)) v10.toNat (by omega) (bytesU t1) (bytesU t2) (sgP v3) (decide (v4=1)) (l9.map mc) (sgP v5) (bytesU t6) (sgP v7) o10 with ⟨l11,r11,h11,o11,e11⟩ | ⟨h11,l11,r11,e11⟩
 rotate_left
 ·rw [←n10] at e11
  rw [e11,joinO_inl]
  have hz:parse b=none:=by unfold parse;simp only [h0,h1,h2,h3,h4,h5,h6,h7,h8,h9,h10,h11,Option.bind_some,Option.bind_none]
  rw [OUT_none hz]
  simp only [↓SDl,SDr,ne_eq,not_false_eq_true,decide_true,show ¬(6:Int)=0 by decide]
  first | done | rfl
 rw [←n10] at e11
 rw [e11,joinO_inl]
 dsimp only
 have hz:parse b=some ⟨v0,t1,t2,v3,v4,v5,t6,v7,l9,l11,r11⟩:=by unfold parse;simp only [h0,h1,h2,h3,h4,h5,h6,h7,h8,h9,h10,h11,Option.bind_some]
 simp only [ne_eq,not_true_eq_false,decide_false,cond_false]
 by_cases z1:r11=[]
 rotate_left
 ·have z1n:0<r11.length:=List.length_pos_iff.2 z1
  rw [OUT_bad (sg:=sgP) hz (fun g=>z1 g.1),show decide (((r11.length:Nat):Int) > 0)=true from decide_eq_true (by omega)]
  rfl
 rw [show decide (((r11.length:Nat):Int) > 0)=false from decide_eq_false (by rw [z1];decide),cond_false]
 by_cases z2:v4 > 1
 ·rw [OUT_bad (sg:=sgP) hz (fun g=>by have:=g.2.1;simp only at this;omega),decide_eq_true z2]
  rfl
 rw [decide_eq_false z2,cond_false]
 by_cases z3:v0 > 1099511627776
 ·rw [OUT_bad (sg:=sgP) hz (fun g=>by have:=g.2.2.1;simp only at this;omega),decide_eq_true z3]
  rfl
 rw [decide_eq_false z3,cond_false]
 simp only [Nat.le_refl,decide_true,Bool.and_self,cond_true,List.take_length]
 rw [formP_b]
 have hw:IntKind.wrap .i64 v0=v0:=wrap_i64' (by omega)
 rw [hw]
 by_cases z4:FM (bytesU t1) (bytesU t2) (sgP v3) (decide (v4=1)) (l9.map mc) (sgP v5) (bytesU t6) (sgP v7) (l11.map bt)
 ·rw [OUT_good (sg:=sgP) hz ⟨z1,by simp only;omega,by simp only;omega,z4⟩,@decide_eq_true _ _ z4]
  rfl
 ·rw [OUT_bad (sg:=sgP) hz (fun g=>z4 g.2.2.2),@decide_eq_false _ _ z4]
  rfl
end Go.Proofs.Ytlaccfegaoaakaa

set_option maxRecDepth 100000
set_option maxHeartbeats 4000000
namespace Go.Proofs.Ytlaccfegaoaakaa
open Go.RowKit
noncomputable def strB (a1 a2:List Tx):Int→Option (Int ⊕ (Unit ⊕ Bool)) :=
(fun v3 =>
 bif (decide (v3<(((List.length a1):Nat):Int))) then
 bif (decide (((0:Int)≤v3)∧(v3<(((List.length a1):Nat):Int)))) then
 bindO a1[(Int.toNat v3)]? fun x4 =>
 bif (decide (((0:Int)≤v3)∧(v3<(((List.length a2):Nat):Int)))) then
 bindO a2[(Int.toNat v3)]? fun x5 =>
 bif (decide (x4≠x5)) then
 outO (outO (some Bool.false))
 else
 some (Sum.inl (Go.IntKind.wrap .i64 (v3+(1:Int))))
 else none
 else none
 else
 outO (some (Sum.inl ())))
theorem strings_eq (a1 a2:List Tx):dialtoneref22_strings (a1,a2) =
 bif (decide ((((List.length a1):Nat):Int)≠(((List.length a2):Nat):Int))) then
  some Bool.false
 else
  joinO (loopO (strB a1 a2) (0:Int)) fun _ =>
  some Bool.true:=rfl
theorem strings_refl (l:List Tx) (h:l.length≤1000):dialtoneref22_strings (l,l)=some true:=by
 rw [strings_eq]
 have e:loopO (strB l l) (0:Int)=some (.inl ()):=by
  refine loopO_from (fun i=>(i:Int)) l.length rfl (fun i hi => ?_) ?_
  ·obtain ⟨x,hx,hxb⟩:=get_at ([]:Tx) hi
   have hn:((i:Int)+1)=((i+1:Nat):Int):=rfl
   unfold strB
   simp (disch:=(first | omega | (simp only [LNl];omega))) only [↓SDl,SDr,if_pos,if_neg,↓hxb,wrap_i64',hn,ne_eq,not_true_eq_false,decide_false]
  ·unfold strB
   simp (disch:=(first | omega | (simp only [LNl];omega))) only [↓SDl,SDr,if_neg]
 simp only [↓SDl,SDr,ne_eq,not_true_eq_false,decide_false,e]
def actOf (now:Int) (a1 a2:Tx) (a3:Int) (a4:Bool) (a5:List Ct) (a6:Int) (a7:Tx) (a8:Int) (a9:List Tx):AC :=
 ⟨now,tb a1,tb a2,a3,if a4=true then 1 else 0,u4 a6,tb a7,a8,a5.map fun x=>(tb x.1,(x.2.1,u4 x.2.2)),a9.map tb,[]⟩
theorem rawt_et (s:Tx):rawt (tb s)=et s:=by unfold rawt et;rw [tb_len]
theorem rawc_ec (x:Ct):rawc (tb x.1,(x.2.1,u4 x.2.2))=ec x:=by
 unfold rawc ec
 simp only [rawt_et,List.append_assoc]
theorem enc_raw {now:Int} {a1 a2:Tx} {a3:Int} {a4:Bool} {a5:List Ct} {a6:Int} {a7:Tx} {a8:Int} {a9:List Tx} (h5:a5.length≤255) (h9:a9.length≤255):ENC now a1 a2 a3 a4 a5 a6 a7 a8 a9=raw (actOf now a1 a2 a3 a4 a5 a6 a7 a8 a9):=by
 have e1:be (if a4=true then (1:Int) else 0) 1=[if a4=true then (1:Int) else 0]:=be_1 (by split<;>omega)
 have e5:be (a5.length:Int) 1=[(a5.length:Int)]:=be_1 (by omega)
 have e9:be (a9.length:Int) 1=[(a9.length:Int)]:=be_1 (by omega)
 have f5:(a5.map fun x=>(tb x.1,(x.2.1,u4 x.2.2))).flatMap rawc=a5.flatMap ec:=by
  rw [List.flatMap_map]
  exact congrArg (fun f=>a5.flatMap f) (funext rawc_ec)
 have f9:(a9.map tb).flatMap rawt=a9.flatMap et:=by
  rw [List.flatMap_map]
  exact congrArg (fun f=>a9.flatMap f) (funext rawt_et)
 unfold ENC raw actOf
 simp only [List.length_map,e1,e5,e9,f5,f9,rawt_et,List.append_assoc,List.append_nil]
theorem sg_u4 {n:Int} (h:NO n):sgP (u4 n)=n:=by
 unfold sgP u4
 split<;>split<;>omega
theorem u4_rng {n:Int} (h:NO n):0≤u4 n∧u4 n<4294967296:=by
 unfold u4
 split<;>omega
theorem sg_nn {n:Int} (h:NN n):sgP n=n:=by
 unfold sgP
 split<;>omega
theorem by_app {a b:List Int} (h:By a) (k:By b):By (a++b):=fun x hx=>(List.mem_append.1 hx).elim (h x) (k x)
theorem by_flat {α:Type} {l:List α} {f:α→List Int} (h:∀a∈l,By (f a)):By (l.flatMap f):=fun x hx=>by
 obtain ⟨a,ha,hx⟩:=List.mem_flatMap.1 hx
 exact h a ha x hx
theorem rawt_by {t:List Int} (h:By t):By (rawt t):=by_app (be_by _ _) h
theorem raw_by {a:AC} (hk:ACok a) (hr:a.rest=[]):By (raw a):=by
 obtain ⟨h0,h1,h2,h3,h4,h5,h6,h7,h8,h9,g0,g1⟩:=hk
 unfold raw
 rw [hr]
 exact by_app (be_by _ _) (by_app (rawt_by h1.2) (by_app (rawt_by h2.2) (by_app (be_by _ _) (by_app (be_by _ _) (by_app (be_by _ _) (by_app (rawt_by h6.2) (by_app (be_by _ _) (by_app (be_by _ _) (by_app (by_flat fun x hx=>by_app (rawt_by (h9 x hx).2.1) (by_app (be_by _ _) (be_by _ _))) (by_app (be_by _ _) (by_app (by_flat fun x hx=>rawt_by (g1 x hx).2) (fun x hx=>by cases hx))))))))))))
section
variable {now:Int} {a1 a2:Tx} {a3:Int} {a4:Bool} {a5:List Ct} {a6:Int} {a7:Tx} {a8:Int} {a9:List Tx} (h:EOK now a1 a2 a3 a4 a5 a6 a7 a8 a9)
include h
theorem act_ok:ACok (actOf now a1 a2 a3 a4 a5 a6 a7 a8 a9):=by
 obtain ⟨⟨⟨⟨_,u1⟩,⟨_,u2⟩,u3⟩,⟨u6,u5,u9⟩,_,u7,u8,_,uc,up⟩,n0,n1⟩:=h
 have v6:=u4_rng u6
 have hs:0≤(if a4=true then (1:Int) else 0)∧(if a4=true then (1:Int) else 0)<256:=by split<;>omega
 unfold actOf
 refine ⟨⟨n0,by show now<_;omega⟩,⟨?_,tb_by _⟩,⟨?_,tb_by _⟩,⟨u3.1,?_⟩,hs,v6,⟨?_,tb_by _⟩,⟨u8.1,?_⟩,?_,fun x hx => ?_,?_,fun x hx => ?_⟩
 ·show (tb a1).length≤_;rw [tb_len];omega
 ·show (tb a2).length≤_;rw [tb_len];omega
 ·show a3<_;omega
 ·show (tb a7).length≤_;rw [tb_len];omega
 ·show a8<_;omega
 ·show (a5.map _).length≤_;rw [List.length_map];omega
 ·obtain ⟨y,hy,rfl⟩:=List.mem_map.1 hx
  obtain ⟨i,hi,rfl⟩:=List.getElem_of_mem hy
  obtain ⟨⟨⟨_,w1⟩,⟨w2,w3⟩,w4⟩,_⟩:=uc i hi
  rw [getD_get c0 hi] at w1 w2 w3 w4
  refine ⟨?_,tb_by _,⟨w2,?_⟩,u4_rng w4⟩
  ·show (tb _).length≤_;rw [tb_len];omega
  ·exact Int.lt_of_le_of_lt w3 (by decide)
 ·show (a9.map _).length≤_;rw [List.length_map];omega
 ·obtain ⟨y,hy,rfl⟩:=List.mem_map.1 hx
  obtain ⟨i,hi,rfl⟩:=List.getElem_of_mem hy
  have w:=(up i hi).2
  rw [getD_get _ hi] at w
  exact ⟨by rw [tb_len];omega,tb_by _⟩
theorem act_reg:regOf sgP (actOf now a1 a2 a3 a4 a5 a6 a7 a8 a9)=(a1,(a2,(a3,(a4,(a5,(a6,(a7,(a8,a9)))))))):=by
 obtain ⟨⟨⟨⟨_,u1⟩,⟨_,u2⟩,u3⟩,⟨u6,u5,u9⟩,_,u7,u8,_,uc,up⟩,n0,n1⟩:=h
 have e4:decide ((if a4=true then (1:Int) else 0)=1)=a4:=by cases a4<;>rfl
 have e5:(a5.map fun x=>((tb x.1,(x.2.1,u4 x.2.2)):RC)).map (mcS sgP)=a5:=by
  rw [List.map_map]
  conv=>rhs;rw [←List.map_id a5]
  apply List.map_congr_left
  intro y hy
  obtain ⟨i,hi,rfl⟩:=List.getElem_of_mem hy
  obtain ⟨⟨_,_,w4⟩,_⟩:=uc i hi
  rw [getD_get c0 hi] at w4
  show (bt (tb _),(_,sgP (u4 _)))=_
  rw [bt_tb,sg_u4 w4]
  rfl
 have e9:(a9.map tb).map bt=a9:=by
  rw [List.map_map]
  conv=>rhs;rw [←List.map_id a9]
  apply List.map_congr_left
  intro y _
  exact bt_tb y
 unfold regOf actOf
 simp only [bt_tb,sg_nn u3,sg_nn u8,sg_u4 u6,e4,e5,e9]
theorem dec_enc (hl:(ENC now a1 a2 a3 a4 a5 a6 a7 a8 a9).length≤4096):registrar_DecodeAct (ENC now a1 a2 a3 a4 a5 a6 a7 a8 a9)=some (now,((a1,(a2,(a3,(a4,(a5,(a6,(a7,(a8,a9)))))))),0)):=by
 have hF:=h.1
 obtain ⟨⟨_,_,u3⟩,⟨u6,u5,u9⟩,_⟩:=h.1
 have hk:=act_ok h
 have hp:=parse_raw hk
 have hr:=act_reg h
 have he:=enc_raw (now:=now) (a1:=a1) (a2:=a2) (a3:=a3) (a4:=a4) (a5:=a5) (a6:=a6) (a7:=a7) (a8:=a8) (a9:=a9) (by omega) (by omega)
 have hb:=raw_by hk rfl
 rw [he] at hl ⊢
 rw [decP_j ⟨hb,by omega⟩,OUT_good hp ⟨rfl,?_,h.2.2,?_⟩,hr]
 ·rfl
 ·show (if a4=true then (1:Int) else 0)≤1
  split<;>omega
 ·rw [hr];exact hF
end
end Go.Proofs.Ytlaccfegaoaakaa
