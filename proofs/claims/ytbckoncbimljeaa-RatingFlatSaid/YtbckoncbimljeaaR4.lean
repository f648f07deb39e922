/- rating.Cost: one round of its loop. -/
import Derived.Test.YtbckoncbimljeaaR3
set_option linter.unusedVariables false
set_option linter.unusedSimpArgs false
namespace Go.Proofs.Ytbckoncbimljeaa
open Go.RowKit
set_option maxHeartbeats 4000000
set_option maxRecDepth 10000

/-- The parts of the statement. -/
def rfG : Code → Operand × Array Tmp × Code × Code
  | .seq (.seq _ (.block _ (.rangeFunc g ps a b))) _ => (g, ps, a, b)
  | _ => (.tmp 0, #[], .skip, .skip)
noncomputable abbrev costC : Code := Try.f18.body.getD .skip
noncomputable abbrev asgC : Code := (rfG (spine 11 costC).2).2.2.1
noncomputable abbrev bodC : Code := (rfG (spine 11 costC).2).2.2.2
/-- In a round. -/
def stA (rb : ByteArray) (rc rf rst at0 np : Int) (pcells : List DV) (pn : Nat) (sum k ak : Int) : SL :=
  { stR rb rc rf rst at0 np pcells pn sum with tm := (67, .d (.val (.int .i64 ak))) :: (66, .d (.val (.int .i64 k))) :: (stR rb rc rf rst at0 np pcells pn sum).tm }
def stB (rb : ByteArray) (rc rf rst at0 np : Int) (pcells : List DV) (pn : Nat) (sum k ak : Int) : SL :=
  { stR rb rc rf rst at0 np pcells pn sum with tm := (17, .d (.val (.int .i64 ak))) :: (16, .d (.val (.int .i64 k))) :: (stA rb rc rf rst at0 np pcells pn sum k ak).tm }
theorem asg_ok {rb : ByteArray} {rc rf rst at0 np : Int} {pcells : List DV} {pn : Nat} {sum k ak : Int} {C : Cxt} {F : Ty} {p : Pr} :
    acodeP p C (tabF F tyRows) noG (qOf cmpTypes) 87 asgC (fun e s => e = .normal ∧ s = stB rb rc rf rst at0 np pcells pn sum k ak) (stA rb rc rf rst at0 np pcells pn sum k ak) := by
  conv => cbv
  trivial
theorem bod_ok {rb : ByteArray} {rc rf rst at0 np : Int} {pl : List Pr1} {pcells : List DV} {pn : Nat} {sum k ak : Int} (hcp : encL UP pl = pcells) (hnp : pl.length = pn) {j : Int} (hPa : rating_priceAt (pl, ak) = some j) {i : Nat} (hj : j = (i : Int)) (hi : i < pn)
    {d1 d2 d3 d4 d5 : Int} (hrow : pl.getD i ((0, (0, 0)), (0, 0)) = ((d1, (d2, d3)), (d4, d5))) (hk : 0 ≤ k) {hp0 : Nat → Option AO} {sum' : Int} (hs : sum' = IntKind.wrap .i64 (sum + (if k = 0 then d4 else d5)))
    {C : Cxt} {F : Ty} {p : Pr} (hC : C = cxtOf Try.prog noG 87 hp0) (hF' : F = tiOf Try.prog) (hp : p = real) :
    acodeP p C (tabF F tyRows) noG (qOf cmpTypes) 87 bodC (fun e s => e = .normal ∧ Tells noG 87 (lookF []) ({ s with tm := (stR rb rc rf rst at0 np pcells pn sum).tm } : SL).S (stR rb rc rf rst at0 np pcells pn sum').S) (stB rb rc rf rst at0 np pcells pn sum k ak) := by
  have hemp : p.emp pcells = false := p_empL hp (by rw [← hcp, encL_length, hnp]; show 0 < pn * 5; omega)
  have hrw : p.cells pcells (p.nm i 5) 5 = some [.d (.val (.int .u8 d1)), .d (.val (.int .i64 d2)), .d (.val (.int .i64 d3)), .d (.val (.int .i64 d4)), .d (.val (.int .i64 d5))] := by
    have hi' : i < pl.length := by omega
    rw [p_cellsF hp (f := encU UP) (s := 5) (fun x => encU_length UP x) hi' hcp, ← getDd ((0, (0, 0)), (0, 0)) hi', hrow]
    rfl
  by_cases hk0 : k = 0
  · rw [if_pos hk0] at hs
    have ead : p.ar .add .i64 sum d4 = sum' := by rw [hp]; exact hs.symm
    conv => cbv
    refine call_E hC (by kernel_rfl) (priceAt_v hPa hcp hnp) ?_; rintro _ _; refine ⟨by decide_cbv, ?_⟩
    conv => cbv
    obtain ⟨j2, hj2, lj2, ej2⟩ := p_ixE (i := j) (n := pn) hp (by omega) (by omega)
    simp only [ej2]
    conv => cbv
    simp only [hemp]
    conv => cbv
    simp only [hemp]
    conv => cbv
    obtain rfl : i = j2 := by omega
    simp only [hrw]
    conv => cbv
    have e3 : (p.cmp .eql k 0) = true := by rw [p_cmp_eql hp]; exact decide_eq_true (by omega)
    simp only [e3]; clear e3
    conv => cbv
    simp only [ead]
    exact tells_obj (tm := (stR rb rc rf rst at0 np pcells pn sum').tm) (hp2 := (stR rb rc rf rst at0 np pcells pn sum').hp) [(5, 5), (6, 6), (7, 7), (8, 8), (9, 9)] rfl rfl ⟨⟨rfl, rfl, rfl⟩, ⟨rfl, rfl, rfl⟩, ⟨rfl, rfl, rfl⟩, ⟨rfl, rfl, rfl⟩, ⟨rfl, rfl, rfl⟩, trivial⟩ ⟨rfl, rfl, rfl, rfl, rfl, rfl, trivial⟩
  · rw [if_neg hk0] at hs
    have ead : p.ar .add .i64 sum d5 = sum' := by rw [hp]; exact hs.symm
    conv => cbv
    refine call_E hC (by kernel_rfl) (priceAt_v hPa hcp hnp) ?_; rintro _ _; refine ⟨by decide_cbv, ?_⟩
    conv => cbv
    obtain ⟨j5, hj5, lj5, ej5⟩ := p_ixE (i := j) (n := pn) hp (by omega) (by omega)
    simp only [ej5]
    conv => cbv
    simp only [hemp]
    conv => cbv
    simp only [hemp]
    conv => cbv
    obtain rfl : i = j5 := by omega
    simp only [hrw]
    conv => cbv
    have e7 : (p.cmp .eql k 0) = false := by rw [p_cmp_eql hp]; exact decide_eq_false (by omega)
    simp only [e7]; clear e7
    conv => cbv
    simp only [ead]
    exact tells_obj (tm := (stR rb rc rf rst at0 np pcells pn sum').tm) (hp2 := (stR rb rc rf rst at0 np pcells pn sum').hp) [(5, 5), (6, 6), (7, 7), (8, 8), (9, 9)] rfl rfl ⟨⟨rfl, rfl, rfl⟩, ⟨rfl, rfl, rfl⟩, ⟨rfl, rfl, rfl⟩, ⟨rfl, rfl, rfl⟩, ⟨rfl, rfl, rfl⟩, trivial⟩ ⟨rfl, rfl, rfl, rfl, rfl, rfl, trivial⟩
noncomputable abbrev posC : Code := match (spine 11 costC).2 with | .seq _ c => c | _ => .skip
theorem post_ok {rb : ByteArray} {rc rf rst at0 np : Int} {pcells : List DV} {pn : Nat} {sum : Int} {C : Cxt} {F : Ty} {p : Pr} :
    acodeP p C (tabF F tyRows) noG (qOf cmpTypes) 87 posC (retQ (tabF F tyRows) Try.f18 [] (.tup [.d (.val (.int .i64 sum)), .d (.val (.int .u8 0))]) []) (stR rb rc rf rst at0 np pcells pn sum) := by
  conv => cbv
  exact back_same rfl
theorem cost_e1 {rs : List Ra} {fr : Int} {num : List UInt8} {a b : Int} {cells : List DV} {n : Nat} {nb : ByteArray} (hcr : encL UR rs = cells) (hnr : rs.length = n) (hnb : (⟨num.toArray⟩ : ByteArray) = nb) (hV : rating_Valid (rs, fr) = some false) : DoesO Try.prog noG 18 [.agg [.d (.dl cells n none), .d (.val (.int .i64 fr))], .d (.val (.string nb)), .d (.val (.int .i64 a)), .d (.val (.int .i64 b))] [] (.tup [.d (.val (.int .i64 0)), .d (.val (.int .u8 2))]) [] := by
  refine does_p KK (fn := Try.f18) Try.func18 rfl (by show 4 ≤ _; decide) ?_
  intro C F p hC hF' hp
  conv => cbv
  refine call_E hC (by kernel_rfl) (valid_v hV hcr hnr) ?_; rintro _ _; refine ⟨by decide_cbv, ?_⟩
  conv => cbv
  exact back_same rfl
theorem cost_e2 {rs : List Ra} {fr : Int} {num : List UInt8} {a b : Int} {cells : List DV} {n : Nat} {nb : ByteArray} (hcr : encL UR rs = cells) (hnr : rs.length = n) (hnb : (⟨num.toArray⟩ : ByteArray) = nb) (hV : rating_Valid (rs, fr) = some true) (h1 : rating_within (a, (0, 281474976710656)) = some false) : DoesO Try.prog noG 18 [.agg [.d (.dl cells n none), .d (.val (.int .i64 fr))], .d (.val (.string nb)), .d (.val (.int .i64 a)), .d (.val (.int .i64 b))] [] (.tup [.d (.val (.int .i64 0)), .d (.val (.int .u8 3))]) [] := by
  refine does_p KK (fn := Try.f18) Try.func18 rfl (by show 4 ≤ _; decide) ?_
  intro C F p hC hF' hp
  conv => cbv
  refine call_E hC (by kernel_rfl) (valid_v hV hcr hnr) ?_; rintro _ _; refine ⟨by decide_cbv, ?_⟩
  conv => cbv
  refine call_E hC (by kernel_rfl) (within_v (by assumption)) ?_; rintro _ _; refine ⟨by decide_cbv, ?_⟩
  conv => cbv
  exact back_same rfl
theorem cost_e3 {rs : List Ra} {fr : Int} {num : List UInt8} {a b : Int} {cells : List DV} {n : Nat} {nb : ByteArray} (hcr : encL UR rs = cells) (hnr : rs.length = n) (hnb : (⟨num.toArray⟩ : ByteArray) = nb) (hV : rating_Valid (rs, fr) = some true) (h1 : rating_within (a, (0, 281474976710656)) = some true) (h2 : rating_within (b, (a, 281474976710656)) = some false) : DoesO Try.prog noG 18 [.agg [.d (.dl cells n none), .d (.val (.int .i64 fr))], .d (.val (.string nb)), .d (.val (.int .i64 a)), .d (.val (.int .i64 b))] [] (.tup [.d (.val (.int .i64 0)), .d (.val (.int .u8 3))]) [] := by
  refine does_p KK (fn := Try.f18) Try.func18 rfl (by show 4 ≤ _; decide) ?_
  intro C F p hC hF' hp
  conv => cbv
  refine call_E hC (by kernel_rfl) (valid_v hV hcr hnr) ?_; rintro _ _; refine ⟨by decide_cbv, ?_⟩
  conv => cbv
  refine call_E hC (by kernel_rfl) (within_v (by assumption)) ?_; rintro _ _; refine ⟨by decide_cbv, ?_⟩
  conv => cbv
  refine call_E hC (by kernel_rfl) (within_v (by assumption)) ?_; rintro _ _; refine ⟨by decide_cbv, ?_⟩
  conv => cbv
  exact back_same rfl
theorem cost_e4 {rs : List Ra} {fr : Int} {num : List UInt8} {a b : Int} {cells : List DV} {n : Nat} {nb : ByteArray} (hcr : encL UR rs = cells) (hnr : rs.length = n) (hnb : (⟨num.toArray⟩ : ByteArray) = nb) (hV : rating_Valid (rs, fr) = some true) (h1 : rating_within (a, (0, 281474976710656)) = some true) (h2 : rating_within (b, (a, 281474976710656)) = some true) {se : Int} (h3 : rating_Seconds (a, b) = some se) (h4 : se > 1000000) : DoesO Try.prog noG 18 [.agg [.d (.dl cells n none), .d (.val (.int .i64 fr))], .d (.val (.string nb)), .d (.val (.int .i64 a)), .d (.val (.int .i64 b))] [] (.tup [.d (.val (.int .i64 0)), .d (.val (.int .u8 4))]) [] := by
  refine does_p KK (fn := Try.f18) Try.func18 rfl (by show 4 ≤ _; decide) ?_
  intro C F p hC hF' hp
  conv => cbv
  refine call_E hC (by kernel_rfl) (valid_v hV hcr hnr) ?_; rintro _ _; refine ⟨by decide_cbv, ?_⟩
  conv => cbv
  refine call_E hC (by kernel_rfl) (within_v (by assumption)) ?_; rintro _ _; refine ⟨by decide_cbv, ?_⟩
  conv => cbv
  refine call_E hC (by kernel_rfl) (within_v (by assumption)) ?_; rintro _ _; refine ⟨by decide_cbv, ?_⟩
  conv => cbv
  refine call_E hC (by kernel_rfl) (seconds_v (by assumption)) ?_; rintro _ _; refine ⟨by decide_cbv, ?_⟩
  conv => cbv
  have e18 : (p.cmp .gtr se 1000000) = true := by rw [p_cmp_gtr hp]; exact decide_eq_true (by omega)
  simp only [e18]; clear e18
  conv => cbv
  exact back_same rfl
theorem cost_e5 {rs : List Ra} {fr : Int} {num : List UInt8} {a b : Int} {cells : List DV} {n : Nat} {nb : ByteArray} (hcr : encL UR rs = cells) (hnr : rs.length = n) (hnb : (⟨num.toArray⟩ : ByteArray) = nb) (hV : rating_Valid (rs, fr) = some true) (h1 : rating_within (a, (0, 281474976710656)) = some true) (h2 : rating_within (b, (a, 281474976710656)) = some true) {se : Int} (h3 : rating_Seconds (a, b) = some se) (h4 : se ≤ 1000000) {ix : Int} (hF : rating_Find ((rs, fr), num) = some (ix, false)) : DoesO Try.prog noG 18 [.agg [.d (.dl cells n none), .d (.val (.int .i64 fr))], .d (.val (.string nb)), .d (.val (.int .i64 a)), .d (.val (.int .i64 b))] [] (.tup [.d (.val (.int .i64 0)), .d (.val (.int .u8 8))]) [] := by
  refine does_p KK (fn := Try.f18) Try.func18 rfl (by show 4 ≤ _; decide) ?_
  intro C F p hC hF' hp
  conv => cbv
  refine call_E hC (by kernel_rfl) (valid_v hV hcr hnr) ?_; rintro _ _; refine ⟨by decide_cbv, ?_⟩
  conv => cbv
  refine call_E hC (by kernel_rfl) (within_v (by assumption)) ?_; rintro _ _; refine ⟨by decide_cbv, ?_⟩
  conv => cbv
  refine call_E hC (by kernel_rfl) (within_v (by assumption)) ?_; rintro _ _; refine ⟨by decide_cbv, ?_⟩
  conv => cbv
  refine call_E hC (by kernel_rfl) (seconds_v (by assumption)) ?_; rintro _ _; refine ⟨by decide_cbv, ?_⟩
  conv => cbv
  have e24 : (p.cmp .gtr se 1000000) = false := by rw [p_cmp_gtr hp]; exact decide_eq_false (by omega)
  simp only [e24]; clear e24
  conv => cbv
  refine call_E hC (by kernel_rfl) (find_v hF hcr hnr hnb) ?_; rintro _ _; refine ⟨by decide_cbv, ?_⟩
  conv => cbv
  exact back_same rfl
theorem cost_e6 {rs : List Ra} {fr : Int} {num : List UInt8} {a b : Int} {cells : List DV} {n : Nat} {nb : ByteArray} (hcr : encL UR rs = cells) (hnr : rs.length = n) (hnb : (⟨num.toArray⟩ : ByteArray) = nb) (hV : rating_Valid (rs, fr) = some true) (h1 : rating_within (a, (0, 281474976710656)) = some true) (h2 : rating_within (b, (a, 281474976710656)) = some true) {se : Int} (h3 : rating_Seconds (a, b) = some se) (h4 : se ≤ 1000000) {ix : Int} (hF : rating_Find ((rs, fr), num) = some (ix, true)) {i : Nat} (hix : ix = (i : Int)) (hin : i < n) {R : Ra} (hR : rs.getD i ([], (0, (0, (0, [])))) = R) {rb : ByteArray} {rc rf rst : Int} {pcells : List DV} {pn : Nat} (hrb : (⟨R.1.toArray⟩ : ByteArray) = rb) (hrc : R.2.1 = rc) (hrf : R.2.2.1 = rf) (hrst : R.2.2.2.1 = rst) (hcp : encL UP R.2.2.2.2 = pcells) (hnp : R.2.2.2.2.length = pn)
    {np : Int} (hPi : rating_Pieces (R, (fr, se)) = some np) (hnp0 : np = 0) : DoesO Try.prog noG 18 [.agg [.d (.dl cells n none), .d (.val (.int .i64 fr))], .d (.val (.string nb)), .d (.val (.int .i64 a)), .d (.val (.int .i64 b))] [] (.tup [.d (.val (.int .i64 0)), .d (.val (.int .u8 0))]) [] := by
  refine does_p KK (fn := Try.f18) Try.func18 rfl (by show 4 ≤ _; decide) ?_
  intro C F p hC hF' hp
  have hemp : p.emp cells = false := p_empL hp (by rw [← hcr, encL_length, hnr]; show 0 < n * 5; omega)
  have hrow : p.cells cells (p.nm i 5) 5 = some [.d (.val (.string rb)), .d (.val (.int .i64 rc)), .d (.val (.int .i64 rf)), .d (.val (.int .i64 rst)), .d (.dl pcells pn none)] := by
    have hi : i < rs.length := by omega
    rw [p_cellsF hp (f := encU UR) (s := 5) (fun x => encU_length UR x) hi hcr, ← getDd ([], (0, (0, (0, [])))) hi, hR, ← hrb, ← hrc, ← hrf, ← hrst, ← hcp, ← hnp]
    rfl
  conv => cbv
  refine call_E hC (by kernel_rfl) (valid_v hV hcr hnr) ?_; rintro _ _; refine ⟨by decide_cbv, ?_⟩
  conv => cbv
  refine call_E hC (by kernel_rfl) (within_v (by assumption)) ?_; rintro _ _; refine ⟨by decide_cbv, ?_⟩
  conv => cbv
  refine call_E hC (by kernel_rfl) (within_v (by assumption)) ?_; rintro _ _; refine ⟨by decide_cbv, ?_⟩
  conv => cbv
  refine call_E hC (by kernel_rfl) (seconds_v (by assumption)) ?_; rintro _ _; refine ⟨by decide_cbv, ?_⟩
  conv => cbv
  have e31 : (p.cmp .gtr se 1000000) = false := by rw [p_cmp_gtr hp]; exact decide_eq_false (by omega)
  simp only [e31]; clear e31
  conv => cbv
  refine call_E hC (by kernel_rfl) (find_v hF hcr hnr hnb) ?_; rintro _ _; refine ⟨by decide_cbv, ?_⟩
  conv => cbv
  obtain ⟨j33, hj33, lj33, ej33⟩ := p_ixE (i := ix) (n := n) hp (by omega) (by omega)
  simp only [ej33]
  conv => cbv
  simp only [hemp]
  conv => cbv
  simp only [hemp]
  conv => cbv
  obtain rfl : j33 = i := by omega
  simp only [hemp, hrow]
  conv => cbv
  refine call_E hC (by kernel_rfl) (pieces_v hPi hrb hrc hrf hrst hcp hnp) ?_; rintro _ _; refine ⟨by decide_cbv, ?_⟩
  conv => cbv
  have e35 : (p.cmp .eql np 0) = true := by rw [p_cmp_eql hp]; exact decide_eq_true (by omega)
  simp only [e35]; clear e35
  conv => cbv
  exact back_same rfl
end Go.Proofs.Ytbckoncbimljeaa
