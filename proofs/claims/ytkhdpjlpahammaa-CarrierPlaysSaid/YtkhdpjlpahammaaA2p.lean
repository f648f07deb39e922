import Derived.Test.YtkhdpjlpahammaaA1p
import Derived.Test.YtkhdpjlpahammaaY1p
set_option linter.unusedVariables false
set_option linter.unusedSimpArgs false
namespace Go.Proofs.Ytkhdpjlpahammaa
open Go.RowKit
set_option maxHeartbeats 4000000
set_option maxRecDepth 10000
theorem clone_back {e z : Nat} : Back [(20000001, .data e z [] true)] [(20000001, .data e z [] true)] [(20000002, .data e z [] true), (20000001, .data e z [] true)] (.sl 20000002 0 0 none) (.d (.val (.slice none 0 0))) := by
  refine ⟨fun r => if r = 20000001 then some 20000001 else none, fun r o h => ?_, ⟨fun r' o ho => ?_, fun r' r'' o' o'' r h1 h2 h3 h4 h5 h6 => ?_⟩, ?_⟩
  · rw [look] at h
    split at h
    · rename_i hk; subst hk; exact ⟨if_pos rfl, rfl⟩
    · cases h
  · unfold lookF at ho
    rw [look] at ho
    unfold WkO
    split at ho
    · rename_i hk; subst hk; cases ho
      exact rfl
    · rw [look] at ho
      split at ho
      · rename_i hk; subst hk; cases ho
        show ∃ wr1 cs1, _
        exact ⟨true, [], rfl, .inl rfl, fun h => h, fun h => by cases h⟩
      · cases ho
  · split at h5
    · split at h6
      · rename_i a b; rw [a, b]
      · cases h6
    · cases h5
  · rw [WkV]
    exact ⟨rfl, .inr (.inl ⟨by rw [if_neg (by decide)], rfl, rfl, rfl, rfl⟩)⟩
theorem clone3_28 : DoesO Try.prog (fun _ => none) 28 [.sl 20000001 0 0 none] [(20000001, .data 37 4 [] true)] (.sl 20000002 0 0 none) [(20000002, .data 37 4 [] true), (20000001, .data 37 4 [] true)] := by
  refine does_p KK (fn := Try.f28) Try.func28 rfl (by show 1 ≤ _; decide) ?_
  intro C F p hC hF hp
  conv => cbv
  have e1 : (p.neq 0 0) = true := p_neq hp (by omega)
  simp only [e1]; clear e1
  conv => cbv
  refine ⟨clone_back, ?_⟩
  conv => cbv
  have ez2 : (p.nm 0 4) = 0 := by rw [hp]; rfl
  simp only [ez2]; clear ez2
  conv => cbv
  have ez3 : (p.na 0 0) = 0 := by rw [hp]; rfl
  simp only [ez3]; clear ez3
  conv => cbv
  have ez4 : (p.len []) = 0 := by rw [hp]; rfl
  simp only [ez4]; clear ez4
  conv => cbv
  have e5 : (p.nle 0 0) = true := p_nle hp (by omega)
  simp only [e5]; clear e5
  conv => cbv
  have e6 : (p.neq 0 0) = true := p_neq hp (by omega)
  simp only [e6]; clear e6
  conv => cbv
  have e7 : (p.fit 0 0 32) = true := p_fit hp (by omega) (by show _ ≤ 9223372036854775807; omega)
  simp only [e7]; clear e7
  conv => cbv
  have ez8 : (p.na 0 0) = 0 := by rw [hp]; rfl
  simp only [ez8]; clear ez8
  conv => cbv
  have ez9 : (p.cut [] 0 0) = [] := by rw [hp]; rfl
  simp only [ez9]; clear ez9
  conv => cbv
  have ez10 : (p.app [] []) = [] := by rw [p_app hp]; rfl
  simp only [ez10]; clear ez10
  conv => cbv
  exact back_obj [(20000002, 1302), (20000001, 20000001)] rfl rfl ⟨⟨rfl, rfl, rfl⟩, ⟨rfl, rfl, rfl⟩, trivial⟩ rfl rfl
theorem clone2_28 {cs : List DV} {n : Nat} (hw : cs.length = n * 4) (h1 : 1 ≤ n) (h2 : n ≤ 1000000) : DoesO Try.prog (fun _ => none) 28 [.sl 20000001 0 n none] [(20000001, .data 37 4 cs true)] (.sl 20000002 0 n none) [(20000002, .data 37 4 cs true), (20000001, .data 37 4 cs true)] := by
  refine does_p KK (fn := Try.f28) Try.func28 rfl (by show 1 ≤ _; decide) ?_
  intro C F p hC hF hp
  conv => cbv
  have e12 : (p.neq n 0) = false := p_neqf hp (by omega)
  simp only [e12]; clear e12
  conv => cbv
  obtain ⟨z13, hz13⟩ : ∃ z : Nat, z = n * 4 := ⟨_, rfl⟩
  have ez13 : (p.nm n 4) = z13 := by rw [hz13]; exact p_nm hp
  simp only [ez13]
  conv => cbv
  have ez14 : (p.na 0 z13) = z13 := by rw [p_na hp]; omega
  simp only [ez14]; clear ez14
  conv => cbv
  obtain ⟨z15, hz15⟩ : ∃ z : Nat, z = (cs).length := ⟨_, rfl⟩
  have ez15 : (p.len cs) = z15 := by rw [hz15]; exact p_len hp
  simp only [ez15]
  conv => cbv
  have e16 : (p.nle z13 z15) = true := p_nle hp (by omega)
  simp only [e16]; clear e16
  conv => cbv
  have e17 : (p.neq 0 0) = true := p_neq hp (by omega)
  simp only [e17]; clear e17
  conv => cbv
  have e18 : (p.fit 0 n 32) = true := p_fit hp (by omega) (by show _ ≤ 9223372036854775807; omega)
  simp only [e18]; clear e18
  conv => cbv
  have ez19 : (p.na 0 n) = n := by rw [p_na hp]; omega
  simp only [ez19]; clear ez19
  conv => cbv
  have ez20 : (p.cut cs 0 z13) = cs := p_cutAll hp (by omega)
  simp only [ez20]
  conv => cbv
  have ez21 : (p.app [] cs) = cs := by rw [p_app hp]; rfl
  simp only [ez21]; clear ez21
  conv => cbv
  exact back_obj [(20000002, 1302), (20000001, 20000001)] rfl rfl ⟨⟨rfl, rfl, rfl⟩, ⟨rfl, rfl, rfl⟩, trivial⟩ rfl rfl
theorem clone_conm28 : ConOk Try.prog 28 ⟨[.tmp 0 false [.own 20000001 37 (.pair .bool (.pair (.int .i64) (.pair .bool (.int .i64))))]], [.tmp 0 false [.own 20000002 37 (.pair .bool (.pair (.int .i64) (.pair .bool (.int .i64))))]], cloneG⟩ := by
  refine ⟨by kernel_rfl, ?_⟩
  show ∀ (a x : List ((Bool) × ((Int) × ((Bool) × (Int))))), cloneG a = some x → DoesO Try.prog noG 28 [.sl 20000001 0 a.length none] [(20000001, .data 37 (szU (.pair .bool (.pair (.int .i64) (.pair .bool (.int .i64))))) (encL (.pair .bool (.pair (.int .i64) (.pair .bool (.int .i64)))) a) true)] (.sl 20000002 0 x.length none) [(20000002, .data 37 (szU (.pair .bool (.pair (.int .i64) (.pair .bool (.int .i64))))) (encL (.pair .bool (.pair (.int .i64) (.pair .bool (.int .i64)))) x) true), (20000001, .data 37 (szU (.pair .bool (.pair (.int .i64) (.pair .bool (.int .i64))))) (encL (.pair .bool (.pair (.int .i64) (.pair .bool (.int .i64)))) a) true)]
  intro a x hx
  unfold cloneG at hx
  rw [cond_ite] at hx
  split at hx
  · cases hx
    by_cases h0 : a = []
    · subst h0; exact clone3_28
    · refine clone2_28 ?_ (by cases a with | nil => exact absurd rfl h0 | cons _ _ => simp) (by assumption)
      exact encL_length _ _
  · cases hx
theorem clone3_30 : DoesO Try.prog (fun _ => none) 30 [.sl 20000001 0 0 none] [(20000001, .data 5 1 [] true)] (.sl 20000002 0 0 none) [(20000002, .data 5 1 [] true), (20000001, .data 5 1 [] true)] := by
  refine does_p KK (fn := Try.f30) Try.func30 rfl (by show 1 ≤ _; decide) ?_
  intro C F p hC hF hp
  conv => cbv
  have e22 : (p.neq 0 0) = true := p_neq hp (by omega)
  simp only [e22]; clear e22
  conv => cbv
  refine ⟨clone_back, ?_⟩
  conv => cbv
  have ez23 : (p.nm 0 1) = 0 := by rw [hp]; rfl
  simp only [ez23]; clear ez23
  conv => cbv
  have ez24 : (p.na 0 0) = 0 := by rw [hp]; rfl
  simp only [ez24]; clear ez24
  conv => cbv
  have ez25 : (p.len []) = 0 := by rw [hp]; rfl
  simp only [ez25]; clear ez25
  conv => cbv
  have e26 : (p.nle 0 0) = true := p_nle hp (by omega)
  simp only [e26]; clear e26
  conv => cbv
  have e27 : (p.neq 0 0) = true := p_neq hp (by omega)
  simp only [e27]; clear e27
  conv => cbv
  have e28 : (p.fit 0 0 1) = true := p_fit hp (by omega) (by show _ ≤ 9223372036854775807; omega)
  simp only [e28]; clear e28
  conv => cbv
  have ez29 : (p.na 0 0) = 0 := by rw [hp]; rfl
  simp only [ez29]; clear ez29
  conv => cbv
  have ez30 : (p.cut [] 0 0) = [] := by rw [hp]; rfl
  simp only [ez30]; clear ez30
  conv => cbv
  have ez31 : (p.app [] []) = [] := by rw [p_app hp]; rfl
  simp only [ez31]; clear ez31
  conv => cbv
  exact back_obj [(20000002, 1302), (20000001, 20000001)] rfl rfl ⟨⟨rfl, rfl, rfl⟩, ⟨rfl, rfl, rfl⟩, trivial⟩ rfl rfl
theorem clone2_30 {cs : List DV} {n : Nat} (hw : cs.length = n * 1) (h1 : 1 ≤ n) (h2 : n ≤ 140737488355328) : DoesO Try.prog (fun _ => none) 30 [.sl 20000001 0 n none] [(20000001, .data 5 1 cs true)] (.sl 20000002 0 n none) [(20000002, .data 5 1 cs true), (20000001, .data 5 1 cs true)] := by
  refine does_p KK (fn := Try.f30) Try.func30 rfl (by show 1 ≤ _; decide) ?_
  intro C F p hC hF hp
  conv => cbv
  have e33 : (p.neq n 0) = false := p_neqf hp (by omega)
  simp only [e33]; clear e33
  conv => cbv
  have ez34 : (p.nm n 1) = n := by rw [p_nm hp]; omega
  simp only [ez34]; clear ez34
  conv => cbv
  have ez35 : (p.na 0 n) = n := by rw [p_na hp]; omega
  simp only [ez35]; clear ez35
  conv => cbv
  obtain ⟨z36, hz36⟩ : ∃ z : Nat, z = (cs).length := ⟨_, rfl⟩
  have ez36 : (p.len cs) = z36 := by rw [hz36]; exact p_len hp
  simp only [ez36]
  conv => cbv
  have e37 : (p.nle n z36) = true := p_nle hp (by omega)
  simp only [e37]; clear e37
  conv => cbv
  have e38 : (p.neq 0 0) = true := p_neq hp (by omega)
  simp only [e38]; clear e38
  conv => cbv
  have e39 : (p.fit 0 n 1) = true := p_fit hp (by omega) (by show _ ≤ 9223372036854775807; omega)
  simp only [e39]; clear e39
  conv => cbv
  have ez40 : (p.na 0 n) = n := by rw [p_na hp]; omega
  simp only [ez40]; clear ez40
  conv => cbv
  have ez41 : (p.cut cs 0 n) = cs := p_cutAll hp (by omega)
  simp only [ez41]
  conv => cbv
  have ez42 : (p.app [] cs) = cs := by rw [p_app hp]; rfl
  simp only [ez42]; clear ez42
  conv => cbv
  exact back_obj [(20000002, 1302), (20000001, 20000001)] rfl rfl ⟨⟨rfl, rfl, rfl⟩, ⟨rfl, rfl, rfl⟩, trivial⟩ rfl rfl
theorem clone_conm30 : ConOk Try.prog 30 ⟨[.tmp 0 false [.own 20000001 5 (.int .u8)]], [.tmp 0 false [.own 20000002 5 (.int .u8)]], cloneB⟩ := by
  refine ⟨by kernel_rfl, ?_⟩
  show ∀ (a x : List (Int)), cloneB a = some x → DoesO Try.prog noG 30 [.sl 20000001 0 a.length none] [(20000001, .data 5 (szU (.int .u8)) (encL (.int .u8) a) true)] (.sl 20000002 0 x.length none) [(20000002, .data 5 (szU (.int .u8)) (encL (.int .u8) x) true), (20000001, .data 5 (szU (.int .u8)) (encL (.int .u8) a) true)]
  intro a x hx
  unfold cloneB at hx
  rw [cond_ite] at hx
  split at hx
  · cases hx
    by_cases h0 : a = []
    · subst h0; exact clone3_30
    · refine clone2_30 ?_ (by cases a with | nil => exact absurd rfl h0 | cons _ _ => simp) (by assumption)
      exact encL_length _ _
  · cases hx
theorem clone3_40 : DoesO Try.prog (fun _ => none) 40 [.sl 20000001 0 0 none] [(20000001, .data 67 10 [] true)] (.sl 20000002 0 0 none) [(20000002, .data 67 10 [] true), (20000001, .data 67 10 [] true)] := by
  refine does_p KK (fn := Try.f40) Try.func40 rfl (by show 1 ≤ _; decide) ?_
  intro C F p hC hF hp
  conv => cbv
  have e43 : (p.neq 0 0) = true := p_neq hp (by omega)
  simp only [e43]; clear e43
  conv => cbv
  refine ⟨clone_back, ?_⟩
  conv => cbv
  have ez44 : (p.nm 0 10) = 0 := by rw [hp]; rfl
  simp only [ez44]; clear ez44
  conv => cbv
  have ez45 : (p.na 0 0) = 0 := by rw [hp]; rfl
  simp only [ez45]; clear ez45
  conv => cbv
  have ez46 : (p.len []) = 0 := by rw [hp]; rfl
  simp only [ez46]; clear ez46
  conv => cbv
  have e47 : (p.nle 0 0) = true := p_nle hp (by omega)
  simp only [e47]; clear e47
  conv => cbv
  have e48 : (p.neq 0 0) = true := p_neq hp (by omega)
  simp only [e48]; clear e48
  conv => cbv
  have e49 : (p.fit 0 0 112) = true := p_fit hp (by omega) (by show _ ≤ 9223372036854775807; omega)
  simp only [e49]; clear e49
  conv => cbv
  have ez50 : (p.na 0 0) = 0 := by rw [hp]; rfl
  simp only [ez50]; clear ez50
  conv => cbv
  have ez51 : (p.cut [] 0 0) = [] := by rw [hp]; rfl
  simp only [ez51]; clear ez51
  conv => cbv
  have ez52 : (p.app [] []) = [] := by rw [p_app hp]; rfl
  simp only [ez52]; clear ez52
  conv => cbv
  exact back_obj [(20000002, 1302), (20000001, 20000001)] rfl rfl ⟨⟨rfl, rfl, rfl⟩, ⟨rfl, rfl, rfl⟩, trivial⟩ rfl rfl
theorem clone2_40 {cs : List DV} {n : Nat} (hw : cs.length = n * 10) (h1 : 1 ≤ n) (h2 : n ≤ 1000000) : DoesO Try.prog (fun _ => none) 40 [.sl 20000001 0 n none] [(20000001, .data 67 10 cs true)] (.sl 20000002 0 n none) [(20000002, .data 67 10 cs true), (20000001, .data 67 10 cs true)] := by
  refine does_p KK (fn := Try.f40) Try.func40 rfl (by show 1 ≤ _; decide) ?_
  intro C F p hC hF hp
  conv => cbv
  have e54 : (p.neq n 0) = false := p_neqf hp (by omega)
  simp only [e54]; clear e54
  conv => cbv
  obtain ⟨z55, hz55⟩ : ∃ z : Nat, z = n * 10 := ⟨_, rfl⟩
  have ez55 : (p.nm n 10) = z55 := by rw [hz55]; exact p_nm hp
  simp only [ez55]
  conv => cbv
  have ez56 : (p.na 0 z55) = z55 := by rw [p_na hp]; omega
  simp only [ez56]; clear ez56
  conv => cbv
  obtain ⟨z57, hz57⟩ : ∃ z : Nat, z = (cs).length := ⟨_, rfl⟩
  have ez57 : (p.len cs) = z57 := by rw [hz57]; exact p_len hp
  simp only [ez57]
  conv => cbv
  have e58 : (p.nle z55 z57) = true := p_nle hp (by omega)
  simp only [e58]; clear e58
  conv => cbv
  have e59 : (p.neq 0 0) = true := p_neq hp (by omega)
  simp only [e59]; clear e59
  conv => cbv
  have e60 : (p.fit 0 n 112) = true := p_fit hp (by omega) (by show _ ≤ 9223372036854775807; omega)
  simp only [e60]; clear e60
  conv => cbv
  have ez61 : (p.na 0 n) = n := by rw [p_na hp]; omega
  simp only [ez61]; clear ez61
  conv => cbv
  have ez62 : (p.cut cs 0 z55) = cs := p_cutAll hp (by omega)
  simp only [ez62]
  conv => cbv
  have ez63 : (p.app [] cs) = cs := by rw [p_app hp]; rfl
  simp only [ez63]; clear ez63
  conv => cbv
  exact back_obj [(20000002, 1302), (20000001, 20000001)] rfl rfl ⟨⟨rfl, rfl, rfl⟩, ⟨rfl, rfl, rfl⟩, trivial⟩ rfl rfl
theorem clone_conm40 : ConOk Try.prog 40 ⟨[.tmp 0 false [.own 20000001 67 (.pair (.pair .bool (.pair (.int .i64) (.pair .bool (.int .i64)))) (.pair (.int .i64) (.pair .str (.pair .str (.pair (.int .i64) (.pair .bool (.list (.int .u8))))))))]], [.tmp 0 false [.own 20000002 67 (.pair (.pair .bool (.pair (.int .i64) (.pair .bool (.int .i64)))) (.pair (.int .i64) (.pair .str (.pair .str (.pair (.int .i64) (.pair .bool (.list (.int .u8))))))))]], cloneG⟩ := by
  refine ⟨by kernel_rfl, ?_⟩
  show ∀ (a x : List (((Bool) × ((Int) × ((Bool) × (Int)))) × ((Int) × ((List UInt8) × ((List UInt8) × ((Int) × ((Bool) × (List (Int))))))))), cloneG a = some x → DoesO Try.prog noG 40 [.sl 20000001 0 a.length none] [(20000001, .data 67 (szU (.pair (.pair .bool (.pair (.int .i64) (.pair .bool (.int .i64)))) (.pair (.int .i64) (.pair .str (.pair .str (.pair (.int .i64) (.pair .bool (.list (.int .u8))))))))) (encL (.pair (.pair .bool (.pair (.int .i64) (.pair .bool (.int .i64)))) (.pair (.int .i64) (.pair .str (.pair .str (.pair (.int .i64) (.pair .bool (.list (.int .u8)))))))) a) true)] (.sl 20000002 0 x.length none) [(20000002, .data 67 (szU (.pair (.pair .bool (.pair (.int .i64) (.pair .bool (.int .i64)))) (.pair (.int .i64) (.pair .str (.pair .str (.pair (.int .i64) (.pair .bool (.list (.int .u8))))))))) (encL (.pair (.pair .bool (.pair (.int .i64) (.pair .bool (.int .i64)))) (.pair (.int .i64) (.pair .str (.pair .str (.pair (.int .i64) (.pair .bool (.list (.int .u8)))))))) x) true), (20000001, .data 67 (szU (.pair (.pair .bool (.pair (.int .i64) (.pair .bool (.int .i64)))) (.pair (.int .i64) (.pair .str (.pair .str (.pair (.int .i64) (.pair .bool (.list (.int .u8))))))))) (encL (.pair (.pair .bool (.pair (.int .i64) (.pair .bool (.int .i64)))) (.pair (.int .i64) (.pair .str (.pair .str (.pair (.int .i64) (.pair .bool (.list (.int .u8)))))))) a) true)]
  intro a x hx
  unfold cloneG at hx
  rw [cond_ite] at hx
  split at hx
  · cases hx
    by_cases h0 : a = []
    · subst h0; exact clone3_40
    · refine clone2_40 ?_ (by cases a with | nil => exact absurd rfl h0 | cons _ _ => simp) (by assumption)
      exact encL_length _ _
  · cases hx
end Go.Proofs.Ytkhdpjlpahammaa
