/- Chapter 20: the bytes before the data. -/
import Derived.Test.YtmkbnmjhkghdjaaA3
set_option linter.unusedVariables false
set_option linter.unusedSimpArgs false
namespace Go.Proofs.Ytmkbnmjhkghdjaa
open Go.RowKit
set_option maxHeartbeats 2000000
/-- write(nil, ..), the fields an own row. -/
theorem write_nil {rd : Nat → Option AO} {r m : Nat} {cap : Option Nat} {cells : List DV} {wr : Bool} (fs : List (Nat × Nat)) (hr : rd r = some (.data 62 2 cells wr)) (h1 : rd 1 = none) (h2 : rd 2 = none) (hc : cells = fieldsD fs) (hm : m = fs.length) (hf : ∀ f ∈ fs, f.1 < 4294967296 ∧ f.2 ≤ 4) (hl : 8 * fs.length ≤ 1000000000) {c1 : List DV} {n1 : Nat} (hc1 : bytesD (enc fs) = c1) (hn1 : (enc fs).length = n1) :
    Does Try.prog (fun _ => none) 33 [.d (.val (.slice none 0 0)), .sl r 0 m cap] [1, 2, r] (.sl 2 0 n1 none) ([(2, .data 5 1 c1 true), (1, .dead)] ++ [(1, .data 5 1 [] true)] ++ [(r, .data 62 2 cells false)]) rd := by
  subst hc1 hn1
  have hr1 : r ≠ 1 := by rintro rfl; rw [h1] at hr; cases hr
  have hr2 : r ≠ 2 := by rintro rfl; rw [h2] at hr; cases hr
  have W := write_o [] fs hf (by simpa using hl)
  rw [← hc, ← hm] at W
  have u1 : updF rd [(r, .data 62 2 cells false)] 1 = none := by simp [updF, look, hr1, h1]
  have u2 : updF rd [(r, .data 62 2 cells false)] 2 = none := by simp [updF, look, hr2, h2]
  have hlen : cells.length = m * 2 := by rw [hc, hm]; unfold fieldsD; clear hc hm W hf hl; induction fs with | nil => rfl | cons a l ih => simp only [List.flatMap_cons, List.length_append, ih, List.length_cons, List.length_nil]; omega
  refine does_freeze (F := [(r, .data 62 2 cells false)]) (args' := [.d (.val (.slice none 0 0)), .d (.dl cells m none)])
    (does_nil 1 5 1 (args' := [.sl 1 0 0 none, .d (.dl cells m none)]) (does_of_O W ?_ rfl rfl ?_ rfl) ⟨by simp, u1⟩ ?_) ⟨by simp, ⟨_, _, _, _, hr, rfl⟩, trivial⟩ ?_
  · intro x hx
    rcases List.mem_singleton.1 hx with rfl
    exact ⟨by simp, by simp [updF, look, bytesD]⟩
  · intro x hx
    rcases List.mem_cons.1 hx with rfl | hx
    · exact ⟨by simp, .inl (by rw [updF]; simp [look]; exact u2)⟩
    · rcases List.mem_singleton.1 hx with rfl
      exact ⟨by simp, .inr rfl⟩
  · exact ⟨_, _, rfl, .inr ⟨rfl, rfl⟩, _, _, rfl, .inl rfl, rfl⟩
  · rw [TdL]
    refine ⟨_, _, rfl, ?_, ?_⟩
    · rw [TdV]; exact .inl rfl
    · rw [TdL]
      refine ⟨_, _, rfl, ?_, by rw [TdL]⟩
      rw [TdV]
      unfold TdD lookF look
      simp only [if_true]
      refine .inl ?_
      rw [List.drop_zero, List.take_of_length_le (by omega)]
theorem head_o (n k s : Nat) (hn : n < 4294967296) (hk : k < 256) (hs : s ≤ 65535) :
    DoesO Try.prog (fun _ => none) 32 [aInt .i64 n, aInt .u8 k, aInt .i64 s] [] (.sl 2 0 10 none) [(2, .data 5 1 (bytesD (enc [(167, 1), (k, 1), (n, 4), (s, 2), (65535 - s, 2)])) true)] := by
  obtain ⟨ni, hni⟩ : ∃ i : Int, (n : Int) = i := ⟨_, rfl⟩
  obtain ⟨ki, hki⟩ : ∃ i : Int, (k : Int) = i := ⟨_, rfl⟩
  obtain ⟨si, hsi⟩ : ∃ i : Int, (s : Int) = i := ⟨_, rfl⟩
  obtain ⟨c1, hc1⟩ : ∃ c1, bytesD (enc [(167, 1), (k, 1), (n, 4), (s, 2), (65535 - s, 2)]) = c1 := ⟨_, rfl⟩
  rw [hni, hki, hsi, hc1]
  refine does_p KK (fn := Try.f32) Try.func32 rfl (by show 3 ≤ _; decide) ?_
  intro C F p hC hF hp
  conv => cbv
  have w1 : p.wr .u32 ki = (k : Int) := by rw [← hki]; exact p_wr32 hp (by omega) (by omega)
  have w2 : p.wr .u32 ni = (n : Int) := by rw [← hni]; exact p_wr32 hp (by omega) (by omega)
  have w3 : p.wr .u32 si = (s : Int) := by rw [← hsi]; exact p_wr32 hp (by omega) (by omega)
  have w4 : p.wr .u32 (p.ar .sub .i64 65535 si) = ((65535 - s : Nat) : Int) := by
    rw [← hsi, p_sub hp (by omega) (by omega), p_wr32 hp (by omega) (by omega)]; omega
  refine call_p hC (by kernel_rfl) (write_nil [(167, 1), (k, 1), (n, 4), (s, 2), (65535 - s, 2)] rfl rfl rfl (by simp only [w1, w2, w3, w4]; rfl) rfl (by simp; omega) (by simp) hc1 (show _ = 10 from rfl)) ⟨rfl, ?_⟩
  conv => cbv
  exact back_obj [(2, 2)] rfl rfl ⟨⟨rfl, rfl, rfl⟩, trivial⟩ rfl rfl
end Go.Proofs.Ytmkbnmjhkghdjaa
