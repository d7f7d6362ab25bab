/-
  Walks of the reference: kinds.
-/
import Derived.Test.YtdbpgblhnhdhoaaS4
set_option linter.unusedVariables false
set_option linter.unusedSimpArgs false
namespace Go.Proofs.Ytdbpgblhnhdhoaa
open Go.RowKit Go.Fl

set_option maxHeartbeats 400000 in
theorem s_in_any (a b c : Int) (w : World) :
    Calls Try.prog 39 #[.int .i64 a, .int .i64 b, .int .i64 c] w (fun e w' => e = .returned (.bool (decide (b ≤ a) && decide (a ≤ c))) ∧ w = w') := by
  by_cases h1 : b ≤ a
  · by_cases h2 : a ≤ c
    all_goals
      go_enter Try.func39, Try.ntmps39
      go_wp2_with fail
      go_ret
      exact ⟨by simp [h1, h2], rfl⟩
  · go_enter Try.func39, Try.ntmps39
    go_wp2_with fail
    go_ret
    exact ⟨by rw [decide_eq_false (by omega : ¬ b ≤ a)]; rfl, rfl⟩

theorem s_leaf_any (k : Int) (w : World) : Calls Try.prog 21 #[.int .i64 k] w (fun e w' => e = .returned (.bool (decide (0 ≤ k) && decide (k ≤ 4))) ∧ w = w') := by
  go_enter Try.func21, Try.ntmps21
  go_wp2_with (go_at_call 39; refine (s_in_any _ _ _ _).mono ?_; rintro _ w2 ⟨rfl, rfl⟩)
  go_ret
  exact ⟨rfl, rfl⟩

theorem s_two_any (k : Int) (w : World) : Calls Try.prog 28 #[.int .i64 k] w (fun e w' => e = .returned (.bool (decide (5 ≤ k) && decide (k ≤ 8))) ∧ w = w') := by
  go_enter Try.func28, Try.ntmps28
  go_wp2_with (go_at_call 39; refine (s_in_any _ _ _ _).mono ?_; rintro _ w2 ⟨rfl, rfl⟩)
  go_ret
  exact ⟨rfl, rfl⟩

theorem s_axis_any (k : Int) (w : World) : Calls Try.prog 51 #[.int .i64 k] w (fun e w' => e = .returned (.bool (decide (12 ≤ k) && decide (k ≤ 14))) ∧ w = w') := by
  go_enter Try.func51, Try.ntmps51
  go_wp2_with (go_at_call 39; refine (s_in_any _ _ _ _).mono ?_; rintro _ w2 ⟨rfl, rfl⟩)
  go_ret
  exact ⟨rfl, rfl⟩

set_option maxRecDepth 100000 in
set_option maxHeartbeats 4000000 in
theorem s_count_any (k : Int) (w : World) : Calls Try.prog 75 #[.int .i64 k] w (fun e w' => e = .returned (I64 (ruleF k).1) ∧ w = w') := by
  by_cases hk : 0 ≤ k ∧ k ≤ 16
  · have : k = 0 ∨ k = 1 ∨ k = 2 ∨ k = 3 ∨ k = 4 ∨ k = 5 ∨ k = 6 ∨ k = 7 ∨ k = 8 ∨ k = 9 ∨ k = 10 ∨ k = 11 ∨ k = 12 ∨ k = 13 ∨ k = 14 ∨ k = 15 ∨ k = 16 := by omega
    rcases this with h | h | h | h | h | h | h | h | h | h | h | h | h | h | h | h | h
    all_goals
      subst h
      clear hk
      go_enter Try.func75, Try.ntmps75
      go_wp2_with fail
      go_ret
      exact ⟨rfl, rfl⟩
  · have hk' : kindOk k = false := by
      simp only [kindOk, Bool.and_eq_false_iff, decide_eq_false_iff_not]; omega
    have hr : I64 (ruleF k).1 = .int .i64 0 := by simp only [ruleF, hk']; rfl
    rw [hr]
    have hn : ∀ c : Nat, c ≤ 16 → k ≠ (c : Int) := fun c hc h => hk (by omega)
    have h0 := hn 0 (by omega); have h1 := hn 1 (by omega); have h2 := hn 2 (by omega); have h3 := hn 3 (by omega); have h4 := hn 4 (by omega); have h5 := hn 5 (by omega); have h6 := hn 6 (by omega); have h7 := hn 7 (by omega); have h8 := hn 8 (by omega); have h9 := hn 9 (by omega); have h10 := hn 10 (by omega); have h11 := hn 11 (by omega); have h12 := hn 12 (by omega); have h13 := hn 13 (by omega); have h14 := hn 14 (by omega); have h15 := hn 15 (by omega); have h16 := hn 16 (by omega)
    clear hn hk hk' hr
    simp only [Int.natCast_zero, Int.natCast_one, Int.cast_ofNat_Int] at h0 h1 h2 h3 h4 h5 h6 h7 h8 h9 h10 h11 h12 h13 h14 h15 h16
    go_enter Try.func75, Try.ntmps75
    go_wp2_with fail
    go_ret
    exact ⟨rfl, rfl⟩
end Go.Proofs.Ytdbpgblhnhdhoaa
