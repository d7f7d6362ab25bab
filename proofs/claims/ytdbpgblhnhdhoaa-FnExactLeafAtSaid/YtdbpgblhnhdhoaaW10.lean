/-
  Walks: children, last.
-/
import Derived.Test.YtdbpgblhnhdhoaaW9
import Derived.RegionTactic
import Derived.ChangeAlike
import Derived.BigRegion
set_option linter.unusedVariables false
set_option linter.unusedSimpArgs false
namespace Go.Proofs.Ytdbpgblhnhdhoaa
open Go.RowKit Go.Fl

set_option maxRecDepth 100000 in
set_option maxHeartbeats 4000000 in
theorem children_any (b o : Nat) (k x y : Int) (w : World) (h0 : w.cell? ⟨b, o, none⟩ = some (.int .i64 k)) (h1 : w.cell? ⟨b, o + 1, none⟩ = some (.int .i64 x)) (h2 : w.cell? ⟨b, o + 2, none⟩ = some (.int .i64 y)) :
    Calls Try.prog 23 #[.pointer (some ⟨b, o, none⟩)] w (fun e w' => ∃ g, e = .returned (.slice (some ⟨g, 0, none⟩) (ruleF k).2.1 2) ∧ w'.cell? ⟨g, 0, none⟩ = some (.int .i64 x) ∧ w'.cell? ⟨g, 1, none⟩ = some (.int .i64 y) ∧ w.heap.size ≤ g ∧ Below w.heap.size w w') := by
  have hc : (ruleF k).2.1 ≤ 2 := by
    unfold ruleF; split
    · unfold ruleT; split <;> simp
    · simp
  have hb : b < w.heap.size := some_lt (a := ⟨b, o, none⟩) (by rw [h0]; rfl)
  go_enter Try.func23, Try.ntmps23
  go_wp2_with (go_at_call 40; refine (rule_any _ _).mono ?_; rintro _ w2 ⟨rfl, hb1⟩; have HL := lift hb1; simp only [ruleV])
  have W3b : Below w.heap.size w (w2.alloc (.cells #[I64 (ruleF k).1, I64 (ruleF k).2.1, .bool (ruleF k).2.2.1, I64 (ruleF k).2.2.2] 75)) := hb1.alloc hb1.size _
  have hk1 : (w2.alloc (.cells #[I64 (ruleF k).1, I64 (ruleF k).2.1, .bool (ruleF k).2.2.1, I64 (ruleF k).2.2.2] 75)).cell? ⟨b, o + 1, none⟩ = some (.int .i64 x) := by rw [lift W3b _ (by rw [h1]; rfl)]; exact h1
  have hk2 : (w2.alloc (.cells #[I64 (ruleF k).1, I64 (ruleF k).2.1, .bool (ruleF k).2.2.1, I64 (ruleF k).2.2.2] 75)).cell? ⟨b, o + 2, none⟩ = some (.int .i64 y) := by rw [lift W3b _ (by rw [h2]; rfl)]; exact h2
  have hk3 : (w2.alloc (.cells #[I64 (ruleF k).1, I64 (ruleF k).2.1, .bool (ruleF k).2.2.1, I64 (ruleF k).2.2.2] 75)).cell? ⟨w2.heap.size, 1, none⟩ = some (I64 (ruleF k).2.1) := by simp
  clear hb1 HL
  generalize w2.alloc (.cells #[I64 (ruleF k).1, I64 (ruleF k).2.1, .bool (ruleF k).2.2.1, I64 (ruleF k).2.2.2] 75) = w3 at *
  clear h0 h1 h2
  generalize hnc : (ruleF k).2.1 = nc at *
  have hc' : (nc : Int) ≤ 2 := by omega
  have hc0 : (0 : Int) ≤ nc := by omega
  have hs3 : w2.heap.size < w3.heap.size := some_lt (a := ⟨w2.heap.size, 1, none⟩) (by rw [hk3]; rfl)
  have hk4 : (w3.alloc (.cells #[.int .i64 x, .int .i64 y] 2)).cell? ⟨w2.heap.size, 1, none⟩ = some (I64 nc) := by rw [lift ((Below.refl w3.heap.size w3).alloc (Nat.le_refl _) _) _ (by rw [hk3]; rfl)]; exact hk3
  go_region
  go_wp2_with fail
  go_ret
  exact ⟨w3.heap.size, by rw [hnc]; rfl, by simp, by simp, W3b.size, ((W3b.alloc W3b.size _)).drew⟩

theorem last_any (sb so : Nat) (bp : Option Addr) (len cap : Nat) (w : World) (h0 : w.cell? ⟨sb, so, none⟩ = some (.slice bp len cap)) :
    Calls Try.prog 22 #[.pointer (some ⟨sb, so, none⟩)] w (fun e w' => e = .returned (.int .i64 (wrap64 ((len : Int) - 1))) ∧ w' = w) := by
  go_enter Try.func22, Try.ntmps22
  go_wp2_with fail
  go_ret
  exact ⟨rfl, rfl⟩
end Go.Proofs.Ytdbpgblhnhdhoaa
