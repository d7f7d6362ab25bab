/-
  Walks: numbersOk, axisOk.
-/
import Derived.Test.YtdbpgblhnhdhoaaW15
set_option linter.unusedVariables false
set_option linter.unusedSimpArgs false
namespace Go.Proofs.Ytdbpgblhnhdhoaa
open Go.RowKit Go.Fl

def numOk (k : Int) (xs : List Nat) : Bool := kindOk k && decide (xs.length = (ruleF k).1) && !xs.any (fun x => !finP x) && !xs.any (signBad (ruleF k).2.2.2)
theorem sign_le (k : Int) : (ruleF k).2.2.2 ≤ 2 := by
  unfold ruleF; split
  · unfold ruleT; split <;> simp
  · simp

set_option maxRecDepth 100000 in
set_option maxHeartbeats 1000000 in
theorem numbersOk_any (k : Int) (xs : List Nat) (bp : Option Addr) (bv ov cap : Nat) (w : World) (h1 : xs ≠ [] → bp = some ⟨bv, ov, none⟩) (h2 : ∀ i (h : i < xs.length), w.cell? ⟨bv, ov + i, none⟩ = some (.float .f32 xs[i])) (hl : xs.length < 10000000) :
    Calls Try.prog 31 #[.int .i64 k, .slice bp xs.length cap] w (fun e w' => e = .returned (.bool (numOk k xs)) ∧ Below w.heap.size w w') := by
  go_enter Try.func31, Try.ntmps31
  go_wp2_with fail
  refine (rule_any k w).mono ?_
  rintro _ w2 ⟨rfl, hb2⟩
  have hr2 : (ruleF k).2.2.2 ≤ 2 := sign_le k
  have W3b : Below w.heap.size w (w2.alloc (.cells #[I64 (ruleF k).1, I64 (ruleF k).2.1, .bool (ruleF k).2.2.1, I64 (ruleF k).2.2.2] 75)) := hb2.alloc hb2.size _
  have hkept : Kept [(⟨w2.heap.size, 0, none⟩, I64 (ruleF k).1), (⟨w2.heap.size, 3, none⟩, I64 (ruleF k).2.2.2)] [] (w2.alloc (.cells #[I64 (ruleF k).1, I64 (ruleF k).2.1, .bool (ruleF k).2.2.1, I64 (ruleF k).2.2.2] 75)) := by
    simp only [Kept, List.forall_mem_append, List.forall_mem_cons, List.not_mem_nil, false_implies, implies_true, and_true, true_and]
    simp
  simp only [ruleV]
  have hn : numOk k xs = (kindOk k && decide (xs.length = (ruleF k).1) && !xs.any (fun x => !finP x) && !xs.any (signBad (ruleF k).2.2.2)) := rfl
  generalize kindOk k = ko at *
  generalize hrk : ruleF k = rk at *
  obtain ⟨n0, n1, n2, n3⟩ := rk
  simp only at hn hr2 W3b hkept ⊢
  have W3c : Below w.heap.size w (w2.alloc (.cells #[I64 n0, I64 n1, .bool n2, I64 n3] 75)) := W3b
  have h3 : ∀ i (h : i < xs.length), (w2.alloc (.cells #[I64 n0, I64 n1, .bool n2, I64 n3] 75)).cell? ⟨bv, ov + i, none⟩ = some (.float .f32 xs[i]) := fun i hi => by rw [lift W3c _ (by rw [h2 i hi]; rfl)]; exact h2 i hi
  clear h2
  cases ko
  · go_wp2_with fail
    go_ret
    exact ⟨by rw [hn]; rfl, W3c⟩
  by_cases hlen : xs.length = n0
  · subst hlen
    have hfin := finite_any xs bp bv ov cap _ h1 h3 hl
    go_wp2_with fail
    refine hfin.mono ?_
    rintro _ w4 ⟨rfl, hb4⟩
    have W4b := below_step W3c hb4
    cases hf : xs.any (fun x => !finP x)
    · have h4 : ∀ i (h : i < xs.length), w4.cell? ⟨bv, ov + i, none⟩ = some (.float .f32 xs[i]) := fun i hi => by rw [lift hb4 _ (by rw [h3 i hi]; rfl)]; exact h3 i hi
      have hkept4 := keep hkept hb4
      have hc := contains_sign ⟨w2.heap.size, 0, none⟩ (signBad n3) xs bp bv ov cap w4 h1 h4 hl (fun x w' hw' => signc_any n3 hr2 x w2.heap.size 0 w' (by
        have hK := keep hkept4 hw'
        simp only [Kept, List.forall_mem_append, List.forall_mem_cons, List.not_mem_nil, false_implies, implies_true, and_true, true_and] at hK
        exact hK.2))
      clear h1 h3 h4 hkept hfin
      go_wp2_with fail
      refine hc.mono ?_
      rintro _ w5 ⟨rfl, hb5⟩
      go_wp2_with fail
      go_ret
      exact ⟨by rw [hn, hf]; simp, below_step W4b hb5⟩
    · clear h1 h3
      go_wp2_with fail
      go_ret
      exact ⟨by rw [hn, hf]; simp, W4b⟩
  · have hlen' : (xs.length : Int) ≠ (n0 : Int) := by omega
    clear h1 h3
    go_wp2_with fail
    go_ret
    exact ⟨by rw [hn]; simp [hlen], W3c⟩

def axOk (k a b : Int) : Bool := (decide (0 < (ruleF k).2.1) || decide (a = 0)) && (decide ((ruleF k).2.1 = 2) || decide (b = 0) || ((ruleF k).2.2.1 && (decide (0 ≤ b) && decide (b ≤ 2))))

theorem kids_cases (k : Int) : (ruleF k).2.1 = 0 ∨ (ruleF k).2.1 = 1 ∨ (ruleF k).2.1 = 2 := by
  unfold ruleF; split
  · unfold ruleT; split <;> simp
  · simp

set_option maxRecDepth 100000 in
set_option maxHeartbeats 4000000 in
theorem axisOk_any (nb no : Nat) (k x y : Int) (w : World) (h0 : w.cell? ⟨nb, no, none⟩ = some (.int .i64 k)) (h1 : w.cell? ⟨nb, no + 1, none⟩ = some (.int .i64 x)) (h2 : w.cell? ⟨nb, no + 2, none⟩ = some (.int .i64 y)) :
    Calls Try.prog 32 #[.pointer (some ⟨nb, no, none⟩)] w (fun e w' => e = .returned (.bool (axOk k x y)) ∧ Below w.heap.size w w') := by
  have hb : nb < w.heap.size := some_lt (a := ⟨nb, no, none⟩) (by rw [h0]; rfl)
  go_enter Try.func32, Try.ntmps32
  go_wp2_with fail
  refine (rule_any k w).mono ?_
  rintro _ w2 ⟨rfl, hb2⟩
  have W3b : Below w.heap.size w (w2.alloc (.cells #[I64 (ruleF k).1, I64 (ruleF k).2.1, .bool (ruleF k).2.2.1, I64 (ruleF k).2.2.2] 75)) := hb2.alloc hb2.size _
  simp only [ruleV]
  have hn : Hid (axOk k x y = ((decide (0 < (ruleF k).2.1) || decide (x = 0)) && (decide ((ruleF k).2.1 = 2) || decide (y = 0) || ((ruleF k).2.2.1 && (decide (0 ≤ y) && decide (y ≤ 2)))))) := by unfold Hid; rfl
  have h3 : w2.cell? ⟨nb, no + 1, none⟩ = some (.int .i64 x) := by rw [lift hb2 _ (by rw [h1]; rfl)]; exact h1
  have h4 : w2.cell? ⟨nb, no + 2, none⟩ = some (.int .i64 y) := by rw [lift hb2 _ (by rw [h2]; rfl)]; exact h2
  have hnb2 : nb < w2.heap.size := some_lt (a := ⟨nb, no + 1, none⟩) (by rw [h3]; rfl)
  have hk3 := kids_cases k
  clear h0 h1 h2 hb2
  generalize (ruleF k).2.2.1 = n2 at *
  generalize (ruleF k).2.1 = n1 at *
  by_cases hx : x = 0 <;> by_cases hy : y = 0 <;> cases n2 <;> rcases hk3 with h | h | h <;> subst h
  all_goals try subst hx
  all_goals try subst hy
  all_goals
    go_wp2_with (go_at_call 30; refine (in_any _ _ _ _).mono ?_; rintro _ w5 ⟨rfl, rfl⟩)
    go_ret
    exact ⟨by rw [hn.out]; simp [*], W3b⟩
end Go.Proofs.Ytdbpgblhnhdhoaa
