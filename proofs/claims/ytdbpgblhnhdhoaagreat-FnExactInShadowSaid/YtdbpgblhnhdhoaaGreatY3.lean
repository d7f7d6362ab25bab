/-
  Walks: right marches of the reference.
-/
import Derived.Test.YtdbpgblhnhdhoaaGreatY2
import Derived.Test.YtdbpgblhnhdhoaaGreatGJ
set_option linter.unusedVariables false
set_option linter.unusedSimpArgs false
namespace Go.Proofs.YtdbpgblhnhdhoaaGreat
open Go.RowKit Go.Fl

/-- A march lies here. -/
structure MarIn (a b : Nat) (n : Int) (mb mo : Nat) (w : World) : Prop where
  kept : Kept [(⟨mb, mo, none⟩, F1 a), (⟨mb, mo + 1, none⟩, F1 b), (⟨mb, mo + 2, none⟩, .int .i64 n)] [] w
theorem MarIn.keep {a b : Nat} {n : Int} {mb mo : Nat} {w w' : World} (h : MarIn a b n mb mo w) (hb : Below w.heap.size w w') : MarIn a b n mb mo w' := ⟨Go.Fl.keep h.kept hb⟩
theorem MarIn.lt {a b : Nat} {n : Int} {mb mo : Nat} {w : World} (h : MarIn a b n mb mo w) : mb < w.heap.size := some_lt (a := ⟨mb, mo, none⟩) (by rw [h.kept.1 (⟨mb, mo, none⟩, F1 a) (by simp)]; rfl)

theorem way4 (p q r s : Bool) : p = false ∨ (p = true ∧ q = false) ∨ (p = true ∧ q = true ∧ r = false) ∨ (p = true ∧ q = true ∧ r = true ∧ s = false) ∨ (p = true ∧ q = true ∧ r = true ∧ s = true) := by
  cases p <;> cases q <;> cases r <;> cases s <;> simp

theorem mar_eq (a b : Nat) (n : Int) : marOk (cn .f32 a) (cn .f32 b) n = (rightP (cn .f32 a) && eqk .f32 (B .sub (cn .f32 b) (cn .f32 b)) 0 && ((FloatKind.f32.format.order b 0 == some .gt) || (FloatKind.f32.format.order b 0 == some .eq)) && (decide (1 ≤ n) && decide (n ≤ 64))) := by
  unfold marOk finB gtk
  rw [ord_r0]
  unfold eqk
  rw [ord_r0]

set_option maxRecDepth 100000 in
set_option maxHeartbeats 1000000 in
theorem s_mar_any (a b : Nat) (n : Int) (mb mo : Nat) (w : World) (h : MarIn a b n mb mo w) :
    Calls Tryz.prog 77 #[.pointer (some ⟨mb, mo, none⟩)] w (fun e' w' => e' = .returned (.bool (marOk (cn .f32 a) (cn .f32 b) n)) ∧ Below w.heap.size w w') := by
  obtain ⟨U, hU⟩ : ∃ U, Hid (marOk (cn .f32 a) (cn .f32 b) n = U) := ⟨_, rfl⟩
  rw [hU.out]
  have hkept := h.kept
  have hlt := h.lt
  clear h
  have hK := hkept; simp only [Kept, List.forall_mem_append, List.forall_mem_cons, List.not_mem_nil, false_implies, implies_true, and_true, true_and] at hK
  have hUo := hU.out
  rw [mar_eq] at hUo
  clear hU
  have hin : ∀ w, Calls Tryz.prog 62 #[.int .i64 n, .int .i64 1, .int .i64 64] w (fun e w' => e = .returned (.bool (decide (1 ≤ n) && decide (n ≤ 64))) ∧ w = w') := s_in_any n 1 64
  rcases way4 (rightP (cn .f32 a)) (eqk .f32 (B .sub (cn .f32 b) (cn .f32 b)) 0) ((FloatKind.f32.format.order b 0 == some .gt) || (FloatKind.f32.format.order b 0 == some .eq)) (decide (1 ≤ n) && decide (n ≤ 64)) with h1 | ⟨h1, h2⟩ | ⟨h1, h2, h3⟩ | ⟨h1, h2, h3, h4⟩ | ⟨h1, h2, h3, h4⟩
  all_goals
    simp only [*, Bool.and_true, Bool.and_false, Bool.false_and, Bool.true_and] at hUo
    subst hUo
    try rw [h4] at hin
    go_enter Tryz.func77, Tryz.ntmps77
    go_wp2_with (first
      | (go_at_call 61; refine (s_step_any _ _).mono ?_; rintro _ w4 ⟨rfl, hb1⟩; rw [h1]; have hkept := keep hkept hb1; clear hK; have hK := hkept; simp only [Kept, List.forall_mem_append, List.forall_mem_cons, List.not_mem_nil, false_implies, implies_true, and_true, true_and] at hK)
      | (go_at_call 109; refine (s_fin_any _ _).mono ?_; rintro _ w4 ⟨rfl, hb1⟩; rw [h2]; have hkept := keep hkept hb1; clear hK; have hK := hkept; simp only [Kept, List.forall_mem_append, List.forall_mem_cons, List.not_mem_nil, false_implies, implies_true, and_true, true_and] at hK)
      | (go_at_call 62; refine (hin _).mono ?_; rintro _ w4 ⟨rfl, rfl⟩))
    go_ret
    exact ⟨rfl, (by repeat' (first | exact Below.refl _ _ | exact Nat.le_refl _ | refine Below.drew ?_ | refine below_drewN ?_ _ | refine Below.alloc ?_ (by first | (simp; done) | (simp; omega)) _ | refine Below.setCell ?_ (by first | (simp; done) | (simp; omega)) _ | refine below_step ?_ (by assumption)))⟩
end Go.Proofs.YtdbpgblhnhdhoaaGreat
