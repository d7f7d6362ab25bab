/-
  Walks: sums and multiples of vectors, and how far a step is right; of the program and of the reference.
-/
import Derived.Test.YtdbpgblhnhdhoaaGreatGI
set_option linter.unusedVariables false
set_option linter.unusedSimpArgs false
namespace Go.Proofs.YtdbpgblhnhdhoaaGreat
open Go.RowKit Go.Fl

def addV (p q : Nat × Nat × Nat) : Nat × Nat × Nat := (B .add p.1 q.1, B .add p.2.1 q.2.1, B .add p.2.2 q.2.2)
def lessV (p q : Nat × Nat × Nat) : Nat × Nat × Nat := (B .sub p.1 q.1, B .sub p.2.1 q.2.1, B .sub p.2.2 q.2.2)
def scaleV (p : Nat × Nat × Nat) (f : Nat) : Nat × Nat × Nat := (B .mul p.1 f, B .mul p.2.1 f, B .mul p.2.2 f)
def rightP (x : Nat) : Bool := eqk .f32 (B .sub x x) 0 && gtk .f32 x 0

set_option maxHeartbeats 400000 in
theorem add_any (a b c d e f : Nat) (w : World) :
    Calls Tryz.prog 80 #[.agg #[.float .f32 a, .float .f32 b, .float .f32 c], .agg #[.float .f32 d, .float .f32 e, .float .f32 f]] w
      (RetV (B .add (cn .f32 a) (cn .f32 d)) (B .add (cn .f32 b) (cn .f32 e)) (B .add (cn .f32 c) (cn .f32 f)) w) := by
  go_enter Tryz.func80, Tryz.ntmps80
  go_wp2_with (refine wp_bin rfl _ _ _ _ _ rfl _ _ _ rfl rfl rfl ?_; intro r n hr)
  exact bodyPost_ret (v := .agg #[.float .f32 _, .float .f32 _, .float .f32 _]) (by simp [results, Tryz.results80, go_sem]; exact ⟨rfl, rfl, rfl⟩) rfl ⟨_, _, _, rfl, by assumption, by assumption, by assumption, (by repeat' (first | exact Below.refl _ _ | exact Nat.le_refl _ | refine below_drewN ?_ _ | refine Below.alloc ?_ (by first | (simp; done) | (simp; omega)) _ | refine Below.setCell ?_ (by first | (simp; done) | (simp; omega)) _ | refine below_step ?_ (by assumption)))⟩

set_option maxHeartbeats 400000 in
theorem scale_any (a b c d : Nat) (w : World) :
    Calls Tryz.prog 81 #[.agg #[.float .f32 a, .float .f32 b, .float .f32 c], .float .f32 d] w
      (RetV (B .mul (cn .f32 a) (cn .f32 d)) (B .mul (cn .f32 b) (cn .f32 d)) (B .mul (cn .f32 c) (cn .f32 d)) w) := by
  go_enter Tryz.func81, Tryz.ntmps81
  go_wp2_with (refine wp_bin rfl _ _ _ _ _ rfl _ _ _ rfl rfl rfl ?_; intro r n hr)
  exact bodyPost_ret (v := .agg #[.float .f32 _, .float .f32 _, .float .f32 _]) (by simp [results, Tryz.results81, go_sem]; exact ⟨rfl, rfl, rfl⟩) rfl ⟨_, _, _, rfl, by assumption, by assumption, by assumption, (by repeat' (first | exact Below.refl _ _ | exact Nat.le_refl _ | refine below_drewN ?_ _ | refine Below.alloc ?_ (by first | (simp; done) | (simp; omega)) _ | refine Below.setCell ?_ (by first | (simp; done) | (simp; omega)) _ | refine below_step ?_ (by assumption)))⟩

set_option maxHeartbeats 400000 in
theorem s_add_any (a b c d e f : Nat) (w : World) :
    Calls Tryz.prog 110 #[.agg #[.float .f32 a, .float .f32 b, .float .f32 c], .agg #[.float .f32 d, .float .f32 e, .float .f32 f]] w
      (RetV (B .add (cn .f32 a) (cn .f32 d)) (B .add (cn .f32 b) (cn .f32 e)) (B .add (cn .f32 c) (cn .f32 f)) w) := by
  go_enter Tryz.func110, Tryz.ntmps110
  go_wp2_with (refine wp_bin rfl _ _ _ _ _ rfl _ _ _ rfl rfl rfl ?_; intro r n hr)
  exact bodyPost_ret (v := .agg #[.float .f32 _, .float .f32 _, .float .f32 _]) (by simp [results, Tryz.results110, go_sem]; exact ⟨rfl, rfl, rfl⟩) rfl ⟨_, _, _, rfl, by assumption, by assumption, by assumption, (by repeat' (first | exact Below.refl _ _ | exact Nat.le_refl _ | refine below_drewN ?_ _ | refine Below.alloc ?_ (by first | (simp; done) | (simp; omega)) _ | refine Below.setCell ?_ (by first | (simp; done) | (simp; omega)) _ | refine below_step ?_ (by assumption)))⟩

set_option maxHeartbeats 400000 in
theorem s_scale_any (a b c d : Nat) (w : World) :
    Calls Tryz.prog 111 #[.agg #[.float .f32 a, .float .f32 b, .float .f32 c], .float .f32 d] w
      (RetV (B .mul (cn .f32 a) (cn .f32 d)) (B .mul (cn .f32 b) (cn .f32 d)) (B .mul (cn .f32 c) (cn .f32 d)) w) := by
  go_enter Tryz.func111, Tryz.ntmps111
  go_wp2_with (refine wp_bin rfl _ _ _ _ _ rfl _ _ _ rfl rfl rfl ?_; intro r n hr)
  exact bodyPost_ret (v := .agg #[.float .f32 _, .float .f32 _, .float .f32 _]) (by simp [results, Tryz.results111, go_sem]; exact ⟨rfl, rfl, rfl⟩) rfl ⟨_, _, _, rfl, by assumption, by assumption, by assumption, (by repeat' (first | exact Below.refl _ _ | exact Nat.le_refl _ | refine below_drewN ?_ _ | refine Below.alloc ?_ (by first | (simp; done) | (simp; omega)) _ | refine Below.setCell ?_ (by first | (simp; done) | (simp; omega)) _ | refine below_step ?_ (by assumption)))⟩

set_option maxHeartbeats 400000 in
theorem step_any (a : Nat) (w : World) :
    Calls Tryz.prog 66 #[.float .f32 a] w (fun e w' => e = .returned (.bool (rightP (cn .f32 a))) ∧ Below w.heap.size w w') := by
  cases hf : eqk .f32 (B .sub (cn .f32 a) (cn .f32 a)) 0
  · go_enter Tryz.func66, Tryz.ntmps66
    go_wp2_with (go_at_call 118; refine (fin_any _ _).mono ?_; rintro _ w2 ⟨rfl, hb1⟩; rw [hf])
    go_ret
    exact ⟨by unfold rightP; rw [hf]; rfl, (by repeat' (first | exact Below.refl _ _ | exact Nat.le_refl _ | refine below_drewN ?_ _ | refine Below.alloc ?_ (by first | (simp; done) | (simp; omega)) _ | refine Below.setCell ?_ (by first | (simp; done) | (simp; omega)) _ | refine below_step ?_ (by assumption)))⟩
  · go_enter Tryz.func66, Tryz.ntmps66
    go_wp2_with (go_at_call 118; refine (fin_any _ _).mono ?_; rintro _ w2 ⟨rfl, hb1⟩; rw [hf])
    go_ret
    exact ⟨by unfold rightP; rw [hf, gtk, ord_r0]; rfl, (by repeat' (first | exact Below.refl _ _ | exact Nat.le_refl _ | refine below_drewN ?_ _ | refine Below.alloc ?_ (by first | (simp; done) | (simp; omega)) _ | refine Below.setCell ?_ (by first | (simp; done) | (simp; omega)) _ | refine below_step ?_ (by assumption)))⟩

set_option maxHeartbeats 400000 in
theorem s_step_any (a : Nat) (w : World) :
    Calls Tryz.prog 61 #[.float .f32 a] w (fun e w' => e = .returned (.bool (rightP (cn .f32 a))) ∧ Below w.heap.size w w') := by
  cases hf : eqk .f32 (B .sub (cn .f32 a) (cn .f32 a)) 0
  · go_enter Tryz.func61, Tryz.ntmps61
    go_wp2_with (go_at_call 109; refine (s_fin_any _ _).mono ?_; rintro _ w2 ⟨rfl, hb1⟩; rw [hf])
    go_ret
    exact ⟨by unfold rightP; rw [hf]; rfl, (by repeat' (first | exact Below.refl _ _ | exact Nat.le_refl _ | refine below_drewN ?_ _ | refine Below.alloc ?_ (by first | (simp; done) | (simp; omega)) _ | refine Below.setCell ?_ (by first | (simp; done) | (simp; omega)) _ | refine below_step ?_ (by assumption)))⟩
  · go_enter Tryz.func61, Tryz.ntmps61
    go_wp2_with (go_at_call 109; refine (s_fin_any _ _).mono ?_; rintro _ w2 ⟨rfl, hb1⟩; rw [hf])
    go_ret
    exact ⟨by unfold rightP; rw [hf, gtk, ord_r0]; rfl, (by repeat' (first | exact Below.refl _ _ | exact Nat.le_refl _ | refine below_drewN ?_ _ | refine Below.alloc ?_ (by first | (simp; done) | (simp; omega)) _ | refine Below.setCell ?_ (by first | (simp; done) | (simp; omega)) _ | refine below_step ?_ (by assumption)))⟩
end Go.Proofs.YtdbpgblhnhdhoaaGreat
