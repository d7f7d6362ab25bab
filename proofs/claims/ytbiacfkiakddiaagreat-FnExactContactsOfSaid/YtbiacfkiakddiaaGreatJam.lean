/-
 Lemmas: X1.
-/
import Derived.Test.YtbiacfkiakddiaaGreatJai
set_option linter.unusedVariables false
set_option linter.unusedSimpArgs false
namespace Go.Proofs.YtbiacfkiakddiaaGreat
open Go.RowKit Go.Fl
def rightP (x:Nat):Bool:=eqk .f32 (B .sub x x) 0 && gtk .f32 x 0

set_option maxHeartbeats 400000 in
theorem step_any (a:Nat) (w:World) :
  Calls Tryz.prog 89 #[.float .f32 a] w (fun e w' => e = .returned (.bool (rightP (cn .f32 a))) ∧ Below w.heap.size w w'):=by
 cases hf:eqk .f32 (B .sub (cn .f32 a) (cn .f32 a)) 0
 ·go_enter Tryz.func89,Tryz.ntmps89
  go_wp2_with (go_at_call 150;refine (fin_any _ _).mono ?_;rintro _ w2 ⟨rfl,hb1⟩;rw [hf])
  go_ret
  exact ⟨by unfold rightP;rw [hf];rfl,(by repeat' (first | exact Below.refl _ _ | exact Nat.le_refl _ | refine below_drewN ?_ _ | refine Below.alloc ?_ (by first | (simp;done) | (simp;omega)) _ | refine Below.setCell ?_ (by first | (simp;done) | (simp;omega)) _ | refine below_step ?_ (by assumption)))⟩
 ·go_enter Tryz.func89,Tryz.ntmps89
  go_wp2_with (go_at_call 150;refine (fin_any _ _).mono ?_;rintro _ w2 ⟨rfl,hb1⟩;rw [hf])
  go_ret
  exact ⟨by unfold rightP;rw [hf,gtk,ord_r0];rfl,(by repeat' (first | exact Below.refl _ _ | exact Nat.le_refl _ | refine below_drewN ?_ _ | refine Below.alloc ?_ (by first | (simp;done) | (simp;omega)) _ | refine Below.setCell ?_ (by first | (simp;done) | (simp;omega)) _ | refine below_step ?_ (by assumption)))⟩

set_option maxHeartbeats 400000 in
theorem s_step_any (a:Nat) (w:World) :
  Calls Tryz.prog 87 #[.float .f32 a] w (fun e w' => e = .returned (.bool (rightP (cn .f32 a))) ∧ Below w.heap.size w w'):=by
 cases hf:eqk .f32 (B .sub (cn .f32 a) (cn .f32 a)) 0
 ·go_enter Tryz.func87,Tryz.ntmps87
  go_wp2_with (go_at_call 149;refine (s_fin_any _ _).mono ?_;rintro _ w2 ⟨rfl,hb1⟩;rw [hf])
  go_ret
  exact ⟨by unfold rightP;rw [hf];rfl,(by repeat' (first | exact Below.refl _ _ | exact Nat.le_refl _ | refine below_drewN ?_ _ | refine Below.alloc ?_ (by first | (simp;done) | (simp;omega)) _ | refine Below.setCell ?_ (by first | (simp;done) | (simp;omega)) _ | refine below_step ?_ (by assumption)))⟩
 ·go_enter Tryz.func87,Tryz.ntmps87
  go_wp2_with (go_at_call 149;refine (s_fin_any _ _).mono ?_;rintro _ w2 ⟨rfl,hb1⟩;rw [hf])
  go_ret
  exact ⟨by unfold rightP;rw [hf,gtk,ord_r0];rfl,(by repeat' (first | exact Below.refl _ _ | exact Nat.le_refl _ | refine below_drewN ?_ _ | refine Below.alloc ?_ (by first | (simp;done) | (simp;omega)) _ | refine Below.setCell ?_ (by first | (simp;done) | (simp;omega)) _ | refine below_step ?_ (by assumption)))⟩
end Go.Proofs.YtbiacfkiakddiaaGreat
