/-
  Walks of the reference: picks, sets, folds.
-/
import Derived.Test.YtdbpgblhnhdhoaaS1
set_option linter.unusedVariables false
set_option linter.unusedSimpArgs false
namespace Go.Proofs.Ytdbpgblhnhdhoaa
open Go.RowKit Go.Fl

def pickF (a b c : Nat) (i : Int) : Nat := if i = 0 then a else if i = 1 then b else c
def setX (a : Nat) (i : Int) (v : Nat) : Nat := if i = 0 then v else a
def setY (b : Nat) (i : Int) (v : Nat) : Nat := if i = 0 then b else if i = 1 then v else b
def setZ (c : Nat) (i : Int) (v : Nat) : Nat := if i = 0 then c else if i = 1 then c else v

set_option maxHeartbeats 400000 in
theorem s_pick_any (a b c : Nat) (i : Int) (w : World) :
    Calls Try.prog 83 #[V3 a b c, .int .i64 i] w (fun e w' => e = .returned (F1 (pickF a b c i)) ∧ Below w.heap.size w w') := by
  by_cases h0 : i = 0
  · subst h0
    go_enter Try.func83, Try.ntmps83
    go_wp2_with fail
    go_ret
    exact ⟨rfl, (by repeat' (first | exact Below.refl _ _ | exact Nat.le_refl _ | refine below_drewN ?_ _ | refine Below.alloc ?_ (by first | (simp; done) | (simp; omega)) _ | refine Below.setCell ?_ (by first | (simp; done) | (simp; omega)) _ | refine below_step ?_ (by assumption)))⟩
  · by_cases h1 : i = 1
    · subst h1
      go_enter Try.func83, Try.ntmps83
      go_wp2_with fail
      go_ret
      exact ⟨rfl, (by repeat' (first | exact Below.refl _ _ | exact Nat.le_refl _ | refine below_drewN ?_ _ | refine Below.alloc ?_ (by first | (simp; done) | (simp; omega)) _ | refine Below.setCell ?_ (by first | (simp; done) | (simp; omega)) _ | refine below_step ?_ (by assumption)))⟩
    · have : pickF a b c i = c := by simp [pickF, h0, h1]
      rw [this]
      go_enter Try.func83, Try.ntmps83
      go_wp2_with fail
      go_ret
      exact ⟨rfl, (by repeat' (first | exact Below.refl _ _ | exact Nat.le_refl _ | refine below_drewN ?_ _ | refine Below.alloc ?_ (by first | (simp; done) | (simp; omega)) _ | refine Below.setCell ?_ (by first | (simp; done) | (simp; omega)) _ | refine below_step ?_ (by assumption)))⟩

set_option maxHeartbeats 400000 in
theorem s_set_any (a b c v : Nat) (i : Int) (w : World) :
    Calls Try.prog 82 #[V3 a b c, .int .i64 i, F1 v] w (fun e w' => e = .returned (V3 (setX a i v) (setY b i v) (setZ c i v)) ∧ Below w.heap.size w w') := by
  by_cases h0 : i = 0
  · subst h0
    go_enter Try.func82, Try.ntmps82
    go_wp2_with fail
    exact bodyPost_ret (v := .agg #[.float .f32 _, .float .f32 _, .float .f32 _]) (by simp [results, Try.results82, go_sem]; first | done | exact ⟨rfl, rfl, rfl⟩) rfl ⟨rfl, (by repeat' (first | exact Below.refl _ _ | exact Nat.le_refl _ | refine below_drewN ?_ _ | refine Below.alloc ?_ (by first | (simp; done) | (simp; omega)) _ | refine Below.setCell ?_ (by first | (simp; done) | (simp; omega)) _ | refine below_step ?_ (by assumption)))⟩
  · by_cases h1 : i = 1
    · subst h1
      go_enter Try.func82, Try.ntmps82
      go_wp2_with fail
      exact bodyPost_ret (v := .agg #[.float .f32 _, .float .f32 _, .float .f32 _]) (by simp [results, Try.results82, go_sem]; first | done | exact ⟨rfl, rfl, rfl⟩) rfl ⟨rfl, (by repeat' (first | exact Below.refl _ _ | exact Nat.le_refl _ | refine below_drewN ?_ _ | refine Below.alloc ?_ (by first | (simp; done) | (simp; omega)) _ | refine Below.setCell ?_ (by first | (simp; done) | (simp; omega)) _ | refine below_step ?_ (by assumption)))⟩
    · have e1 : setX a i v = a := by simp [setX, h0]
      have e2 : setY b i v = b := by simp [setY, h0, h1]
      have e3 : setZ c i v = v := by simp [setZ, h0, h1]
      rw [e1, e2, e3]
      clear e1 e2 e3
      go_enter Try.func82, Try.ntmps82
      go_wp2_with fail
      exact bodyPost_ret (v := .agg #[.float .f32 _, .float .f32 _, .float .f32 _]) (by simp [results, Try.results82, go_sem]; first | done | exact ⟨rfl, rfl, rfl⟩) rfl ⟨rfl, (by repeat' (first | exact Below.refl _ _ | exact Nat.le_refl _ | refine below_drewN ?_ _ | refine Below.alloc ?_ (by first | (simp; done) | (simp; omega)) _ | refine Below.setCell ?_ (by first | (simp; done) | (simp; omega)) _ | refine below_step ?_ (by assumption)))⟩

def foldedS (c s : Nat) : Nat := sizeS (B .sub c (B .mul (B .mul 1073741824 s) (nearF (B .quo c (B .mul 1073741824 s)))))

set_option maxHeartbeats 400000 in
theorem s_folded_any (a b : Nat) (w : World) :
    Calls Try.prog 84 #[.float .f32 a, .float .f32 b] w (Ret .f32 (foldedS (cn .f32 a) (cn .f32 b)) w) := by
  go_enter Try.func84, Try.ntmps84
  go_wp2_with (first
    | (refine wp_entry rfl 90 _ _ rfl rfl _ ext_rte _ (run_whole _ _ _ _) ?_; rintro _ n ⟨r1, rfl, hr1⟩)
    | (go_at_call 60; refine (s_size_any _ _).mono ?_; rintro _ w1 ⟨r3, rfl, hr3, hb1⟩)
    | (refine wp_bin rfl _ _ _ _ _ rfl _ _ _ rfl rfl rfl ?_; intro r n hr)
    | (refine wp_wid rfl _ _ _ rfl _ rfl ?_ ?_ fitsW_all ?_; exact some_f32; exact Try.underlying93; intro r n hr)
    | (refine wp_nar rfl _ _ _ rfl _ rfl ?_ ?_ ?_ ?_; exact some_f64; exact Try.underlying25; (simp only [*]; exact fits_near _); intro r2 n hr2))
  go_ret
  exact ⟨_, rfl, by simp only [foldedS, nearF, cn_c7, *], (by repeat' (first | exact Below.refl _ _ | exact Nat.le_refl _ | refine below_drewN ?_ _ | refine Below.alloc ?_ (by first | (simp; done) | (simp; omega)) _ | refine Below.setCell ?_ (by first | (simp; done) | (simp; omega)) _ | refine below_step ?_ (by assumption)))⟩
end Go.Proofs.Ytdbpgblhnhdhoaa
