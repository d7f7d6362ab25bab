/-
  Walks of the small functions of the reference.
-/
import Derived.Test.YtdbpgblhnhdhoaaW16
set_option linter.unusedVariables false
set_option linter.unusedSimpArgs false
namespace Go.Proofs.Ytdbpgblhnhdhoaa
open Go.RowKit Go.Fl

/-- The reference's size: it takes -0 to +0. -/
def sizeS (x : Nat) : Nat := if lek .f32 x 0 then B .sub 0 x else x

set_option maxHeartbeats 400000 in
theorem s_size_any (a : Nat) (w : World) :
    Calls Try.prog 60 #[.float .f32 a] w (Ret .f32 (sizeS (cn .f32 a)) w) := by
  by_cases h : (FloatKind.f32.format.order a 0 == some .lt || FloatKind.f32.format.order a 0 == some .eq) = true
  · go_enter Try.func60, Try.ntmps60
    go_wp2_with (refine wp_bin rfl _ _ _ _ _ rfl _ _ _ rfl rfl rfl ?_; intro r n hr)
    go_ret
    exact ⟨_, rfl, by simp only [sizeS, lek, ord_r0, h, if_true]; rw [cn_zero] at hr; exact hr, (by repeat' (first | exact Below.refl _ _ | exact Nat.le_refl _ | refine below_drewN ?_ _ | refine Below.alloc ?_ (by first | (simp; done) | (simp; omega)) _ | refine Below.setCell ?_ (by first | (simp; done) | (simp; omega)) _ | refine below_step ?_ (by assumption)))⟩
  · rw [Bool.not_eq_true] at h
    go_enter Try.func60, Try.ntmps60
    go_wp2_with fail
    go_ret
    exact ⟨_, rfl, by simp only [sizeS, lek, ord_r0, h]; rfl, (by repeat' (first | exact Below.refl _ _ | exact Nat.le_refl _ | refine below_drewN ?_ _ | refine Below.alloc ?_ (by first | (simp; done) | (simp; omega)) _ | refine Below.setCell ?_ (by first | (simp; done) | (simp; omega)) _ | refine below_step ?_ (by assumption)))⟩

set_option maxHeartbeats 400000 in
theorem s_inner_any (a b c d e f : Nat) (w : World) :
    Calls Try.prog 63 #[.agg #[.float .f32 a, .float .f32 b, .float .f32 c], .agg #[.float .f32 d, .float .f32 e, .float .f32 f]] w
      (Ret .f32 (innerF (cn .f32 a) (cn .f32 b) (cn .f32 c) (cn .f32 d) (cn .f32 e) (cn .f32 f)) w) := by
  go_enter Try.func63, Try.ntmps63
  go_wp2_with (refine wp_bin rfl _ _ _ _ _ rfl _ _ _ rfl rfl rfl ?_; intro r n hr)
  go_ret
  exact ⟨_, rfl, by simp only [innerF, *], (by repeat' (first | exact Below.refl _ _ | exact Nat.le_refl _ | refine below_drewN ?_ _ | refine Below.alloc ?_ (by first | (simp; done) | (simp; omega)) _ | refine Below.setCell ?_ (by first | (simp; done) | (simp; omega)) _ | refine below_step ?_ (by assumption)))⟩

set_option maxHeartbeats 400000 in
theorem s_lesser_any (a b : Nat) (w : World) :
    Calls Try.prog 62 #[.float .f32 a, .float .f32 b] w (Ret .f32 (lesserF (cn .f32 a) (cn .f32 b)) w) := by
  by_cases h : (FloatKind.f32.format.order b a == some .lt) = true
  · go_enter Try.func62, Try.ntmps62
    go_wp2_with fail
    go_ret
    exact ⟨_, rfl, by simp only [lesserF, ltk, order_cn, h, if_true], (by repeat' (first | exact Below.refl _ _ | exact Nat.le_refl _ | refine below_drewN ?_ _ | refine Below.alloc ?_ (by first | (simp; done) | (simp; omega)) _ | refine Below.setCell ?_ (by first | (simp; done) | (simp; omega)) _ | refine below_step ?_ (by assumption)))⟩
  · rw [Bool.not_eq_true] at h
    go_enter Try.func62, Try.ntmps62
    go_wp2_with fail
    go_ret
    exact ⟨_, rfl, by simp only [lesserF, ltk, order_cn, h]; rfl, (by repeat' (first | exact Below.refl _ _ | exact Nat.le_refl _ | refine below_drewN ?_ _ | refine Below.alloc ?_ (by first | (simp; done) | (simp; omega)) _ | refine Below.setCell ?_ (by first | (simp; done) | (simp; omega)) _ | refine below_step ?_ (by assumption)))⟩

set_option maxHeartbeats 400000 in
theorem s_greater_any (a b : Nat) (w : World) :
    Calls Try.prog 61 #[.float .f32 a, .float .f32 b] w (Ret .f32 (greaterF (cn .f32 a) (cn .f32 b)) w) := by
  by_cases h : (FloatKind.f32.format.order b a == some .gt) = true
  · go_enter Try.func61, Try.ntmps61
    go_wp2_with fail
    go_ret
    exact ⟨_, rfl, by simp only [greaterF, gtk, order_cn, h, if_true], (by repeat' (first | exact Below.refl _ _ | exact Nat.le_refl _ | refine below_drewN ?_ _ | refine Below.alloc ?_ (by first | (simp; done) | (simp; omega)) _ | refine Below.setCell ?_ (by first | (simp; done) | (simp; omega)) _ | refine below_step ?_ (by assumption)))⟩
  · rw [Bool.not_eq_true] at h
    go_enter Try.func61, Try.ntmps61
    go_wp2_with fail
    go_ret
    exact ⟨_, rfl, by simp only [greaterF, gtk, order_cn, h]; rfl, (by repeat' (first | exact Below.refl _ _ | exact Nat.le_refl _ | refine below_drewN ?_ _ | refine Below.alloc ?_ (by first | (simp; done) | (simp; omega)) _ | refine Below.setCell ?_ (by first | (simp; done) | (simp; omega)) _ | refine below_step ?_ (by assumption)))⟩

set_option maxHeartbeats 400000 in
theorem s_less_any (a b c d e f : Nat) (w : World) :
    Calls Try.prog 80 #[.agg #[.float .f32 a, .float .f32 b, .float .f32 c], .agg #[.float .f32 d, .float .f32 e, .float .f32 f]] w
      (RetV (B .sub (cn .f32 a) (cn .f32 d)) (B .sub (cn .f32 b) (cn .f32 e)) (B .sub (cn .f32 c) (cn .f32 f)) w) := by
  go_enter Try.func80, Try.ntmps80
  go_wp2_with (refine wp_bin rfl _ _ _ _ _ rfl _ _ _ rfl rfl rfl ?_; intro r n hr)
  exact bodyPost_ret (v := .agg #[.float .f32 _, .float .f32 _, .float .f32 _]) (by simp [results, Try.results80, go_sem]; exact ⟨rfl, rfl, rfl⟩) rfl ⟨_, _, _, rfl, by assumption, by assumption, by assumption, (by repeat' (first | exact Below.refl _ _ | exact Nat.le_refl _ | refine below_drewN ?_ _ | refine Below.alloc ?_ (by first | (simp; done) | (simp; omega)) _ | refine Below.setCell ?_ (by first | (simp; done) | (simp; omega)) _ | refine below_step ?_ (by assumption)))⟩

set_option maxHeartbeats 400000 in
theorem s_fin_any (a : Nat) (w : World) :
    Calls Try.prog 76 #[.float .f32 a] w (fun e w' => e = .returned (.bool (eqk .f32 (B .sub (cn .f32 a) (cn .f32 a)) 0)) ∧ Below w.heap.size w w') := by
  go_enter Try.func76, Try.ntmps76
  go_wp2_with (refine wp_bin rfl _ _ _ _ _ rfl _ _ _ rfl rfl rfl ?_; intro r n hr)
  go_ret
  exact ⟨by simp only [eqk, ← hr, ord_r0]; rfl, (by repeat' (first | exact Below.refl _ _ | exact Nat.le_refl _ | refine below_drewN ?_ _ | refine Below.alloc ?_ (by first | (simp; done) | (simp; omega)) _ | refine Below.setCell ?_ (by first | (simp; done) | (simp; omega)) _ | refine below_step ?_ (by assumption)))⟩
set_option maxHeartbeats 400000 in
theorem s_narrow_any (a : Nat) (w : World) (hf : fits (cn .f64 a)) :
    Calls Try.prog 93 #[.float .f64 a] w (Ret .f32 (nar (cn .f64 a)) w) := by
  go_enter Try.func93, Try.ntmps93
  go_wp2_with (refine wp_nar rfl _ _ _ rfl _ rfl ?_ ?_ ?_ ?_; exact some_f64; exact Try.underlying25; exact hf; intro r2 n hr2)
  go_ret
  exact ⟨_, rfl, hr2, (by repeat' (first | exact Below.refl _ _ | exact Nat.le_refl _ | refine below_drewN ?_ _ | refine Below.alloc ?_ (by first | (simp; done) | (simp; omega)) _ | refine Below.setCell ?_ (by first | (simp; done) | (simp; omega)) _ | refine below_step ?_ (by assumption)))⟩

set_option maxHeartbeats 400000 in
theorem s_root_any (a : Nat) (w : World) :
    Calls Try.prog 85 #[.float .f32 a] w (Ret .f32 (rootF (cn .f32 a)) w) := by
  go_enter Try.func85, Try.ntmps85
  go_wp2_with (first
    | (go_at_call 94; refine (sqrt_any _ _).mono ?_; rintro _ w1 ⟨r1, rfl, hr1, hb1⟩)
    | (go_at_call 93; refine (s_narrow_any _ _ (by simp only [*]; exact fits_root _)).mono ?_; rintro _ w2 ⟨r2, rfl, hr2, hb2⟩)
    | (refine wp_wid rfl _ _ _ rfl _ rfl ?_ ?_ fitsW_all ?_; exact some_f32; exact Try.underlying93; intro r n hr))
  go_ret
  exact ⟨_, rfl, by simp only [rootF, *], (by repeat' (first | exact Below.refl _ _ | exact Nat.le_refl _ | refine below_drewN ?_ _ | refine Below.alloc ?_ (by first | (simp; done) | (simp; omega)) _ | refine Below.setCell ?_ (by first | (simp; done) | (simp; omega)) _ | refine below_step ?_ (by assumption)))⟩

set_option maxHeartbeats 400000 in
theorem s_long_any (a b c : Nat) (w : World) :
    Calls Try.prog 59 #[.agg #[.float .f32 a, .float .f32 b, .float .f32 c]] w (Ret .f32 (longF (cn .f32 a) (cn .f32 b) (cn .f32 c)) w) := by
  go_enter Try.func59, Try.ntmps59
  go_wp2_with (first
    | (go_at_call 63; refine (s_inner_any _ _ _ _ _ _ _).mono ?_; rintro _ w1 ⟨r1, rfl, hr1, hb1⟩)
    | (go_at_call 85; refine (s_root_any _ _).mono ?_; rintro _ w2 ⟨r2, rfl, hr2, hb2⟩))
  go_ret
  exact ⟨_, rfl, by simp only [longF, *], (by repeat' (first | exact Below.refl _ _ | exact Nat.le_refl _ | refine below_drewN ?_ _ | refine Below.alloc ?_ (by first | (simp; done) | (simp; omega)) _ | refine Below.setCell ?_ (by first | (simp; done) | (simp; omega)) _ | refine below_step ?_ (by assumption)))⟩

end Go.Proofs.Ytdbpgblhnhdhoaa
