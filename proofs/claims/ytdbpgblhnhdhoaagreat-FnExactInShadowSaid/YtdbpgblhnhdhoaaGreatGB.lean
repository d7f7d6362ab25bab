/-
  Walks of the small functions of the program.
  Walks: the sine.
  The contracts of the functions that only compute, as a table.
-/
import Derived.Test.YtdbpgblhnhdhoaaGreatGA
import Derived.Test.YtdbpgblhnhdhoaaGreatGT
import Derived.Outline
import Derived.Deep.DeepCutAuto
import Derived.Lib.Hide
set_option linter.unusedVariables false
set_option linter.unusedSimpArgs false
namespace Go.Proofs.YtdbpgblhnhdhoaaGreat
open Go.RowKit Go.Fl

set_option maxHeartbeats 400000 in
theorem inner_any (a b c d e f : Nat) (w : World) :
    Calls Tryz.prog 129 #[.agg #[.float .f32 a, .float .f32 b, .float .f32 c], .agg #[.float .f32 d, .float .f32 e, .float .f32 f]] w
      (Ret .f32 (innerF (cn .f32 a) (cn .f32 b) (cn .f32 c) (cn .f32 d) (cn .f32 e) (cn .f32 f)) w) := by
  go_enter Tryz.func129, Tryz.ntmps129
  go_wp2_with (refine wp_bin rfl _ _ _ _ _ rfl _ _ _ rfl rfl rfl ?_; intro r n hr)
  go_ret
  exact ⟨_, rfl, by simp only [innerF, *], (by repeat' (first | exact Below.refl _ _ | exact Nat.le_refl _ | refine below_drewN ?_ _ | refine Below.alloc ?_ (by first | (simp; done) | (simp; omega)) _ | refine Below.setCell ?_ (by first | (simp; done) | (simp; omega)) _ | refine below_step ?_ (by assumption)))⟩

set_option maxHeartbeats 400000 in
theorem sqrt_any (a : Nat) (w : World) :
    Calls Tryz.prog 168 #[.float .f64 a] w (Ret .f64 (sqr (cn .f64 a)) w) := by
  go_enter Tryz.func168, Tryz.ntmps168
  go_wp2_with (refine wp_entry rfl 210 _ _ rfl rfl _ ext_sqrt _ (run_sqrt _ _) ?_; rintro _ n ⟨r, rfl, hr⟩)
  go_ret
  exact ⟨_, rfl, hr, (by repeat' (first | exact Below.refl _ _ | exact Nat.le_refl _ | refine below_drewN ?_ _ | refine Below.alloc ?_ (by first | (simp; done) | (simp; omega)) _ | refine Below.setCell ?_ (by first | (simp; done) | (simp; omega)) _ | refine below_step ?_ (by assumption)))⟩

set_option maxHeartbeats 400000 in
theorem size_any (a : Nat) (w : World) :
    Calls Tryz.prog 75 #[.float .f32 a] w (Ret .f32 (sizeF (cn .f32 a)) w) := by
  by_cases h : (FloatKind.f32.format.order a 0 == some .lt) = true
  · go_enter Tryz.func75, Tryz.ntmps75
    go_wp2_with fail
    go_ret
    exact ⟨_, rfl, by simp only [sizeF, ltk, ord_r0, h, if_true, negc_cn], (by repeat' (first | exact Below.refl _ _ | exact Nat.le_refl _ | refine below_drewN ?_ _ | refine Below.alloc ?_ (by first | (simp; done) | (simp; omega)) _ | refine Below.setCell ?_ (by first | (simp; done) | (simp; omega)) _ | refine below_step ?_ (by assumption)))⟩
  · rw [Bool.not_eq_true] at h
    go_enter Tryz.func75, Tryz.ntmps75
    go_wp2_with fail
    go_ret
    exact ⟨_, rfl, by simp only [sizeF, ltk, ord_r0, h]; rfl, (by repeat' (first | exact Below.refl _ _ | exact Nat.le_refl _ | refine below_drewN ?_ _ | refine Below.alloc ?_ (by first | (simp; done) | (simp; omega)) _ | refine Below.setCell ?_ (by first | (simp; done) | (simp; omega)) _ | refine below_step ?_ (by assumption)))⟩

set_option maxHeartbeats 400000 in
theorem lesser_any (a b : Nat) (w : World) :
    Calls Tryz.prog 84 #[.float .f32 a, .float .f32 b] w (Ret .f32 (lesserF (cn .f32 a) (cn .f32 b)) w) := by
  by_cases h : (FloatKind.f32.format.order b a == some .lt) = true
  · go_enter Tryz.func84, Tryz.ntmps84
    go_wp2_with fail
    go_ret
    exact ⟨_, rfl, by simp only [lesserF, ltk, order_cn, h, if_true], (by repeat' (first | exact Below.refl _ _ | exact Nat.le_refl _ | refine below_drewN ?_ _ | refine Below.alloc ?_ (by first | (simp; done) | (simp; omega)) _ | refine Below.setCell ?_ (by first | (simp; done) | (simp; omega)) _ | refine below_step ?_ (by assumption)))⟩
  · rw [Bool.not_eq_true] at h
    go_enter Tryz.func84, Tryz.ntmps84
    go_wp2_with fail
    go_ret
    exact ⟨_, rfl, by simp only [lesserF, ltk, order_cn, h]; rfl, (by repeat' (first | exact Below.refl _ _ | exact Nat.le_refl _ | refine below_drewN ?_ _ | refine Below.alloc ?_ (by first | (simp; done) | (simp; omega)) _ | refine Below.setCell ?_ (by first | (simp; done) | (simp; omega)) _ | refine below_step ?_ (by assumption)))⟩

set_option maxHeartbeats 400000 in
theorem greater_any (a b : Nat) (w : World) :
    Calls Tryz.prog 183 #[.float .f32 a, .float .f32 b] w (Ret .f32 (greaterF (cn .f32 a) (cn .f32 b)) w) := by
  by_cases h : (FloatKind.f32.format.order b a == some .gt) = true
  · go_enter Tryz.func183, Tryz.ntmps183
    go_wp2_with fail
    go_ret
    exact ⟨_, rfl, by simp only [greaterF, gtk, order_cn, h, if_true], (by repeat' (first | exact Below.refl _ _ | exact Nat.le_refl _ | refine below_drewN ?_ _ | refine Below.alloc ?_ (by first | (simp; done) | (simp; omega)) _ | refine Below.setCell ?_ (by first | (simp; done) | (simp; omega)) _ | refine below_step ?_ (by assumption)))⟩
  · rw [Bool.not_eq_true] at h
    go_enter Tryz.func183, Tryz.ntmps183
    go_wp2_with fail
    go_ret
    exact ⟨_, rfl, by simp only [greaterF, gtk, order_cn, h]; rfl, (by repeat' (first | exact Below.refl _ _ | exact Nat.le_refl _ | refine below_drewN ?_ _ | refine Below.alloc ?_ (by first | (simp; done) | (simp; omega)) _ | refine Below.setCell ?_ (by first | (simp; done) | (simp; omega)) _ | refine below_step ?_ (by assumption)))⟩

set_option maxHeartbeats 400000 in
theorem less_any (a b c d e f : Nat) (w : World) :
    Calls Tryz.prog 82 #[.agg #[.float .f32 a, .float .f32 b, .float .f32 c], .agg #[.float .f32 d, .float .f32 e, .float .f32 f]] w
      (RetV (B .sub (cn .f32 a) (cn .f32 d)) (B .sub (cn .f32 b) (cn .f32 e)) (B .sub (cn .f32 c) (cn .f32 f)) w) := by
  go_enter Tryz.func82, Tryz.ntmps82
  go_wp2_with (refine wp_bin rfl _ _ _ _ _ rfl _ _ _ rfl rfl rfl ?_; intro r n hr)
  exact bodyPost_ret (v := .agg #[.float .f32 _, .float .f32 _, .float .f32 _]) (by simp [results, Tryz.results82, go_sem]; exact ⟨rfl, rfl, rfl⟩) rfl ⟨_, _, _, rfl, by assumption, by assumption, by assumption, (by repeat' (first | exact Below.refl _ _ | exact Nat.le_refl _ | refine below_drewN ?_ _ | refine Below.alloc ?_ (by first | (simp; done) | (simp; omega)) _ | refine Below.setCell ?_ (by first | (simp; done) | (simp; omega)) _ | refine below_step ?_ (by assumption)))⟩

set_option maxHeartbeats 400000 in
theorem short_any (a b : Nat) (w : World) :
    Calls Tryz.prog 181 #[.float .f32 a, .float .f32 b] w (Ret .f32 (shortF (cn .f32 a) (cn .f32 b)) w) := by
  go_enter Tryz.func181, Tryz.ntmps181
  go_wp2_with (first
    | (go_at_call 183; refine (greater_any _ _ _).mono ?_; rintro _ w1 ⟨r1, rfl, hr1, hb1⟩)
    | (go_at_call 84; refine (lesser_any _ _ _).mono ?_; rintro _ w2 ⟨r2, rfl, hr2, hb2⟩)
    | (refine wp_bin rfl _ _ _ _ _ rfl _ _ _ rfl rfl rfl ?_; intro r n hr))
  go_ret
  rw [cn_zero] at hr1
  exact ⟨_, rfl, by simp only [shortF, *], (by repeat' (first | exact Below.refl _ _ | exact Nat.le_refl _ | refine below_drewN ?_ _ | refine Below.alloc ?_ (by first | (simp; done) | (simp; omega)) _ | refine Below.setCell ?_ (by first | (simp; done) | (simp; omega)) _ | refine below_step ?_ (by assumption)))⟩

set_option maxHeartbeats 400000 in
theorem root_any (a : Nat) (w : World) :
    Calls Tryz.prog 128 #[.float .f32 a] w (Ret .f32 (rootF (cn .f32 a)) w) := by
  go_enter Tryz.func128, Tryz.ntmps128
  go_wp2_with (first
    | (go_at_call 168; refine (sqrt_any _ _).mono ?_; rintro _ w1 ⟨r1, rfl, hr1, hb1⟩)
    | (refine wp_wid rfl _ _ _ rfl _ rfl ?_ ?_ fitsW_all ?_; exact some_f32; exact Tryz.underlying38; intro r n hr)
    | (refine wp_nar rfl _ _ _ rfl _ rfl ?_ ?_ ?_ ?_; exact some_f64; exact Tryz.underlying25; (simp only [*]; exact fits_root _); intro r2 n hr2))
  go_ret
  exact ⟨_, rfl, by simp only [rootF, *], (by repeat' (first | exact Below.refl _ _ | exact Nat.le_refl _ | refine below_drewN ?_ _ | refine Below.alloc ?_ (by first | (simp; done) | (simp; omega)) _ | refine Below.setCell ?_ (by first | (simp; done) | (simp; omega)) _ | refine below_step ?_ (by assumption)))⟩

set_option maxHeartbeats 400000 in
theorem long_any (a b c : Nat) (w : World) :
    Calls Tryz.prog 85 #[.agg #[.float .f32 a, .float .f32 b, .float .f32 c]] w (Ret .f32 (longF (cn .f32 a) (cn .f32 b) (cn .f32 c)) w) := by
  go_enter Tryz.func85, Tryz.ntmps85
  go_wp2_with (first
    | (go_at_call 129; refine (inner_any _ _ _ _ _ _ _).mono ?_; rintro _ w1 ⟨r1, rfl, hr1, hb1⟩)
    | (go_at_call 128; refine (root_any _ _).mono ?_; rintro _ w2 ⟨r2, rfl, hr2, hb2⟩))
  go_ret
  exact ⟨_, rfl, by simp only [longF, *], (by repeat' (first | exact Below.refl _ _ | exact Nat.le_refl _ | refine below_drewN ?_ _ | refine Below.alloc ?_ (by first | (simp; done) | (simp; omega)) _ | refine Below.setCell ?_ (by first | (simp; done) | (simp; omega)) _ | refine below_step ?_ (by assumption)))⟩

set_option maxHeartbeats 400000 in
theorem bulge_any (a b : Nat) (w : World) :
    Calls Tryz.prog 186 #[.float .f32 a, .float .f32 b] w (Ret .f32 (bulgeF (cn .f32 a) (cn .f32 b)) w) := by
  by_cases h : (FloatKind.f32.format.order a 0 == some .gt) = true
  · go_enter Tryz.func186, Tryz.ntmps186
    go_wp2_with (refine wp_bin rfl _ _ _ _ _ rfl _ _ _ rfl rfl rfl ?_; intro r n hr)
    go_ret
    exact ⟨_, rfl, by simp only [bulgeF, gtk, ord_r0, h, if_true]; simp only [*]; rfl, (by repeat' (first | exact Below.refl _ _ | exact Nat.le_refl _ | refine below_drewN ?_ _ | refine Below.alloc ?_ (by first | (simp; done) | (simp; omega)) _ | refine Below.setCell ?_ (by first | (simp; done) | (simp; omega)) _ | refine below_step ?_ (by assumption)))⟩
  · rw [Bool.not_eq_true] at h
    go_enter Tryz.func186, Tryz.ntmps186
    go_wp2_with (refine wp_bin rfl _ _ _ _ _ rfl _ _ _ rfl rfl rfl ?_; intro r n hr)
    go_ret
    exact ⟨_, rfl, by simp only [bulgeF, gtk, ord_r0, h]; rfl, (by repeat' (first | exact Below.refl _ _ | exact Nat.le_refl _ | refine below_drewN ?_ _ | refine Below.alloc ?_ (by first | (simp; done) | (simp; omega)) _ | refine Below.setCell ?_ (by first | (simp; done) | (simp; omega)) _ | refine below_step ?_ (by assumption)))⟩

set_option maxHeartbeats 400000 in
theorem near_any (a : Nat) (w : World) :
    Calls Tryz.prog 215 #[.float .f32 a] w (Ret .f32 (nearF (cn .f32 a)) w) := by
  go_enter Tryz.func215, Tryz.ntmps215
  go_wp2_with (first
    | (refine wp_entry rfl 217 _ _ rfl rfl _ ext_rte _ (run_whole _ _ _ _) ?_; rintro _ n ⟨r1, rfl, hr1⟩)
    | (refine wp_wid rfl _ _ _ rfl _ rfl ?_ ?_ fitsW_all ?_; exact some_f32; exact Tryz.underlying38; intro r n hr)
    | (refine wp_nar rfl _ _ _ rfl _ rfl ?_ ?_ ?_ ?_; exact some_f64; exact Tryz.underlying25; (simp only [*]; exact fits_near _); intro r2 n hr2))
  go_ret
  exact ⟨_, rfl, by simp only [nearF, *], (by repeat' (first | exact Below.refl _ _ | exact Nat.le_refl _ | refine below_drewN ?_ _ | refine Below.alloc ?_ (by first | (simp; done) | (simp; omega)) _ | refine Below.setCell ?_ (by first | (simp; done) | (simp; omega)) _ | refine below_step ?_ (by assumption)))⟩

set_option maxHeartbeats 400000 in
theorem fold_any (a b : Nat) (w : World) :
    Calls Tryz.prog 208 #[.float .f32 a, .float .f32 b] w (Ret .f32 (foldF (cn .f32 a) (cn .f32 b)) w) := by
  go_enter Tryz.func208, Tryz.ntmps208
  go_wp2_with (first
    | (go_at_call 215; refine (near_any _ _).mono ?_; rintro _ w1 ⟨r1, rfl, hr1, hb1⟩)
    | (refine wp_bin rfl _ _ _ _ _ rfl _ _ _ rfl rfl rfl ?_; intro r n hr))
  go_ret
  exact ⟨_, rfl, by simp only [foldF, *]; rfl, (by repeat' (first | exact Below.refl _ _ | exact Nat.le_refl _ | refine below_drewN ?_ _ | refine Below.alloc ?_ (by first | (simp; done) | (simp; omega)) _ | refine Below.setCell ?_ (by first | (simp; done) | (simp; omega)) _ | refine below_step ?_ (by assumption)))⟩

set_option maxHeartbeats 400000 in
theorem coords_any (a b c : Nat) (w : World) :
    Calls Tryz.prog 136 #[.agg #[.float .f32 a, .float .f32 b, .float .f32 c]] w
      (fun e w' => e = .returned (.agg #[.float .f32 a, .float .f32 b, .float .f32 c]) ∧ Below w.heap.size w w') := by
  go_enter Tryz.func136, Tryz.ntmps136
  go_wp2_with fail
  exact bodyPost_ret (v := .agg #[.float .f32 _, .float .f32 _, .float .f32 _]) (by simp [results, Tryz.results136, go_sem]) rfl ⟨rfl, (by repeat' (first | exact Below.refl _ _ | exact Nat.le_refl _ | refine below_drewN ?_ _ | refine Below.alloc ?_ (by first | (simp; done) | (simp; omega)) _ | refine Below.setCell ?_ (by first | (simp; done) | (simp; omega)) _ | refine below_step ?_ (by assumption)))⟩

set_option maxHeartbeats 400000 in
theorem vector_any (a b c : Nat) (w : World) :
    Calls Tryz.prog 203 #[.agg #[.float .f32 a, .float .f32 b, .float .f32 c]] w
      (fun e w' => e = .returned (.agg #[.float .f32 a, .float .f32 b, .float .f32 c]) ∧ Below w.heap.size w w') := by
  go_enter Tryz.func203, Tryz.ntmps203
  go_wp2_with fail
  exact bodyPost_ret (v := .agg #[.float .f32 _, .float .f32 _, .float .f32 _]) (by simp [results, Tryz.results203, go_sem]) rfl ⟨rfl, (by repeat' (first | exact Below.refl _ _ | exact Nat.le_refl _ | refine below_drewN ?_ _ | refine Below.alloc ?_ (by first | (simp; done) | (simp; omega)) _ | refine Below.setCell ?_ (by first | (simp; done) | (simp; omega)) _ | refine below_step ?_ (by assumption)))⟩

set_option maxHeartbeats 400000 in
theorem in_any (a b c : Int) (w : World) :
    Calls Tryz.prog 67 #[.int .i64 a, .int .i64 b, .int .i64 c] w (fun e w' => e = .returned (.bool (decide (b ≤ a) && decide (a ≤ c))) ∧ w = w') := by
  by_cases h1 : b ≤ a
  · by_cases h2 : a ≤ c
    all_goals
      go_enter Tryz.func67, Tryz.ntmps67
      go_wp2_with fail
      go_ret
      exact ⟨by simp [h1, h2], rfl⟩
  · go_enter Tryz.func67, Tryz.ntmps67
    go_wp2_with fail
    go_ret
    exact ⟨by rw [decide_eq_false (by omega : ¬ b ≤ a)]; rfl, rfl⟩

set_option maxHeartbeats 400000 in
theorem fin_any (a : Nat) (w : World) :
    Calls Tryz.prog 118 #[.float .f32 a] w (fun e w' => e = .returned (.bool (eqk .f32 (B .sub (cn .f32 a) (cn .f32 a)) 0)) ∧ Below w.heap.size w w') := by
  go_enter Tryz.func118, Tryz.ntmps118
  go_wp2_with (refine wp_bin rfl _ _ _ _ _ rfl _ _ _ rfl rfl rfl ?_; intro r n hr)
  go_ret
  exact ⟨by simp only [eqk, ← hr, ord_r0]; rfl, (by repeat' (first | exact Below.refl _ _ | exact Nat.le_refl _ | refine below_drewN ?_ _ | refine Below.alloc ?_ (by first | (simp; done) | (simp; omega)) _ | refine Below.setCell ?_ (by first | (simp; done) | (simp; omega)) _ | refine below_step ?_ (by assumption)))⟩
end Go.Proofs.YtdbpgblhnhdhoaaGreat

namespace Go.Proofs.YtdbpgblhnhdhoaaGreat
open Go.RowKit Go.Fl

theorem run_bits {P : Program} (w : World) (x : Nat) : ∃ v n, (Extern.MathFloatBits.float64bits #[.float .f64 x]).run P w = .ok v (w.drewN n) ∧ v = .int .u64 x := ⟨_, 0, rfl, rfl⟩
theorem run_frombits {P : Program} (w : World) (n : Int) : ∃ v m, (Extern.MathFloatBits.float64frombits #[.int .u64 n]).run P w = .ok v (w.drewN m) ∧ v = .float .f64 n.toNat := ⟨_, 0, rfl, rfl⟩

set_option maxHeartbeats 400000 in
theorem abs_any (a : Nat) (w : World) : Calls Tryz.prog 213 #[.float .f64 a] w (fun e w' => e = .returned (.float .f64 (absW a)) ∧ Below w.heap.size w w') := by
  go_enter Tryz.func213, Tryz.ntmps213
  go_wp2_with (first
    | (refine wp_entry rfl 220 _ _ rfl rfl _ ext_bits _ (run_bits _ _) ?_; rintro _ n rfl)
    | (refine wp_entry rfl 202 _ _ rfl rfl _ ext_frombits _ (run_frombits _ _) ?_; rintro _ n rfl))
  go_ret
  exact ⟨rfl, (by repeat' (first | exact Below.refl _ _ | exact Nat.le_refl _ | refine below_drewN ?_ _ | refine Below.alloc ?_ (by first | (simp; done) | (simp; omega)) _ | refine Below.setCell ?_ (by first | (simp; done) | (simp; omega)) _ | refine below_step ?_ (by assumption)))⟩

set_option maxHeartbeats 400000 in
theorem nan_any (w : World) : Calls Tryz.prog 212 #[] w (Ret .f64 (nanw .f64) w) := by
  go_enter Tryz.func212, Tryz.ntmps212
  go_wp2_with (first
    | (refine wp_entry rfl 202 _ _ rfl rfl _ ext_frombits _ (run_frombits _ _) ?_; rintro _ n rfl))
  go_ret
  exact ⟨_, rfl, by decide +kernel, (by repeat' (first | exact Below.refl _ _ | exact Nat.le_refl _ | refine below_drewN ?_ _ | refine Below.alloc ?_ (by first | (simp; done) | (simp; omega)) _ | refine Below.setCell ?_ (by first | (simp; done) | (simp; omega)) _ | refine below_step ?_ (by assumption)))⟩

set_option maxHeartbeats 400000 in
theorem trunc_any (a : Nat) (w : World) : Calls Tryz.prog 214 #[.float .f64 a] w (Ret .f64 (whole .zero (cn .f64 a)) w) := by
  go_enter Tryz.func214, Tryz.ntmps214
  go_wp2_with (refine wp_entry rfl 221 _ _ rfl rfl _ ext_trunc _ (run_whole _ _ _ _) ?_; rintro _ n ⟨r1, rfl, hr1⟩)
  go_ret
  exact ⟨_, rfl, hr1, (by repeat' (first | exact Below.refl _ _ | exact Nat.le_refl _ | refine below_drewN ?_ _ | refine Below.alloc ?_ (by first | (simp; done) | (simp; omega)) _ | refine Below.setCell ?_ (by first | (simp; done) | (simp; omega)) _ | refine below_step ?_ (by assumption)))⟩

set_option maxHeartbeats 1000000 in
theorem sine_nan (a : Nat) (w : World) (hf : eqk .f32 (B .sub (cn .f32 a) (cn .f32 a)) 0 = false) :
    Calls Tryz.prog 174 #[.float .f32 a] w (Ret .f32 (sineF (cn .f32 a)) w) := by
  go_enter Tryz.func174, Tryz.ntmps174
  go_wp2_with (first
    | (refine wp_nar rfl _ _ _ rfl _ rfl ?_ ?_ ?_ ?_; exact some_f64; exact Tryz.underlying25; (simp only [*]; exact fits_nan); intro r2 n hr2)
    | first
    | (go_at_call 118; refine (fin_any _ _).mono ?_; rintro _ w1 ⟨rfl, hb1⟩)
    | (go_at_call 212; refine (nan_any _).mono ?_; rintro _ w1 ⟨r1, rfl, hr1, hb1⟩)
    | (go_at_call 213; refine (abs_any _ _).mono ?_; rintro _ w1 ⟨rfl, hb1⟩)
    | (go_at_call 214; refine (trunc_any _ _).mono ?_; rintro _ w1 ⟨r1, rfl, hr1, hb1⟩)
    | (refine wp_wid rfl _ _ _ rfl _ rfl ?_ ?_ fitsW_all ?_; exact some_f32; exact Tryz.underlying38; intro r n hr)
    | (refine wp_bin rfl _ _ _ _ _ rfl _ _ _ rfl rfl rfl ?_; intro r n hr))
  go_ret
  exact ⟨_, rfl, by rw [hr2]; simp only [sineF, hf, hr1, nar_nan]; rfl, (by repeat' (first | exact Below.refl _ _ | exact Nat.le_refl _ | refine below_drewN ?_ _ | refine Below.alloc ?_ (by first | (simp; done) | (simp; omega)) _ | refine Below.setCell ?_ (by first | (simp; done) | (simp; omega)) _ | refine below_step ?_ (by assumption)))⟩

theorem wrap_fac (m : Nat) (h : m < 8) : wrap64 (2 * (8 - (m : Int)) * (2 * (8 - (m : Int)) + 1)) = 2 * (8 - (m : Int)) * (2 * (8 - (m : Int)) + 1) := by
  have h : m = 0 ∨ m = 1 ∨ m = 2 ∨ m = 3 ∨ m = 4 ∨ m = 5 ∨ m = 6 ∨ m = 7 := by omega
  rcases h with rfl | rfl | rfl | rfl | rfl | rfl | rfl | rfl <;> (unfold wrap64; decide)

/-- A wide number that is none. -/
theorem raw_wid {r a : Nat} (hf : eqk .f32 (B .sub (cn .f32 a) (cn .f32 a)) 0 = true) (hr : cn .f64 r = wid (cn .f32 a)) : cn .f64 r = r :=
  cn_of_not (by rw [← isNaN_cn, hr]; exact fin_not hf)

set_option maxRecDepth 100000 in
set_option maxHeartbeats 2000000 in
theorem sine_fin (a : Nat) (w : World) (hf : eqk .f32 (B .sub (cn .f32 a) (cn .f32 a)) 0 = true) :
    Calls Tryz.prog 174 #[.float .f32 a] w (Ret .f32 (sineF (cn .f32 a)) w) := by
  go_enter Tryz.func174, Tryz.ntmps174
  go_upto_if 26 with (first
    | (go_at_call 118; refine (fin_any _ _).mono ?_; rintro _ w1 ⟨rfl, hb1⟩)
    | (go_at_call 212; refine (nan_any _).mono ?_; rintro _ w1 ⟨r1, rfl, hr1, hb1⟩)
    | (go_at_call 213; refine (abs_any _ _).mono ?_; rintro _ w1 ⟨rfl, hb1⟩)
    | (go_at_call 214; refine (trunc_any _ _).mono ?_; rintro _ w1 ⟨r1, rfl, hr1, hb1⟩)
    | (refine wp_wid rfl _ _ _ rfl _ rfl ?_ ?_ fitsW_all ?_; exact some_f32; exact Tryz.underlying38; intro r n hr)
    | (refine wp_bin rfl _ _ _ _ _ rfl _ _ _ rfl rfl rfl ?_; intro r n hr))
  · go_ret
    have hg : gek .f64 (absW (wid (cn .f32 a))) 4841369599423283200 = true := by
      rw [← hr, raw_wid hf hr]
      unfold gek
      rw [Bool.or_eq_true]
      assumption
    exact ⟨_, rfl, by rw [cn_zero]; simp only [sineF, hf, hg, if_true], (by repeat' (first | exact Below.refl _ _ | exact Nat.le_refl _ | refine below_drewN ?_ _ | refine Below.alloc ?_ (by first | (simp; done) | (simp; omega)) _ | refine Below.setCell ?_ (by first | (simp; done) | (simp; omega)) _ | refine below_step ?_ (by assumption)))⟩
  · have hg : gek .f64 (absW (wid (cn .f32 a))) 4841369599423283200 = false := by
      rw [← hr, raw_wid hf hr]
      unfold gek
      rw [Bool.or_eq_false_iff]
      assumption
    have hG : Hid (gek .f64 (absW (wid (cn .f32 a))) 4841369599423283200 = false) := hg
    clear hg
    go_cut [3] (fun s3 wx => (∃ q, s3 = .float .f64 q ∧ cn .f64 q = sin1 (wid (cn .f32 a))) ∧ Below w.heap.size w wx)
    case first =>
      go_wp2_with (refine wp_bin rfl _ _ _ _ _ rfl _ _ _ rfl rfl rfl ?_; intro r n hr)
      · go_meet
        case rel =>
          have he := eqk_ne ‹(FloatKind.f64.format.order _ 0 != some .eq) = true›
          simp only [*] at he
          exact ⟨⟨_, rfl, by simp only [sin1, he, Bool.not_true, Bool.not_false, Bool.false_eq_true, if_true, if_false, *]⟩, (by repeat' (first | exact Below.refl _ _ | exact Nat.le_refl _ | refine below_drewN ?_ _ | refine Below.alloc ?_ (by first | (simp; done) | (simp; omega)) _ | refine Below.setCell ?_ (by first | (simp; done) | (simp; omega)) _ | refine below_step ?_ (by assumption)))⟩
      · go_meet
        case rel =>
          have he := eqk_ne ‹(FloatKind.f64.format.order _ 0 != some .eq) = false›
          simp only [*] at he
          exact ⟨⟨_, rfl, by simp only [sin1, he, Bool.not_true, Bool.not_false, Bool.false_eq_true, if_true, if_false, *]⟩, (by repeat' (first | exact Below.refl _ _ | exact Nat.le_refl _ | refine below_drewN ?_ _ | refine Below.alloc ?_ (by first | (simp; done) | (simp; omega)) _ | refine Below.setCell ?_ (by first | (simp; done) | (simp; omega)) _ | refine below_step ?_ (by assumption)))⟩
    case rest =>
      clear hb1
      obtain ⟨⟨q1, rfl, hq1⟩, hw1⟩ := hcut
      rename World => wc1
      go_upto_if 31 with fail
      go_cut [3] (fun s3 wx => (∃ q, s3 = .float .f64 q ∧ cn .f64 q = sin2 (wid (cn .f32 a))) ∧ Below w.heap.size w wx)
      case first =>
        go_wp2_with (refine wp_bin rfl _ _ _ _ _ rfl _ _ _ rfl rfl rfl ?_; intro r n hr)
        · go_meet
          case rel =>
            have he := ltk_of' ‹(FloatKind.f64.format.order _ 0 == some .lt) = true›
            simp only [*] at he
            exact ⟨⟨_, rfl, by simp only [sin2, he, cn_c1, Bool.not_true, Bool.not_false, Bool.false_eq_true, if_true, if_false, *]⟩, (by repeat' (first | exact Below.refl _ _ | exact Nat.le_refl _ | refine below_drewN ?_ _ | refine Below.alloc ?_ (by first | (simp; done) | (simp; omega)) _ | refine Below.setCell ?_ (by first | (simp; done) | (simp; omega)) _ | refine below_step ?_ (by assumption)))⟩
        · go_meet
          case rel =>
            have he := ltk_of' ‹(FloatKind.f64.format.order _ 0 == some .lt) = false›
            simp only [*] at he
            exact ⟨⟨_, rfl, by simp only [sin2, he, Bool.not_true, Bool.not_false, Bool.false_eq_true, if_true, if_false, *]⟩, (by repeat' (first | exact Below.refl _ _ | exact Nat.le_refl _ | refine below_drewN ?_ _ | refine Below.alloc ?_ (by first | (simp; done) | (simp; omega)) _ | refine Below.setCell ?_ (by first | (simp; done) | (simp; omega)) _ | refine below_step ?_ (by assumption)))⟩
      case rest =>
        clear hw1
        obtain ⟨⟨q2, rfl, hq2⟩, hw2⟩ := hcut
        have hT : (FloatKind.f64.format.order q2 4602678819172646912 == some .gt || FloatKind.f64.format.order q2 4602678819172646912 == some .eq) = sinT (wid (cn .f32 a)) := by
          unfold sinT; rw [← hq2, gek_c cn_c2]
        have HT : Hid ((FloatKind.f64.format.order q2 4602678819172646912 == some .gt || FloatKind.f64.format.order q2 4602678819172646912 == some .eq) = sinT (wid (cn .f32 a))) := hT
        clear hT
        go_upto_if 36 with fail
        rw [HT.out]
        go_cut [3, 5] (fun s3 s5 wx => (∃ q, s3 = .float .f64 q ∧ cn .f64 q = sin3 (wid (cn .f32 a))) ∧ s5 = .bool (sinT (wid (cn .f32 a))) ∧ Below w.heap.size w wx)
        case first =>
          cases hT : sinT (wid (cn .f32 a))
          all_goals
            have HT2 := Lib.hid hT
            clear hT
            go_wp2_with (refine wp_bin rfl _ _ _ _ _ rfl _ _ _ rfl rfl rfl ?_; intro r n hr)
            go_meet
            case rel => exact ⟨⟨_, rfl, by simp only [sin3, HT2.out, cn_c2, Bool.not_true, Bool.not_false, Bool.false_eq_true, if_true, if_false, *]⟩, by rw [HT2.out], (by repeat' (first | exact Below.refl _ _ | exact Nat.le_refl _ | refine below_drewN ?_ _ | refine Below.alloc ?_ (by first | (simp; done) | (simp; omega)) _ | refine Below.setCell ?_ (by first | (simp; done) | (simp; omega)) _ | refine below_step ?_ (by assumption)))⟩
        case rest =>
          clear hw2
          obtain ⟨⟨q3, rfl, hq3⟩, rfl, hw3⟩ := hcut
          go_upto_if 40 with fail
          go_cut [3] (fun s3 wx => (∃ q, s3 = .float .f64 q ∧ cn .f64 q = sin4 (wid (cn .f32 a))) ∧ Below w.heap.size w wx)
          case first =>
            go_wp2_with (refine wp_bin rfl _ _ _ _ _ rfl _ _ _ rfl rfl rfl ?_; intro r n hr)
            · go_meet
              case rel =>
                have he := gtk_c cn_c3 ‹(FloatKind.f64.format.order _ 4598175219545276416 == some .gt) = true›
                simp only [*] at he
                exact ⟨⟨_, rfl, by simp only [sin4, he, cn_c2, Bool.not_true, Bool.not_false, Bool.false_eq_true, if_true, if_false, *]⟩, (by repeat' (first | exact Below.refl _ _ | exact Nat.le_refl _ | refine below_drewN ?_ _ | refine Below.alloc ?_ (by first | (simp; done) | (simp; omega)) _ | refine Below.setCell ?_ (by first | (simp; done) | (simp; omega)) _ | refine below_step ?_ (by assumption)))⟩
            · go_meet
              case rel =>
                have he := gtk_c cn_c3 ‹(FloatKind.f64.format.order _ 4598175219545276416 == some .gt) = false›
                simp only [*] at he
                exact ⟨⟨_, rfl, by simp only [sin4, he, Bool.not_true, Bool.not_false, Bool.false_eq_true, if_true, if_false, *]⟩, (by repeat' (first | exact Below.refl _ _ | exact Nat.le_refl _ | refine below_drewN ?_ _ | refine Below.alloc ?_ (by first | (simp; done) | (simp; omega)) _ | refine Below.setCell ?_ (by first | (simp; done) | (simp; omega)) _ | refine below_step ?_ (by assumption)))⟩
          case rest =>
            clear hw3
            obtain ⟨⟨q4, rfl, hq4⟩, hw4⟩ := hcut
            go_wp2_with (refine wp_bin rfl _ _ _ _ _ rfl _ _ _ rfl rfl rfl ?_; intro r n hr)
            go_loopw [8, 9] (fun p k wr => ∃ n : Nat, ∃ pw, n ≤ 8 ∧ k = .int .i64 (8 - (n : Int)) ∧ p = .float .f64 pw ∧ cn .f64 pw = polyF (D .mul (sinZ (wid (cn .f32 a))) (sinZ (wid (cn .f32 a)))) n ∧ Below w.heap.size w wr) (fun _ k _ => (intOf k).toNat)
            case atStart => exact ⟨0, _, by omega, rfl, rfl, by rw [cn_c1]; rfl, (by repeat' (first | exact Below.refl _ _ | exact Nat.le_refl _ | refine below_drewN ?_ _ | refine Below.alloc ?_ (by first | (simp; done) | (simp; omega)) _ | refine Below.setCell ?_ (by first | (simp; done) | (simp; omega)) _ | refine below_step ?_ (by assumption)))⟩
            case round =>
              obtain ⟨m, pw, hm, rfl, rfl, hp, hwr⟩ := hrel
              by_cases hlt : m < 8
              · go_wp2_with (refine wp_bin rfl _ _ _ _ _ rfl _ _ _ rfl rfl rfl ?_; intro r n hr)
                refine ⟨⟨m + 1, _, by omega, by congr 1; omega, rfl, ?_, by exact below_drewN hwr _⟩, by simp [intOf]; omega⟩
                have hw6 := wrap_fac m hlt
                simp only [polyF, facN, sinZ, cn_c1, cn_c4, cn_ofInt, D, hw6, *]
              · obtain rfl : m = 8 := by omega
                rw [show ((8 : Int) - ((8 : Nat) : Int)) = 0 from rfl]
                go_upto_if 67 with (refine wp_bin rfl _ _ _ _ _ rfl _ _ _ rfl rfl rfl ?_; intro r n hr)
                cases hT : sinT (wid (cn .f32 a))
                · have HT2 : Hid (sinT (wid (cn .f32 a)) = false) := hT
                  clear hT
                  go_wp2_with (refine wp_nar rfl _ _ _ rfl _ rfl ?_ ?_ ?_ ?_; exact some_f64; exact Tryz.underlying25; (refine (congrArg fits ?_).mpr (fits_sin _ hf); simp only [sinW, HT2.out, sinO, sinZ, cn_c4, D, Bool.false_eq_true, if_false, *]); intro r2 n2 hr2)
                  go_ret
                  exact ⟨_, rfl, by rw [hr2]; simp only [sineF, hf, hG.out, sinW, HT2.out, sinO, sinZ, cn_c4, D, Bool.false_eq_true, if_false, if_true, *], (by repeat' (first | exact Below.refl _ _ | exact Nat.le_refl _ | refine below_drewN ?_ _ | refine Below.alloc ?_ (by first | (simp; done) | (simp; omega)) _ | refine Below.setCell ?_ (by first | (simp; done) | (simp; omega)) _ | refine below_step ?_ (by assumption)))⟩
                · have HT2 : Hid (sinT (wid (cn .f32 a)) = true) := hT
                  clear hT
                  go_wp2_with (refine wp_nar rfl _ _ _ rfl _ rfl ?_ ?_ ?_ ?_; exact some_f64; exact Tryz.underlying25; (refine (congrArg fits ?_).mpr (fits_sin _ hf); simp only [sinW, HT2.out, sinO, sinZ, cn_c4, D, Bool.false_eq_true, if_false, if_true, ← negc_cn, *]); intro r2 n2 hr2)
                  go_ret
                  exact ⟨_, rfl, by rw [hr2]; simp only [sineF, hf, hG.out, sinW, HT2.out, sinO, sinZ, cn_c4, D, Bool.false_eq_true, if_false, if_true, ← negc_cn, *], (by repeat' (first | exact Below.refl _ _ | exact Nat.le_refl _ | refine below_drewN ?_ _ | refine Below.alloc ?_ (by first | (simp; done) | (simp; omega)) _ | refine Below.setCell ?_ (by first | (simp; done) | (simp; omega)) _ | refine below_step ?_ (by assumption)))⟩

theorem sine_any (a : Nat) (w : World) : Calls Tryz.prog 174 #[.float .f32 a] w (Ret .f32 (sineF (cn .f32 a)) w) := by
  cases hf : eqk .f32 (B .sub (cn .f32 a) (cn .f32 a)) 0
  · exact sine_nan a w hf
  · exact sine_fin a w hf
end Go.Proofs.YtdbpgblhnhdhoaaGreat

namespace Go.Proofs.YtdbpgblhnhdhoaaGreat
open Go.RowKit Go.Fl

abbrev V3 (a b c : Nat) : Value := .agg #[.float .f32 a, .float .f32 b, .float .f32 c]
abbrev F1 (a : Nat) : Value := .float .f32 a

inductive PhiF : FuncId → Array Value → Value → Prop
  | long (a b c r : Nat) (h : cn .f32 r = longF (cn .f32 a) (cn .f32 b) (cn .f32 c)) : PhiF 85 #[V3 a b c] (F1 r)
  | inner (a b c d e f r : Nat) (h : cn .f32 r = innerF (cn .f32 a) (cn .f32 b) (cn .f32 c) (cn .f32 d) (cn .f32 e) (cn .f32 f)) : PhiF 129 #[V3 a b c, V3 d e f] (F1 r)
  | size (a r : Nat) (h : cn .f32 r = sizeF (cn .f32 a)) : PhiF 75 #[F1 a] (F1 r)
  | lesser (a b r : Nat) (h : cn .f32 r = lesserF (cn .f32 a) (cn .f32 b)) : PhiF 84 #[F1 a, F1 b] (F1 r)
  | greater (a b r : Nat) (h : cn .f32 r = greaterF (cn .f32 a) (cn .f32 b)) : PhiF 183 #[F1 a, F1 b] (F1 r)
  | short (a b r : Nat) (h : cn .f32 r = shortF (cn .f32 a) (cn .f32 b)) : PhiF 181 #[F1 a, F1 b] (F1 r)
  | bulge (a b r : Nat) (h : cn .f32 r = bulgeF (cn .f32 a) (cn .f32 b)) : PhiF 186 #[F1 a, F1 b] (F1 r)
  | fold (a b r : Nat) (h : cn .f32 r = foldF (cn .f32 a) (cn .f32 b)) : PhiF 208 #[F1 a, F1 b] (F1 r)
  | coords (a b c : Nat) : PhiF 136 #[V3 a b c] (V3 a b c)
  | vector (a b c : Nat) : PhiF 203 #[V3 a b c] (V3 a b c)
  | less (a b c d e f x y z : Nat) (h1 : cn .f32 x = B .sub (cn .f32 a) (cn .f32 d)) (h2 : cn .f32 y = B .sub (cn .f32 b) (cn .f32 e)) (h3 : cn .f32 z = B .sub (cn .f32 c) (cn .f32 f)) : PhiF 82 #[V3 a b c, V3 d e f] (V3 x y z)
  | sine (a r : Nat) (h : cn .f32 r = sineF (cn .f32 a)) : PhiF 174 #[F1 a] (F1 r)
end Go.Proofs.YtdbpgblhnhdhoaaGreat
