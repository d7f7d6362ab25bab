/-
  Walks of the small functions of the program.
-/
import Derived.Test.YtdbpgblhnhdhoaaE
import Derived.Test.YtdbpgblhnhdhoaaTb
import Derived.Outline
set_option linter.unusedVariables false
set_option linter.unusedSimpArgs false
namespace Go.Proofs.Ytdbpgblhnhdhoaa
open Go.RowKit Go.Fl

set_option maxHeartbeats 400000 in
theorem inner_any (a b c d e f : Nat) (w : World) :
    Calls Try.prog 73 #[.agg #[.float .f32 a, .float .f32 b, .float .f32 c], .agg #[.float .f32 d, .float .f32 e, .float .f32 f]] w
      (Ret .f32 (innerF (cn .f32 a) (cn .f32 b) (cn .f32 c) (cn .f32 d) (cn .f32 e) (cn .f32 f)) w) := by
  go_enter Try.func73, Try.ntmps73
  go_wp2_with (refine wp_bin rfl _ _ _ _ _ rfl _ _ _ rfl rfl rfl ?_; intro r n hr)
  go_ret
  exact ⟨_, rfl, by simp only [innerF, *], (by repeat' (first | exact Below.refl _ _ | exact Nat.le_refl _ | refine below_drewN ?_ _ | refine Below.alloc ?_ (by first | (simp; done) | (simp; omega)) _ | refine Below.setCell ?_ (by first | (simp; done) | (simp; omega)) _ | refine below_step ?_ (by assumption)))⟩

set_option maxHeartbeats 400000 in
theorem sqrt_any (a : Nat) (w : World) :
    Calls Try.prog 94 #[.float .f64 a] w (Ret .f64 (sqr (cn .f64 a)) w) := by
  go_enter Try.func94, Try.ntmps94
  go_wp2_with (refine wp_entry rfl 97 _ _ rfl rfl _ ext_sqrt _ (run_sqrt _ _) ?_; rintro _ n ⟨r, rfl, hr⟩)
  go_ret
  exact ⟨_, rfl, hr, (by repeat' (first | exact Below.refl _ _ | exact Nat.le_refl _ | refine below_drewN ?_ _ | refine Below.alloc ?_ (by first | (simp; done) | (simp; omega)) _ | refine Below.setCell ?_ (by first | (simp; done) | (simp; omega)) _ | refine below_step ?_ (by assumption)))⟩

set_option maxHeartbeats 400000 in
theorem size_any (a : Nat) (w : World) :
    Calls Try.prog 44 #[.float .f32 a] w (Ret .f32 (sizeF (cn .f32 a)) w) := by
  by_cases h : (FloatKind.f32.format.order a 0 == some .lt) = true
  · go_enter Try.func44, Try.ntmps44
    go_wp2_with fail
    go_ret
    exact ⟨_, rfl, by simp only [sizeF, ltk, ord_r0, h, if_true, negc_cn], (by repeat' (first | exact Below.refl _ _ | exact Nat.le_refl _ | refine below_drewN ?_ _ | refine Below.alloc ?_ (by first | (simp; done) | (simp; omega)) _ | refine Below.setCell ?_ (by first | (simp; done) | (simp; omega)) _ | refine below_step ?_ (by assumption)))⟩
  · rw [Bool.not_eq_true] at h
    go_enter Try.func44, Try.ntmps44
    go_wp2_with fail
    go_ret
    exact ⟨_, rfl, by simp only [sizeF, ltk, ord_r0, h]; rfl, (by repeat' (first | exact Below.refl _ _ | exact Nat.le_refl _ | refine below_drewN ?_ _ | refine Below.alloc ?_ (by first | (simp; done) | (simp; omega)) _ | refine Below.setCell ?_ (by first | (simp; done) | (simp; omega)) _ | refine below_step ?_ (by assumption)))⟩

set_option maxHeartbeats 400000 in
theorem lesser_any (a b : Nat) (w : World) :
    Calls Try.prog 71 #[.float .f32 a, .float .f32 b] w (Ret .f32 (lesserF (cn .f32 a) (cn .f32 b)) w) := by
  by_cases h : (FloatKind.f32.format.order b a == some .lt) = true
  · go_enter Try.func71, Try.ntmps71
    go_wp2_with fail
    go_ret
    exact ⟨_, rfl, by simp only [lesserF, ltk, order_cn, h, if_true], (by repeat' (first | exact Below.refl _ _ | exact Nat.le_refl _ | refine below_drewN ?_ _ | refine Below.alloc ?_ (by first | (simp; done) | (simp; omega)) _ | refine Below.setCell ?_ (by first | (simp; done) | (simp; omega)) _ | refine below_step ?_ (by assumption)))⟩
  · rw [Bool.not_eq_true] at h
    go_enter Try.func71, Try.ntmps71
    go_wp2_with fail
    go_ret
    exact ⟨_, rfl, by simp only [lesserF, ltk, order_cn, h]; rfl, (by repeat' (first | exact Below.refl _ _ | exact Nat.le_refl _ | refine below_drewN ?_ _ | refine Below.alloc ?_ (by first | (simp; done) | (simp; omega)) _ | refine Below.setCell ?_ (by first | (simp; done) | (simp; omega)) _ | refine below_step ?_ (by assumption)))⟩

set_option maxHeartbeats 400000 in
theorem greater_any (a b : Nat) (w : World) :
    Calls Try.prog 70 #[.float .f32 a, .float .f32 b] w (Ret .f32 (greaterF (cn .f32 a) (cn .f32 b)) w) := by
  by_cases h : (FloatKind.f32.format.order b a == some .gt) = true
  · go_enter Try.func70, Try.ntmps70
    go_wp2_with fail
    go_ret
    exact ⟨_, rfl, by simp only [greaterF, gtk, order_cn, h, if_true], (by repeat' (first | exact Below.refl _ _ | exact Nat.le_refl _ | refine below_drewN ?_ _ | refine Below.alloc ?_ (by first | (simp; done) | (simp; omega)) _ | refine Below.setCell ?_ (by first | (simp; done) | (simp; omega)) _ | refine below_step ?_ (by assumption)))⟩
  · rw [Bool.not_eq_true] at h
    go_enter Try.func70, Try.ntmps70
    go_wp2_with fail
    go_ret
    exact ⟨_, rfl, by simp only [greaterF, gtk, order_cn, h]; rfl, (by repeat' (first | exact Below.refl _ _ | exact Nat.le_refl _ | refine below_drewN ?_ _ | refine Below.alloc ?_ (by first | (simp; done) | (simp; omega)) _ | refine Below.setCell ?_ (by first | (simp; done) | (simp; omega)) _ | refine below_step ?_ (by assumption)))⟩

set_option maxHeartbeats 400000 in
theorem less_any (a b c d e f : Nat) (w : World) :
    Calls Try.prog 42 #[.agg #[.float .f32 a, .float .f32 b, .float .f32 c], .agg #[.float .f32 d, .float .f32 e, .float .f32 f]] w
      (RetV (B .sub (cn .f32 a) (cn .f32 d)) (B .sub (cn .f32 b) (cn .f32 e)) (B .sub (cn .f32 c) (cn .f32 f)) w) := by
  go_enter Try.func42, Try.ntmps42
  go_wp2_with (refine wp_bin rfl _ _ _ _ _ rfl _ _ _ rfl rfl rfl ?_; intro r n hr)
  exact bodyPost_ret (v := .agg #[.float .f32 _, .float .f32 _, .float .f32 _]) (by simp [results, Try.results42, go_sem]; exact ⟨rfl, rfl, rfl⟩) rfl ⟨_, _, _, rfl, by assumption, by assumption, by assumption, (by repeat' (first | exact Below.refl _ _ | exact Nat.le_refl _ | refine below_drewN ?_ _ | refine Below.alloc ?_ (by first | (simp; done) | (simp; omega)) _ | refine Below.setCell ?_ (by first | (simp; done) | (simp; omega)) _ | refine below_step ?_ (by assumption)))⟩

set_option maxHeartbeats 400000 in
theorem short_any (a b : Nat) (w : World) :
    Calls Try.prog 72 #[.float .f32 a, .float .f32 b] w (Ret .f32 (shortF (cn .f32 a) (cn .f32 b)) w) := by
  go_enter Try.func72, Try.ntmps72
  go_wp2_with (first
    | (go_at_call 70; refine (greater_any _ _ _).mono ?_; rintro _ w1 ⟨r1, rfl, hr1, hb1⟩)
    | (go_at_call 71; refine (lesser_any _ _ _).mono ?_; rintro _ w2 ⟨r2, rfl, hr2, hb2⟩)
    | (refine wp_bin rfl _ _ _ _ _ rfl _ _ _ rfl rfl rfl ?_; intro r n hr))
  go_ret
  rw [cn_zero] at hr1
  exact ⟨_, rfl, by simp only [shortF, *], (by repeat' (first | exact Below.refl _ _ | exact Nat.le_refl _ | refine below_drewN ?_ _ | refine Below.alloc ?_ (by first | (simp; done) | (simp; omega)) _ | refine Below.setCell ?_ (by first | (simp; done) | (simp; omega)) _ | refine below_step ?_ (by assumption)))⟩

set_option maxHeartbeats 400000 in
theorem root_any (a : Nat) (w : World) :
    Calls Try.prog 91 #[.float .f32 a] w (Ret .f32 (rootF (cn .f32 a)) w) := by
  go_enter Try.func91, Try.ntmps91
  go_wp2_with (first
    | (go_at_call 94; refine (sqrt_any _ _).mono ?_; rintro _ w1 ⟨r1, rfl, hr1, hb1⟩)
    | (refine wp_wid rfl _ _ _ rfl _ rfl ?_ ?_ fitsW_all ?_; exact some_f32; exact Try.underlying93; intro r n hr)
    | (refine wp_nar rfl _ _ _ rfl _ rfl ?_ ?_ ?_ ?_; exact some_f64; exact Try.underlying25; (simp only [*]; exact fits_root _); intro r2 n hr2))
  go_ret
  exact ⟨_, rfl, by simp only [rootF, *], (by repeat' (first | exact Below.refl _ _ | exact Nat.le_refl _ | refine below_drewN ?_ _ | refine Below.alloc ?_ (by first | (simp; done) | (simp; omega)) _ | refine Below.setCell ?_ (by first | (simp; done) | (simp; omega)) _ | refine below_step ?_ (by assumption)))⟩

set_option maxHeartbeats 400000 in
theorem long_any (a b c : Nat) (w : World) :
    Calls Try.prog 69 #[.agg #[.float .f32 a, .float .f32 b, .float .f32 c]] w (Ret .f32 (longF (cn .f32 a) (cn .f32 b) (cn .f32 c)) w) := by
  go_enter Try.func69, Try.ntmps69
  go_wp2_with (first
    | (go_at_call 73; refine (inner_any _ _ _ _ _ _ _).mono ?_; rintro _ w1 ⟨r1, rfl, hr1, hb1⟩)
    | (go_at_call 91; refine (root_any _ _).mono ?_; rintro _ w2 ⟨r2, rfl, hr2, hb2⟩))
  go_ret
  exact ⟨_, rfl, by simp only [longF, *], (by repeat' (first | exact Below.refl _ _ | exact Nat.le_refl _ | refine below_drewN ?_ _ | refine Below.alloc ?_ (by first | (simp; done) | (simp; omega)) _ | refine Below.setCell ?_ (by first | (simp; done) | (simp; omega)) _ | refine below_step ?_ (by assumption)))⟩

set_option maxHeartbeats 400000 in
theorem bulge_any (a b : Nat) (w : World) :
    Calls Try.prog 74 #[.float .f32 a, .float .f32 b] w (Ret .f32 (bulgeF (cn .f32 a) (cn .f32 b)) w) := by
  by_cases h : (FloatKind.f32.format.order a 0 == some .gt) = true
  · go_enter Try.func74, Try.ntmps74
    go_wp2_with (refine wp_bin rfl _ _ _ _ _ rfl _ _ _ rfl rfl rfl ?_; intro r n hr)
    go_ret
    exact ⟨_, rfl, by simp only [bulgeF, gtk, ord_r0, h, if_true]; simp only [*]; rfl, (by repeat' (first | exact Below.refl _ _ | exact Nat.le_refl _ | refine below_drewN ?_ _ | refine Below.alloc ?_ (by first | (simp; done) | (simp; omega)) _ | refine Below.setCell ?_ (by first | (simp; done) | (simp; omega)) _ | refine below_step ?_ (by assumption)))⟩
  · rw [Bool.not_eq_true] at h
    go_enter Try.func74, Try.ntmps74
    go_wp2_with (refine wp_bin rfl _ _ _ _ _ rfl _ _ _ rfl rfl rfl ?_; intro r n hr)
    go_ret
    exact ⟨_, rfl, by simp only [bulgeF, gtk, ord_r0, h]; rfl, (by repeat' (first | exact Below.refl _ _ | exact Nat.le_refl _ | refine below_drewN ?_ _ | refine Below.alloc ?_ (by first | (simp; done) | (simp; omega)) _ | refine Below.setCell ?_ (by first | (simp; done) | (simp; omega)) _ | refine below_step ?_ (by assumption)))⟩

set_option maxHeartbeats 400000 in
theorem near_any (a : Nat) (w : World) :
    Calls Try.prog 68 #[.float .f32 a] w (Ret .f32 (nearF (cn .f32 a)) w) := by
  go_enter Try.func68, Try.ntmps68
  go_wp2_with (first
    | (refine wp_entry rfl 90 _ _ rfl rfl _ ext_rte _ (run_whole _ _ _ _) ?_; rintro _ n ⟨r1, rfl, hr1⟩)
    | (refine wp_wid rfl _ _ _ rfl _ rfl ?_ ?_ fitsW_all ?_; exact some_f32; exact Try.underlying93; intro r n hr)
    | (refine wp_nar rfl _ _ _ rfl _ rfl ?_ ?_ ?_ ?_; exact some_f64; exact Try.underlying25; (simp only [*]; exact fits_near _); intro r2 n hr2))
  go_ret
  exact ⟨_, rfl, by simp only [nearF, *], (by repeat' (first | exact Below.refl _ _ | exact Nat.le_refl _ | refine below_drewN ?_ _ | refine Below.alloc ?_ (by first | (simp; done) | (simp; omega)) _ | refine Below.setCell ?_ (by first | (simp; done) | (simp; omega)) _ | refine below_step ?_ (by assumption)))⟩

set_option maxHeartbeats 400000 in
theorem fold_any (a b : Nat) (w : World) :
    Calls Try.prog 45 #[.float .f32 a, .float .f32 b] w (Ret .f32 (foldF (cn .f32 a) (cn .f32 b)) w) := by
  go_enter Try.func45, Try.ntmps45
  go_wp2_with (first
    | (go_at_call 68; refine (near_any _ _).mono ?_; rintro _ w1 ⟨r1, rfl, hr1, hb1⟩)
    | (refine wp_bin rfl _ _ _ _ _ rfl _ _ _ rfl rfl rfl ?_; intro r n hr))
  go_ret
  exact ⟨_, rfl, by simp only [foldF, *]; rfl, (by repeat' (first | exact Below.refl _ _ | exact Nat.le_refl _ | refine below_drewN ?_ _ | refine Below.alloc ?_ (by first | (simp; done) | (simp; omega)) _ | refine Below.setCell ?_ (by first | (simp; done) | (simp; omega)) _ | refine below_step ?_ (by assumption)))⟩

set_option maxHeartbeats 400000 in
theorem coords_any (a b c : Nat) (w : World) :
    Calls Try.prog 41 #[.agg #[.float .f32 a, .float .f32 b, .float .f32 c]] w
      (fun e w' => e = .returned (.agg #[.float .f32 a, .float .f32 b, .float .f32 c]) ∧ Below w.heap.size w w') := by
  go_enter Try.func41, Try.ntmps41
  go_wp2_with fail
  exact bodyPost_ret (v := .agg #[.float .f32 _, .float .f32 _, .float .f32 _]) (by simp [results, Try.results41, go_sem]) rfl ⟨rfl, (by repeat' (first | exact Below.refl _ _ | exact Nat.le_refl _ | refine below_drewN ?_ _ | refine Below.alloc ?_ (by first | (simp; done) | (simp; omega)) _ | refine Below.setCell ?_ (by first | (simp; done) | (simp; omega)) _ | refine below_step ?_ (by assumption)))⟩

set_option maxHeartbeats 400000 in
theorem vector_any (a b c : Nat) (w : World) :
    Calls Try.prog 46 #[.agg #[.float .f32 a, .float .f32 b, .float .f32 c]] w
      (fun e w' => e = .returned (.agg #[.float .f32 a, .float .f32 b, .float .f32 c]) ∧ Below w.heap.size w w') := by
  go_enter Try.func46, Try.ntmps46
  go_wp2_with fail
  exact bodyPost_ret (v := .agg #[.float .f32 _, .float .f32 _, .float .f32 _]) (by simp [results, Try.results46, go_sem]) rfl ⟨rfl, (by repeat' (first | exact Below.refl _ _ | exact Nat.le_refl _ | refine below_drewN ?_ _ | refine Below.alloc ?_ (by first | (simp; done) | (simp; omega)) _ | refine Below.setCell ?_ (by first | (simp; done) | (simp; omega)) _ | refine below_step ?_ (by assumption)))⟩

set_option maxHeartbeats 400000 in
theorem in_any (a b c : Int) (w : World) :
    Calls Try.prog 30 #[.int .i64 a, .int .i64 b, .int .i64 c] w (fun e w' => e = .returned (.bool (decide (b ≤ a) && decide (a ≤ c))) ∧ w = w') := by
  by_cases h1 : b ≤ a
  · by_cases h2 : a ≤ c
    all_goals
      go_enter Try.func30, Try.ntmps30
      go_wp2_with fail
      go_ret
      exact ⟨by simp [h1, h2], rfl⟩
  · go_enter Try.func30, Try.ntmps30
    go_wp2_with fail
    go_ret
    exact ⟨by rw [decide_eq_false (by omega : ¬ b ≤ a)]; rfl, rfl⟩

set_option maxHeartbeats 400000 in
theorem fin_any (a : Nat) (w : World) :
    Calls Try.prog 64 #[.float .f32 a] w (fun e w' => e = .returned (.bool (eqk .f32 (B .sub (cn .f32 a) (cn .f32 a)) 0)) ∧ Below w.heap.size w w') := by
  go_enter Try.func64, Try.ntmps64
  go_wp2_with (refine wp_bin rfl _ _ _ _ _ rfl _ _ _ rfl rfl rfl ?_; intro r n hr)
  go_ret
  exact ⟨by simp only [eqk, ← hr, ord_r0]; rfl, (by repeat' (first | exact Below.refl _ _ | exact Nat.le_refl _ | refine below_drewN ?_ _ | refine Below.alloc ?_ (by first | (simp; done) | (simp; omega)) _ | refine Below.setCell ?_ (by first | (simp; done) | (simp; omega)) _ | refine below_step ?_ (by assumption)))⟩
end Go.Proofs.Ytdbpgblhnhdhoaa
