/-
  Walks of the small functions of the reference.
  Walks of the reference: picks, sets, folds.
-/
import Derived.Test.YtdbpgblhnhdhoaaGreatGB
set_option linter.unusedVariables false
set_option linter.unusedSimpArgs false
namespace Go.Proofs.YtdbpgblhnhdhoaaGreat
open Go.RowKit Go.Fl

/-- The reference's size: it takes -0 to +0. -/
def sizeS (x : Nat) : Nat := if lek .f32 x 0 then B .sub 0 x else x

set_option maxHeartbeats 400000 in
theorem s_size_any (a : Nat) (w : World) :
    Calls Tryz.prog 74 #[.float .f32 a] w (Ret .f32 (sizeS (cn .f32 a)) w) := by
  by_cases h : (FloatKind.f32.format.order a 0 == some .lt || FloatKind.f32.format.order a 0 == some .eq) = true
  · go_enter Tryz.func74, Tryz.ntmps74
    go_wp2_with (refine wp_bin rfl _ _ _ _ _ rfl _ _ _ rfl rfl rfl ?_; intro r n hr)
    go_ret
    exact ⟨_, rfl, by simp only [sizeS, lek, ord_r0, h, if_true]; rw [cn_zero] at hr; exact hr, (by repeat' (first | exact Below.refl _ _ | exact Nat.le_refl _ | refine below_drewN ?_ _ | refine Below.alloc ?_ (by first | (simp; done) | (simp; omega)) _ | refine Below.setCell ?_ (by first | (simp; done) | (simp; omega)) _ | refine below_step ?_ (by assumption)))⟩
  · rw [Bool.not_eq_true] at h
    go_enter Tryz.func74, Tryz.ntmps74
    go_wp2_with fail
    go_ret
    exact ⟨_, rfl, by simp only [sizeS, lek, ord_r0, h]; rfl, (by repeat' (first | exact Below.refl _ _ | exact Nat.le_refl _ | refine below_drewN ?_ _ | refine Below.alloc ?_ (by first | (simp; done) | (simp; omega)) _ | refine Below.setCell ?_ (by first | (simp; done) | (simp; omega)) _ | refine below_step ?_ (by assumption)))⟩

set_option maxHeartbeats 400000 in
theorem s_inner_any (a b c d e f : Nat) (w : World) :
    Calls Tryz.prog 167 #[.agg #[.float .f32 a, .float .f32 b, .float .f32 c], .agg #[.float .f32 d, .float .f32 e, .float .f32 f]] w
      (Ret .f32 (innerF (cn .f32 a) (cn .f32 b) (cn .f32 c) (cn .f32 d) (cn .f32 e) (cn .f32 f)) w) := by
  go_enter Tryz.func167, Tryz.ntmps167
  go_wp2_with (refine wp_bin rfl _ _ _ _ _ rfl _ _ _ rfl rfl rfl ?_; intro r n hr)
  go_ret
  exact ⟨_, rfl, by simp only [innerF, *], (by repeat' (first | exact Below.refl _ _ | exact Nat.le_refl _ | refine below_drewN ?_ _ | refine Below.alloc ?_ (by first | (simp; done) | (simp; omega)) _ | refine Below.setCell ?_ (by first | (simp; done) | (simp; omega)) _ | refine below_step ?_ (by assumption)))⟩

set_option maxHeartbeats 400000 in
theorem s_lesser_any (a b : Nat) (w : World) :
    Calls Tryz.prog 197 #[.float .f32 a, .float .f32 b] w (Ret .f32 (lesserF (cn .f32 a) (cn .f32 b)) w) := by
  by_cases h : (FloatKind.f32.format.order b a == some .lt) = true
  · go_enter Tryz.func197, Tryz.ntmps197
    go_wp2_with fail
    go_ret
    exact ⟨_, rfl, by simp only [lesserF, ltk, order_cn, h, if_true], (by repeat' (first | exact Below.refl _ _ | exact Nat.le_refl _ | refine below_drewN ?_ _ | refine Below.alloc ?_ (by first | (simp; done) | (simp; omega)) _ | refine Below.setCell ?_ (by first | (simp; done) | (simp; omega)) _ | refine below_step ?_ (by assumption)))⟩
  · rw [Bool.not_eq_true] at h
    go_enter Tryz.func197, Tryz.ntmps197
    go_wp2_with fail
    go_ret
    exact ⟨_, rfl, by simp only [lesserF, ltk, order_cn, h]; rfl, (by repeat' (first | exact Below.refl _ _ | exact Nat.le_refl _ | refine below_drewN ?_ _ | refine Below.alloc ?_ (by first | (simp; done) | (simp; omega)) _ | refine Below.setCell ?_ (by first | (simp; done) | (simp; omega)) _ | refine below_step ?_ (by assumption)))⟩

set_option maxHeartbeats 400000 in
theorem s_greater_any (a b : Nat) (w : World) :
    Calls Tryz.prog 198 #[.float .f32 a, .float .f32 b] w (Ret .f32 (greaterF (cn .f32 a) (cn .f32 b)) w) := by
  by_cases h : (FloatKind.f32.format.order b a == some .gt) = true
  · go_enter Tryz.func198, Tryz.ntmps198
    go_wp2_with fail
    go_ret
    exact ⟨_, rfl, by simp only [greaterF, gtk, order_cn, h, if_true], (by repeat' (first | exact Below.refl _ _ | exact Nat.le_refl _ | refine below_drewN ?_ _ | refine Below.alloc ?_ (by first | (simp; done) | (simp; omega)) _ | refine Below.setCell ?_ (by first | (simp; done) | (simp; omega)) _ | refine below_step ?_ (by assumption)))⟩
  · rw [Bool.not_eq_true] at h
    go_enter Tryz.func198, Tryz.ntmps198
    go_wp2_with fail
    go_ret
    exact ⟨_, rfl, by simp only [greaterF, gtk, order_cn, h]; rfl, (by repeat' (first | exact Below.refl _ _ | exact Nat.le_refl _ | refine below_drewN ?_ _ | refine Below.alloc ?_ (by first | (simp; done) | (simp; omega)) _ | refine Below.setCell ?_ (by first | (simp; done) | (simp; omega)) _ | refine below_step ?_ (by assumption)))⟩

set_option maxHeartbeats 400000 in
theorem s_less_any (a b c d e f : Nat) (w : World) :
    Calls Tryz.prog 121 #[.agg #[.float .f32 a, .float .f32 b, .float .f32 c], .agg #[.float .f32 d, .float .f32 e, .float .f32 f]] w
      (RetV (B .sub (cn .f32 a) (cn .f32 d)) (B .sub (cn .f32 b) (cn .f32 e)) (B .sub (cn .f32 c) (cn .f32 f)) w) := by
  go_enter Tryz.func121, Tryz.ntmps121
  go_wp2_with (refine wp_bin rfl _ _ _ _ _ rfl _ _ _ rfl rfl rfl ?_; intro r n hr)
  exact bodyPost_ret (v := .agg #[.float .f32 _, .float .f32 _, .float .f32 _]) (by simp [results, Tryz.results121, go_sem]; exact ⟨rfl, rfl, rfl⟩) rfl ⟨_, _, _, rfl, by assumption, by assumption, by assumption, (by repeat' (first | exact Below.refl _ _ | exact Nat.le_refl _ | refine below_drewN ?_ _ | refine Below.alloc ?_ (by first | (simp; done) | (simp; omega)) _ | refine Below.setCell ?_ (by first | (simp; done) | (simp; omega)) _ | refine below_step ?_ (by assumption)))⟩

set_option maxHeartbeats 400000 in
theorem s_fin_any (a : Nat) (w : World) :
    Calls Tryz.prog 109 #[.float .f32 a] w (fun e w' => e = .returned (.bool (eqk .f32 (B .sub (cn .f32 a) (cn .f32 a)) 0)) ∧ Below w.heap.size w w') := by
  go_enter Tryz.func109, Tryz.ntmps109
  go_wp2_with (refine wp_bin rfl _ _ _ _ _ rfl _ _ _ rfl rfl rfl ?_; intro r n hr)
  go_ret
  exact ⟨by simp only [eqk, ← hr, ord_r0]; rfl, (by repeat' (first | exact Below.refl _ _ | exact Nat.le_refl _ | refine below_drewN ?_ _ | refine Below.alloc ?_ (by first | (simp; done) | (simp; omega)) _ | refine Below.setCell ?_ (by first | (simp; done) | (simp; omega)) _ | refine below_step ?_ (by assumption)))⟩
set_option maxHeartbeats 400000 in
theorem s_narrow_any (a : Nat) (w : World) (hf : fits (cn .f64 a)) :
    Calls Tryz.prog 209 #[.float .f64 a] w (Ret .f32 (nar (cn .f64 a)) w) := by
  go_enter Tryz.func209, Tryz.ntmps209
  go_wp2_with (refine wp_nar rfl _ _ _ rfl _ rfl ?_ ?_ ?_ ?_; exact some_f64; exact Tryz.underlying25; exact hf; intro r2 n hr2)
  go_ret
  exact ⟨_, rfl, hr2, (by repeat' (first | exact Below.refl _ _ | exact Nat.le_refl _ | refine below_drewN ?_ _ | refine Below.alloc ?_ (by first | (simp; done) | (simp; omega)) _ | refine Below.setCell ?_ (by first | (simp; done) | (simp; omega)) _ | refine below_step ?_ (by assumption)))⟩

set_option maxHeartbeats 400000 in
theorem s_root_any (a : Nat) (w : World) :
    Calls Tryz.prog 166 #[.float .f32 a] w (Ret .f32 (rootF (cn .f32 a)) w) := by
  go_enter Tryz.func166, Tryz.ntmps166
  go_wp2_with (first
    | (go_at_call 168; refine (sqrt_any _ _).mono ?_; rintro _ w1 ⟨r1, rfl, hr1, hb1⟩)
    | (go_at_call 209; refine (s_narrow_any _ _ (by simp only [*]; exact fits_root _)).mono ?_; rintro _ w2 ⟨r2, rfl, hr2, hb2⟩)
    | (refine wp_wid rfl _ _ _ rfl _ rfl ?_ ?_ fitsW_all ?_; exact some_f32; exact Tryz.underlying38; intro r n hr))
  go_ret
  exact ⟨_, rfl, by simp only [rootF, *], (by repeat' (first | exact Below.refl _ _ | exact Nat.le_refl _ | refine below_drewN ?_ _ | refine Below.alloc ?_ (by first | (simp; done) | (simp; omega)) _ | refine Below.setCell ?_ (by first | (simp; done) | (simp; omega)) _ | refine below_step ?_ (by assumption)))⟩

set_option maxHeartbeats 400000 in
theorem s_long_any (a b c : Nat) (w : World) :
    Calls Tryz.prog 124 #[.agg #[.float .f32 a, .float .f32 b, .float .f32 c]] w (Ret .f32 (longF (cn .f32 a) (cn .f32 b) (cn .f32 c)) w) := by
  go_enter Tryz.func124, Tryz.ntmps124
  go_wp2_with (first
    | (go_at_call 167; refine (s_inner_any _ _ _ _ _ _ _).mono ?_; rintro _ w1 ⟨r1, rfl, hr1, hb1⟩)
    | (go_at_call 166; refine (s_root_any _ _).mono ?_; rintro _ w2 ⟨r2, rfl, hr2, hb2⟩))
  go_ret
  exact ⟨_, rfl, by simp only [longF, *], (by repeat' (first | exact Below.refl _ _ | exact Nat.le_refl _ | refine below_drewN ?_ _ | refine Below.alloc ?_ (by first | (simp; done) | (simp; omega)) _ | refine Below.setCell ?_ (by first | (simp; done) | (simp; omega)) _ | refine below_step ?_ (by assumption)))⟩

end Go.Proofs.YtdbpgblhnhdhoaaGreat

namespace Go.Proofs.YtdbpgblhnhdhoaaGreat
open Go.RowKit Go.Fl

def pickF (a b c : Nat) (i : Int) : Nat := if i = 0 then a else if i = 1 then b else c
def setX (a : Nat) (i : Int) (v : Nat) : Nat := if i = 0 then v else a
def setY (b : Nat) (i : Int) (v : Nat) : Nat := if i = 0 then b else if i = 1 then v else b
def setZ (c : Nat) (i : Int) (v : Nat) : Nat := if i = 0 then c else if i = 1 then c else v

set_option maxHeartbeats 400000 in
theorem s_pick_any (a b c : Nat) (i : Int) (w : World) :
    Calls Tryz.prog 147 #[V3 a b c, .int .i64 i] w (fun e w' => e = .returned (F1 (pickF a b c i)) ∧ Below w.heap.size w w') := by
  by_cases h0 : i = 0
  · subst h0
    go_enter Tryz.func147, Tryz.ntmps147
    go_wp2_with fail
    go_ret
    exact ⟨rfl, (by repeat' (first | exact Below.refl _ _ | exact Nat.le_refl _ | refine below_drewN ?_ _ | refine Below.alloc ?_ (by first | (simp; done) | (simp; omega)) _ | refine Below.setCell ?_ (by first | (simp; done) | (simp; omega)) _ | refine below_step ?_ (by assumption)))⟩
  · by_cases h1 : i = 1
    · subst h1
      go_enter Tryz.func147, Tryz.ntmps147
      go_wp2_with fail
      go_ret
      exact ⟨rfl, (by repeat' (first | exact Below.refl _ _ | exact Nat.le_refl _ | refine below_drewN ?_ _ | refine Below.alloc ?_ (by first | (simp; done) | (simp; omega)) _ | refine Below.setCell ?_ (by first | (simp; done) | (simp; omega)) _ | refine below_step ?_ (by assumption)))⟩
    · have : pickF a b c i = c := by simp [pickF, h0, h1]
      rw [this]
      go_enter Tryz.func147, Tryz.ntmps147
      go_wp2_with fail
      go_ret
      exact ⟨rfl, (by repeat' (first | exact Below.refl _ _ | exact Nat.le_refl _ | refine below_drewN ?_ _ | refine Below.alloc ?_ (by first | (simp; done) | (simp; omega)) _ | refine Below.setCell ?_ (by first | (simp; done) | (simp; omega)) _ | refine below_step ?_ (by assumption)))⟩

set_option maxHeartbeats 400000 in
theorem s_set_any (a b c v : Nat) (i : Int) (w : World) :
    Calls Tryz.prog 148 #[V3 a b c, .int .i64 i, F1 v] w (fun e w' => e = .returned (V3 (setX a i v) (setY b i v) (setZ c i v)) ∧ Below w.heap.size w w') := by
  by_cases h0 : i = 0
  · subst h0
    go_enter Tryz.func148, Tryz.ntmps148
    go_wp2_with fail
    exact bodyPost_ret (v := .agg #[.float .f32 _, .float .f32 _, .float .f32 _]) (by simp [results, Tryz.results148, go_sem]; first | done | exact ⟨rfl, rfl, rfl⟩) rfl ⟨rfl, (by repeat' (first | exact Below.refl _ _ | exact Nat.le_refl _ | refine below_drewN ?_ _ | refine Below.alloc ?_ (by first | (simp; done) | (simp; omega)) _ | refine Below.setCell ?_ (by first | (simp; done) | (simp; omega)) _ | refine below_step ?_ (by assumption)))⟩
  · by_cases h1 : i = 1
    · subst h1
      go_enter Tryz.func148, Tryz.ntmps148
      go_wp2_with fail
      exact bodyPost_ret (v := .agg #[.float .f32 _, .float .f32 _, .float .f32 _]) (by simp [results, Tryz.results148, go_sem]; first | done | exact ⟨rfl, rfl, rfl⟩) rfl ⟨rfl, (by repeat' (first | exact Below.refl _ _ | exact Nat.le_refl _ | refine below_drewN ?_ _ | refine Below.alloc ?_ (by first | (simp; done) | (simp; omega)) _ | refine Below.setCell ?_ (by first | (simp; done) | (simp; omega)) _ | refine below_step ?_ (by assumption)))⟩
    · have e1 : setX a i v = a := by simp [setX, h0]
      have e2 : setY b i v = b := by simp [setY, h0, h1]
      have e3 : setZ c i v = v := by simp [setZ, h0, h1]
      rw [e1, e2, e3]
      clear e1 e2 e3
      go_enter Tryz.func148, Tryz.ntmps148
      go_wp2_with fail
      exact bodyPost_ret (v := .agg #[.float .f32 _, .float .f32 _, .float .f32 _]) (by simp [results, Tryz.results148, go_sem]; first | done | exact ⟨rfl, rfl, rfl⟩) rfl ⟨rfl, (by repeat' (first | exact Below.refl _ _ | exact Nat.le_refl _ | refine below_drewN ?_ _ | refine Below.alloc ?_ (by first | (simp; done) | (simp; omega)) _ | refine Below.setCell ?_ (by first | (simp; done) | (simp; omega)) _ | refine below_step ?_ (by assumption)))⟩

def foldedS (c s : Nat) : Nat := sizeS (B .sub c (B .mul (B .mul 1073741824 s) (nearF (B .quo c (B .mul 1073741824 s)))))

set_option maxHeartbeats 400000 in
theorem s_folded_any (a b : Nat) (w : World) :
    Calls Tryz.prog 219 #[.float .f32 a, .float .f32 b] w (Ret .f32 (foldedS (cn .f32 a) (cn .f32 b)) w) := by
  go_enter Tryz.func219, Tryz.ntmps219
  go_wp2_with (first
    | (refine wp_entry rfl 217 _ _ rfl rfl _ ext_rte _ (run_whole _ _ _ _) ?_; rintro _ n ⟨r1, rfl, hr1⟩)
    | (go_at_call 74; refine (s_size_any _ _).mono ?_; rintro _ w1 ⟨r3, rfl, hr3, hb1⟩)
    | (refine wp_bin rfl _ _ _ _ _ rfl _ _ _ rfl rfl rfl ?_; intro r n hr)
    | (refine wp_wid rfl _ _ _ rfl _ rfl ?_ ?_ fitsW_all ?_; exact some_f32; exact Tryz.underlying38; intro r n hr)
    | (refine wp_nar rfl _ _ _ rfl _ rfl ?_ ?_ ?_ ?_; exact some_f64; exact Tryz.underlying25; (simp only [*]; exact fits_near _); intro r2 n hr2))
  go_ret
  exact ⟨_, rfl, by simp only [foldedS, nearF, cn_c7, *], (by repeat' (first | exact Below.refl _ _ | exact Nat.le_refl _ | refine below_drewN ?_ _ | refine Below.alloc ?_ (by first | (simp; done) | (simp; omega)) _ | refine Below.setCell ?_ (by first | (simp; done) | (simp; omega)) _ | refine below_step ?_ (by assumption)))⟩
end Go.Proofs.YtdbpgblhnhdhoaaGreat
