/-
 Lemmas: W1,S1,S2,S11,S3,W11,Rq.
-/
import Derived.Test.YtbiacfkiakddiaaGreatMaj
import Derived.Carry
import Derived.ChangeSame
import Derived.Deep.Fields
import Derived.Deep.Slices
import Derived.OpenShut
import Derived.ProofKit
import Derived.Test.YtbiacfkiakddiaaGreatRows
set_option linter.unusedVariables false
set_option linter.unusedSimpArgs false
namespace Go.Proofs.YtbiacfkiakddiaaGreat
open Go.RowKit Go.Fl
set_option maxHeartbeats 400000 in
theorem inner_any (a b c d e f:Nat) (w:World) :
  Calls Tryz.prog 176 #[.agg #[.float .f32 a,.float .f32 b,.float .f32 c],.agg #[.float .f32 d,.float .f32 e,.float .f32 f]] w
   (Ret .f32 (innerF (cn .f32 a) (cn .f32 b) (cn .f32 c) (cn .f32 d) (cn .f32 e) (cn .f32 f)) w):=by
 go_enter Tryz.func176,Tryz.ntmps176
 go_wp2_with (refine wp_bin rfl _ _ _ _ _ rfl _ _ _ rfl rfl rfl ?_;intro r n hr)
 go_ret
 exact ⟨_,rfl,by simp only [innerF, *],(by repeat' (first | exact Below.refl _ _ | exact Nat.le_refl _ | refine below_drewN ?_ _ | refine Below.alloc ?_ (by simp <;> omega) _ | refine Below.setCell ?_ (by simp <;> omega) _ | refine below_step ?_ (by assumption)))⟩

set_option maxHeartbeats 400000 in
theorem sqrt_any (a:Nat) (w:World) :
  Calls Tryz.prog 278 #[.float .f64 a] w (Ret .f64 (sqr (cn .f64 a)) w):=by
 go_enter Tryz.func278,Tryz.ntmps278
 go_wp2_with (refine wp_entry rfl 284 _ _ rfl rfl _ ext_sqrt _ (run_sqrt _ _) ?_;rintro _ n ⟨r,rfl,hr⟩)
 go_ret
 exact ⟨_,rfl,hr,(by repeat' (first | exact Below.refl _ _ | exact Nat.le_refl _ | refine below_drewN ?_ _ | refine Below.alloc ?_ (by simp <;> omega) _ | refine Below.setCell ?_ (by simp <;> omega) _ | refine below_step ?_ (by assumption)))⟩

set_option maxHeartbeats 400000 in
theorem size_any (a:Nat) (w:World) :
  Calls Tryz.prog 90 #[.float .f32 a] w (Ret .f32 (sizeF (cn .f32 a)) w):=by
 by_cases h:(FloatKind.f32.format.order a 0 == some .lt) = true
 ·go_enter Tryz.func90,Tryz.ntmps90
  go_wp2_with fail
  go_ret
  exact ⟨_,rfl,by simp only [sizeF,ltk,ord_r0,h,if_true,negc_cn],(by repeat' (first | exact Below.refl _ _ | exact Nat.le_refl _ | refine below_drewN ?_ _ | refine Below.alloc ?_ (by simp <;> omega) _ | refine Below.setCell ?_ (by simp <;> omega) _ | refine below_step ?_ (by assumption)))⟩
 ·rw [Bool.not_eq_true] at h
  go_enter Tryz.func90,Tryz.ntmps90
  go_wp2_with fail
  go_ret
  exact ⟨_,rfl,by simp only [sizeF,ltk,ord_r0,h];rfl,(by repeat' (first | exact Below.refl _ _ | exact Nat.le_refl _ | refine below_drewN ?_ _ | refine Below.alloc ?_ (by simp <;> omega) _ | refine Below.setCell ?_ (by simp <;> omega) _ | refine below_step ?_ (by assumption)))⟩

set_option maxHeartbeats 400000 in
theorem lesser_any (a b:Nat) (w:World) :
  Calls Tryz.prog 221 #[.float .f32 a,.float .f32 b] w (Ret .f32 (lesserF (cn .f32 a) (cn .f32 b)) w):=by
 by_cases h:(FloatKind.f32.format.order b a == some .lt) = true
 ·go_enter Tryz.func221,Tryz.ntmps221
  go_wp2_with fail
  go_ret
  exact ⟨_,rfl,by simp only [lesserF,ltk,order_cn,h,if_true],(by repeat' (first | exact Below.refl _ _ | exact Nat.le_refl _ | refine below_drewN ?_ _ | refine Below.alloc ?_ (by simp <;> omega) _ | refine Below.setCell ?_ (by simp <;> omega) _ | refine below_step ?_ (by assumption)))⟩
 ·rw [Bool.not_eq_true] at h
  go_enter Tryz.func221,Tryz.ntmps221
  go_wp2_with fail
  go_ret
  exact ⟨_,rfl,by simp only [lesserF,ltk,order_cn,h];rfl,(by repeat' (first | exact Below.refl _ _ | exact Nat.le_refl _ | refine below_drewN ?_ _ | refine Below.alloc ?_ (by simp <;> omega) _ | refine Below.setCell ?_ (by simp <;> omega) _ | refine below_step ?_ (by assumption)))⟩

set_option maxHeartbeats 400000 in
theorem greater_any (a b:Nat) (w:World) :
  Calls Tryz.prog 222 #[.float .f32 a,.float .f32 b] w (Ret .f32 (greaterF (cn .f32 a) (cn .f32 b)) w):=by
 by_cases h:(FloatKind.f32.format.order b a == some .gt) = true
 ·go_enter Tryz.func222,Tryz.ntmps222
  go_wp2_with fail
  go_ret
  exact ⟨_,rfl,by simp only [greaterF,gtk,order_cn,h,if_true],(by repeat' (first | exact Below.refl _ _ | exact Nat.le_refl _ | refine below_drewN ?_ _ | refine Below.alloc ?_ (by simp <;> omega) _ | refine Below.setCell ?_ (by simp <;> omega) _ | refine below_step ?_ (by assumption)))⟩
 ·rw [Bool.not_eq_true] at h
  go_enter Tryz.func222,Tryz.ntmps222
  go_wp2_with fail
  go_ret
  exact ⟨_,rfl,by simp only [greaterF,gtk,order_cn,h];rfl,(by repeat' (first | exact Below.refl _ _ | exact Nat.le_refl _ | refine below_drewN ?_ _ | refine Below.alloc ?_ (by simp <;> omega) _ | refine Below.setCell ?_ (by simp <;> omega) _ | refine below_step ?_ (by assumption)))⟩

set_option maxHeartbeats 400000 in
theorem less_any (a b c d e f:Nat) (w:World) :
  Calls Tryz.prog 178 #[.agg #[.float .f32 a,.float .f32 b,.float .f32 c],.agg #[.float .f32 d,.float .f32 e,.float .f32 f]] w
   (RetV (B .sub (cn .f32 a) (cn .f32 d)) (B .sub (cn .f32 b) (cn .f32 e)) (B .sub (cn .f32 c) (cn .f32 f)) w):=by
 go_enter Tryz.func178,Tryz.ntmps178
 go_wp2_with (refine wp_bin rfl _ _ _ _ _ rfl _ _ _ rfl rfl rfl ?_;intro r n hr)
 exact bodyPost_ret (v:=.agg #[.float .f32 _,.float .f32 _,.float .f32 _]) (by simp [results,Tryz.results178,go_sem];exact ⟨rfl,rfl,rfl⟩) rfl ⟨_,_,_,rfl,by assumption,by assumption,by assumption,(by repeat' (first | exact Below.refl _ _ | exact Nat.le_refl _ | refine below_drewN ?_ _ | refine Below.alloc ?_ (by simp <;> omega) _ | refine Below.setCell ?_ (by simp <;> omega) _ | refine below_step ?_ (by assumption)))⟩

set_option maxHeartbeats 400000 in
theorem short_any (a b:Nat) (w:World) :
  Calls Tryz.prog 219 #[.float .f32 a,.float .f32 b] w (Ret .f32 (shortF (cn .f32 a) (cn .f32 b)) w):=by
 go_enter Tryz.func219,Tryz.ntmps219
 go_wp2_with (first
  | (go_at_call 222;refine (greater_any _ _ _).mono ?_;rintro _ w1 ⟨r1,rfl,hr1,hb1⟩)
  | (go_at_call 221;refine (lesser_any _ _ _).mono ?_;rintro _ w2 ⟨r2,rfl,hr2,hb2⟩)
  | (refine wp_bin rfl _ _ _ _ _ rfl _ _ _ rfl rfl rfl ?_;intro r n hr))
 go_ret
 rw [cn_zero] at hr1
 exact ⟨_,rfl,by simp only [shortF, *],(by repeat' (first | exact Below.refl _ _ | exact Nat.le_refl _ | refine below_drewN ?_ _ | refine Below.alloc ?_ (by simp <;> omega) _ | refine Below.setCell ?_ (by simp <;> omega) _ | refine below_step ?_ (by assumption)))⟩

set_option maxHeartbeats 400000 in
theorem root_any (a:Nat) (w:World) :
  Calls Tryz.prog 269 #[.float .f32 a] w (Ret .f32 (rootF (cn .f32 a)) w):=by
 go_enter Tryz.func269,Tryz.ntmps269
 go_wp2_with (first
  | (go_at_call 278;refine (sqrt_any _ _).mono ?_;rintro _ w1 ⟨r1,rfl,hr1,hb1⟩)
  | (refine wp_wid rfl _ _ _ rfl _ rfl ?_ ?_ fitsW_all ?_;exact some_f32;exact Tryz.underlying89;intro r n hr)
  | (refine wp_nar rfl _ _ _ rfl _ rfl ?_ ?_ ?_ ?_;exact some_f64;exact Tryz.underlying25;(simp only [*];exact fits_root _);intro r2 n hr2))
 go_ret
 exact ⟨_,rfl,by simp only [rootF, *],(by repeat' (first | exact Below.refl _ _ | exact Nat.le_refl _ | refine below_drewN ?_ _ | refine Below.alloc ?_ (by simp <;> omega) _ | refine Below.setCell ?_ (by simp <;> omega) _ | refine below_step ?_ (by assumption)))⟩

set_option maxHeartbeats 400000 in
theorem long_any (a b c:Nat) (w:World) :
  Calls Tryz.prog 250 #[.agg #[.float .f32 a,.float .f32 b,.float .f32 c]] w (Ret .f32 (longF (cn .f32 a) (cn .f32 b) (cn .f32 c)) w):=by
 go_enter Tryz.func250,Tryz.ntmps250
 go_wp2_with (first
  | (go_at_call 176;refine (inner_any _ _ _ _ _ _ _).mono ?_;rintro _ w1 ⟨r1,rfl,hr1,hb1⟩)
  | (go_at_call 269;refine (root_any _ _).mono ?_;rintro _ w2 ⟨r2,rfl,hr2,hb2⟩))
 go_ret
 exact ⟨_,rfl,by simp only [longF, *],(by repeat' (first | exact Below.refl _ _ | exact Nat.le_refl _ | refine below_drewN ?_ _ | refine Below.alloc ?_ (by simp <;> omega) _ | refine Below.setCell ?_ (by simp <;> omega) _ | refine below_step ?_ (by assumption)))⟩

set_option maxHeartbeats 400000 in
theorem bulge_any (a b:Nat) (w:World) :
  Calls Tryz.prog 224 #[.float .f32 a,.float .f32 b] w (Ret .f32 (bulgeF (cn .f32 a) (cn .f32 b)) w):=by
 by_cases h:(FloatKind.f32.format.order a 0 == some .gt) = true
 ·go_enter Tryz.func224,Tryz.ntmps224
  go_wp2_with (refine wp_bin rfl _ _ _ _ _ rfl _ _ _ rfl rfl rfl ?_;intro r n hr)
  go_ret
  exact ⟨_,rfl,by simp only [bulgeF,gtk,ord_r0,h,if_true];simp only [*];rfl,(by repeat' (first | exact Below.refl _ _ | exact Nat.le_refl _ | refine below_drewN ?_ _ | refine Below.alloc ?_ (by simp <;> omega) _ | refine Below.setCell ?_ (by simp <;> omega) _ | refine below_step ?_ (by assumption)))⟩
 ·rw [Bool.not_eq_true] at h
  go_enter Tryz.func224,Tryz.ntmps224
  go_wp2_with (refine wp_bin rfl _ _ _ _ _ rfl _ _ _ rfl rfl rfl ?_;intro r n hr)
  go_ret
  exact ⟨_,rfl,by simp only [bulgeF,gtk,ord_r0,h];rfl,(by repeat' (first | exact Below.refl _ _ | exact Nat.le_refl _ | refine below_drewN ?_ _ | refine Below.alloc ?_ (by simp <;> omega) _ | refine Below.setCell ?_ (by simp <;> omega) _ | refine below_step ?_ (by assumption)))⟩

set_option maxHeartbeats 400000 in
theorem near_any (a:Nat) (w:World) :
  Calls Tryz.prog 261 #[.float .f32 a] w (Ret .f32 (nearF (cn .f32 a)) w):=by
 go_enter Tryz.func261,Tryz.ntmps261
 go_wp2_with (first
  | (refine wp_entry rfl 255 _ _ rfl rfl _ ext_rte _ (run_whole _ _ _ _) ?_;rintro _ n ⟨r1,rfl,hr1⟩)
  | (refine wp_wid rfl _ _ _ rfl _ rfl ?_ ?_ fitsW_all ?_;exact some_f32;exact Tryz.underlying89;intro r n hr)
  | (refine wp_nar rfl _ _ _ rfl _ rfl ?_ ?_ ?_ ?_;exact some_f64;exact Tryz.underlying25;(simp only [*];exact fits_near _);intro r2 n hr2))
 go_ret
 exact ⟨_,rfl,by simp only [nearF, *],(by repeat' (first | exact Below.refl _ _ | exact Nat.le_refl _ | refine below_drewN ?_ _ | refine Below.alloc ?_ (by simp <;> omega) _ | refine Below.setCell ?_ (by simp <;> omega) _ | refine below_step ?_ (by assumption)))⟩

set_option maxHeartbeats 400000 in
theorem fold_any (a b:Nat) (w:World) :
  Calls Tryz.prog 262 #[.float .f32 a,.float .f32 b] w (Ret .f32 (foldF (cn .f32 a) (cn .f32 b)) w):=by
 go_enter Tryz.func262,Tryz.ntmps262
 go_wp2_with (first
  | (go_at_call 261;refine (near_any _ _).mono ?_;rintro _ w1 ⟨r1,rfl,hr1,hb1⟩)
  | (refine wp_bin rfl _ _ _ _ _ rfl _ _ _ rfl rfl rfl ?_;intro r n hr))
 go_ret
 exact ⟨_,rfl,by simp only [foldF, *];rfl,(by repeat' (first | exact Below.refl _ _ | exact Nat.le_refl _ | refine below_drewN ?_ _ | refine Below.alloc ?_ (by simp <;> omega) _ | refine Below.setCell ?_ (by simp <;> omega) _ | refine below_step ?_ (by assumption)))⟩

set_option maxHeartbeats 400000 in
theorem coords_any (a b c:Nat) (w:World) :
  Calls Tryz.prog 133 #[.agg #[.float .f32 a,.float .f32 b,.float .f32 c]] w
   (fun e w' => e = .returned (.agg #[.float .f32 a,.float .f32 b,.float .f32 c]) ∧ Below w.heap.size w w'):=by
 go_enter Tryz.func133,Tryz.ntmps133
 go_wp2_with fail
 exact bodyPost_ret (v:=.agg #[.float .f32 _,.float .f32 _,.float .f32 _]) (by simp [results,Tryz.results133,go_sem]) rfl ⟨rfl,(by repeat' (first | exact Below.refl _ _ | exact Nat.le_refl _ | refine below_drewN ?_ _ | refine Below.alloc ?_ (by simp <;> omega) _ | refine Below.setCell ?_ (by simp <;> omega) _ | refine below_step ?_ (by assumption)))⟩

set_option maxHeartbeats 400000 in
theorem vector_any (a b c:Nat) (w:World) :
  Calls Tryz.prog 227 #[.agg #[.float .f32 a,.float .f32 b,.float .f32 c]] w
   (fun e w' => e = .returned (.agg #[.float .f32 a,.float .f32 b,.float .f32 c]) ∧ Below w.heap.size w w'):=by
 go_enter Tryz.func227,Tryz.ntmps227
 go_wp2_with fail
 exact bodyPost_ret (v:=.agg #[.float .f32 _,.float .f32 _,.float .f32 _]) (by simp [results,Tryz.results227,go_sem]) rfl ⟨rfl,(by repeat' (first | exact Below.refl _ _ | exact Nat.le_refl _ | refine below_drewN ?_ _ | refine Below.alloc ?_ (by simp <;> omega) _ | refine Below.setCell ?_ (by simp <;> omega) _ | refine below_step ?_ (by assumption)))⟩

set_option maxHeartbeats 400000 in
theorem in_any (a b c:Int) (w:World) :
  Calls Tryz.prog 74 #[.int .i64 a,.int .i64 b,.int .i64 c] w (fun e w' => e = .returned (.bool (decide (b ≤ a) && decide (a ≤ c))) ∧ w = w'):=by
 by_cases h1:b ≤ a
 ·by_cases h2:a ≤ c
  all_goals
   go_enter Tryz.func74,Tryz.ntmps74
   go_wp2_with fail
   go_ret
   exact ⟨by simp [h1,h2],rfl⟩
 ·go_enter Tryz.func74,Tryz.ntmps74
  go_wp2_with fail
  go_ret
  exact ⟨by rw [decide_eq_false (by omega:¬ b ≤ a)];rfl,rfl⟩

set_option maxHeartbeats 400000 in
theorem fin_any (a:Nat) (w:World) :
  Calls Tryz.prog 150 #[.float .f32 a] w (fun e w' => e = .returned (.bool (eqk .f32 (B .sub (cn .f32 a) (cn .f32 a)) 0)) ∧ Below w.heap.size w w'):=by
 go_enter Tryz.func150,Tryz.ntmps150
 go_wp2_with (refine wp_bin rfl _ _ _ _ _ rfl _ _ _ rfl rfl rfl ?_;intro r n hr)
 go_ret
 exact ⟨by simp only [eqk,← hr,ord_r0];rfl,(by repeat' (first | exact Below.refl _ _ | exact Nat.le_refl _ | refine below_drewN ?_ _ | refine Below.alloc ?_ (by simp <;> omega) _ | refine Below.setCell ?_ (by simp <;> omega) _ | refine below_step ?_ (by assumption)))⟩
end Go.Proofs.YtbiacfkiakddiaaGreat

namespace Go.Proofs.YtbiacfkiakddiaaGreat
open Go.RowKit Go.Fl
/-- The reference's size: it takes -0 to +0. -/
def sizeS (x:Nat):Nat:=if lek .f32 x 0 then B .sub 0 x else x

set_option maxHeartbeats 400000 in
theorem s_size_any (a:Nat) (w:World) :
  Calls Tryz.prog 88 #[.float .f32 a] w (Ret .f32 (sizeS (cn .f32 a)) w):=by
 by_cases h:(FloatKind.f32.format.order a 0 == some .lt || FloatKind.f32.format.order a 0 == some .eq) = true
 ·go_enter Tryz.func88,Tryz.ntmps88
  go_wp2_with (refine wp_bin rfl _ _ _ _ _ rfl _ _ _ rfl rfl rfl ?_;intro r n hr)
  go_ret
  exact ⟨_,rfl,by simp only [sizeS,lek,ord_r0,h,if_true];rw [cn_zero] at hr;exact hr,(by repeat' (first | exact Below.refl _ _ | exact Nat.le_refl _ | refine below_drewN ?_ _ | refine Below.alloc ?_ (by simp <;> omega) _ | refine Below.setCell ?_ (by simp <;> omega) _ | refine below_step ?_ (by assumption)))⟩
 ·rw [Bool.not_eq_true] at h
  go_enter Tryz.func88,Tryz.ntmps88
  go_wp2_with fail
  go_ret
  exact ⟨_,rfl,by simp only [sizeS,lek,ord_r0,h];rfl,(by repeat' (first | exact Below.refl _ _ | exact Nat.le_refl _ | refine below_drewN ?_ _ | refine Below.alloc ?_ (by simp <;> omega) _ | refine Below.setCell ?_ (by simp <;> omega) _ | refine below_step ?_ (by assumption)))⟩

set_option maxHeartbeats 400000 in
theorem s_inner_any (a b c d e f:Nat) (w:World) :
  Calls Tryz.prog 165 #[.agg #[.float .f32 a,.float .f32 b,.float .f32 c],.agg #[.float .f32 d,.float .f32 e,.float .f32 f]] w
   (Ret .f32 (innerF (cn .f32 a) (cn .f32 b) (cn .f32 c) (cn .f32 d) (cn .f32 e) (cn .f32 f)) w):=by
 go_enter Tryz.func165,Tryz.ntmps165
 go_wp2_with (refine wp_bin rfl _ _ _ _ _ rfl _ _ _ rfl rfl rfl ?_;intro r n hr)
 go_ret
 exact ⟨_,rfl,by simp only [innerF, *],(by repeat' (first | exact Below.refl _ _ | exact Nat.le_refl _ | refine below_drewN ?_ _ | refine Below.alloc ?_ (by simp <;> omega) _ | refine Below.setCell ?_ (by simp <;> omega) _ | refine below_step ?_ (by assumption)))⟩

set_option maxHeartbeats 400000 in
theorem s_lesser_any (a b:Nat) (w:World) :
  Calls Tryz.prog 197 #[.float .f32 a,.float .f32 b] w (Ret .f32 (lesserF (cn .f32 a) (cn .f32 b)) w):=by
 by_cases h:(FloatKind.f32.format.order b a == some .lt) = true
 ·go_enter Tryz.func197,Tryz.ntmps197
  go_wp2_with fail
  go_ret
  exact ⟨_,rfl,by simp only [lesserF,ltk,order_cn,h,if_true],(by repeat' (first | exact Below.refl _ _ | exact Nat.le_refl _ | refine below_drewN ?_ _ | refine Below.alloc ?_ (by simp <;> omega) _ | refine Below.setCell ?_ (by simp <;> omega) _ | refine below_step ?_ (by assumption)))⟩
 ·rw [Bool.not_eq_true] at h
  go_enter Tryz.func197,Tryz.ntmps197
  go_wp2_with fail
  go_ret
  exact ⟨_,rfl,by simp only [lesserF,ltk,order_cn,h];rfl,(by repeat' (first | exact Below.refl _ _ | exact Nat.le_refl _ | refine below_drewN ?_ _ | refine Below.alloc ?_ (by simp <;> omega) _ | refine Below.setCell ?_ (by simp <;> omega) _ | refine below_step ?_ (by assumption)))⟩

set_option maxHeartbeats 400000 in
theorem s_greater_any (a b:Nat) (w:World) :
  Calls Tryz.prog 198 #[.float .f32 a,.float .f32 b] w (Ret .f32 (greaterF (cn .f32 a) (cn .f32 b)) w):=by
 by_cases h:(FloatKind.f32.format.order b a == some .gt) = true
 ·go_enter Tryz.func198,Tryz.ntmps198
  go_wp2_with fail
  go_ret
  exact ⟨_,rfl,by simp only [greaterF,gtk,order_cn,h,if_true],(by repeat' (first | exact Below.refl _ _ | exact Nat.le_refl _ | refine below_drewN ?_ _ | refine Below.alloc ?_ (by simp <;> omega) _ | refine Below.setCell ?_ (by simp <;> omega) _ | refine below_step ?_ (by assumption)))⟩
 ·rw [Bool.not_eq_true] at h
  go_enter Tryz.func198,Tryz.ntmps198
  go_wp2_with fail
  go_ret
  exact ⟨_,rfl,by simp only [greaterF,gtk,order_cn,h];rfl,(by repeat' (first | exact Below.refl _ _ | exact Nat.le_refl _ | refine below_drewN ?_ _ | refine Below.alloc ?_ (by simp <;> omega) _ | refine Below.setCell ?_ (by simp <;> omega) _ | refine below_step ?_ (by assumption)))⟩

set_option maxHeartbeats 400000 in
theorem s_less_any (a b c d e f:Nat) (w:World) :
  Calls Tryz.prog 167 #[.agg #[.float .f32 a,.float .f32 b,.float .f32 c],.agg #[.float .f32 d,.float .f32 e,.float .f32 f]] w
   (RetV (B .sub (cn .f32 a) (cn .f32 d)) (B .sub (cn .f32 b) (cn .f32 e)) (B .sub (cn .f32 c) (cn .f32 f)) w):=by
 go_enter Tryz.func167,Tryz.ntmps167
 go_wp2_with (refine wp_bin rfl _ _ _ _ _ rfl _ _ _ rfl rfl rfl ?_;intro r n hr)
 exact bodyPost_ret (v:=.agg #[.float .f32 _,.float .f32 _,.float .f32 _]) (by simp [results,Tryz.results167,go_sem];exact ⟨rfl,rfl,rfl⟩) rfl ⟨_,_,_,rfl,by assumption,by assumption,by assumption,(by repeat' (first | exact Below.refl _ _ | exact Nat.le_refl _ | refine below_drewN ?_ _ | refine Below.alloc ?_ (by simp <;> omega) _ | refine Below.setCell ?_ (by simp <;> omega) _ | refine below_step ?_ (by assumption)))⟩

set_option maxHeartbeats 400000 in
theorem s_fin_any (a:Nat) (w:World) :
  Calls Tryz.prog 149 #[.float .f32 a] w (fun e w' => e = .returned (.bool (eqk .f32 (B .sub (cn .f32 a) (cn .f32 a)) 0)) ∧ Below w.heap.size w w'):=by
 go_enter Tryz.func149,Tryz.ntmps149
 go_wp2_with (refine wp_bin rfl _ _ _ _ _ rfl _ _ _ rfl rfl rfl ?_;intro r n hr)
 go_ret
 exact ⟨by simp only [eqk,← hr,ord_r0];rfl,(by repeat' (first | exact Below.refl _ _ | exact Nat.le_refl _ | refine below_drewN ?_ _ | refine Below.alloc ?_ (by simp <;> omega) _ | refine Below.setCell ?_ (by simp <;> omega) _ | refine below_step ?_ (by assumption)))⟩
set_option maxHeartbeats 400000 in
theorem s_narrow_any (a:Nat) (w:World) (hf:fits (cn .f64 a)) :
  Calls Tryz.prog 253 #[.float .f64 a] w (Ret .f32 (nar (cn .f64 a)) w):=by
 go_enter Tryz.func253,Tryz.ntmps253
 go_wp2_with (refine wp_nar rfl _ _ _ rfl _ rfl ?_ ?_ ?_ ?_;exact some_f64;exact Tryz.underlying25;exact hf;intro r2 n hr2)
 go_ret
 exact ⟨_,rfl,hr2,(by repeat' (first | exact Below.refl _ _ | exact Nat.le_refl _ | refine below_drewN ?_ _ | refine Below.alloc ?_ (by simp <;> omega) _ | refine Below.setCell ?_ (by simp <;> omega) _ | refine below_step ?_ (by assumption)))⟩

set_option maxHeartbeats 400000 in
theorem s_root_any (a:Nat) (w:World) :
  Calls Tryz.prog 266 #[.float .f32 a] w (Ret .f32 (rootF (cn .f32 a)) w):=by
 go_enter Tryz.func266,Tryz.ntmps266
 go_wp2_with (first
  | (go_at_call 278;refine (sqrt_any _ _).mono ?_;rintro _ w1 ⟨r1,rfl,hr1,hb1⟩)
  | (go_at_call 253;refine (s_narrow_any _ _ (by simp only [*];exact fits_root _)).mono ?_;rintro _ w2 ⟨r2,rfl,hr2,hb2⟩)
  | (refine wp_wid rfl _ _ _ rfl _ rfl ?_ ?_ fitsW_all ?_;exact some_f32;exact Tryz.underlying89;intro r n hr))
 go_ret
 exact ⟨_,rfl,by simp only [rootF, *],(by repeat' (first | exact Below.refl _ _ | exact Nat.le_refl _ | refine below_drewN ?_ _ | refine Below.alloc ?_ (by simp <;> omega) _ | refine Below.setCell ?_ (by simp <;> omega) _ | refine below_step ?_ (by assumption)))⟩

set_option maxHeartbeats 400000 in
theorem s_long_any (a b c:Nat) (w:World) :
  Calls Tryz.prog 242 #[.agg #[.float .f32 a,.float .f32 b,.float .f32 c]] w (Ret .f32 (longF (cn .f32 a) (cn .f32 b) (cn .f32 c)) w):=by
 go_enter Tryz.func242,Tryz.ntmps242
 go_wp2_with (first
  | (go_at_call 165;refine (s_inner_any _ _ _ _ _ _ _).mono ?_;rintro _ w1 ⟨r1,rfl,hr1,hb1⟩)
  | (go_at_call 266;refine (s_root_any _ _).mono ?_;rintro _ w2 ⟨r2,rfl,hr2,hb2⟩))
 go_ret
 exact ⟨_,rfl,by simp only [longF, *],(by repeat' (first | exact Below.refl _ _ | exact Nat.le_refl _ | refine below_drewN ?_ _ | refine Below.alloc ?_ (by simp <;> omega) _ | refine Below.setCell ?_ (by simp <;> omega) _ | refine below_step ?_ (by assumption)))⟩

end Go.Proofs.YtbiacfkiakddiaaGreat

namespace Go.Proofs.YtbiacfkiakddiaaGreat
open Go.RowKit Go.Fl
def pickF (a b c:Nat) (i:Int):Nat:=if i = 0 then a else if i = 1 then b else c
def setX (a:Nat) (i:Int) (v:Nat):Nat:=if i = 0 then v else a
def setY (b:Nat) (i:Int) (v:Nat):Nat:=if i = 0 then b else if i = 1 then v else b
def setZ (c:Nat) (i:Int) (v:Nat):Nat:=if i = 0 then c else if i = 1 then c else v

set_option maxHeartbeats 400000 in
theorem s_pick_any (a b c:Nat) (i:Int) (w:World) :
  Calls Tryz.prog 142 #[V3 a b c,.int .i64 i] w (fun e w' => e = .returned (F1 (pickF a b c i)) ∧ Below w.heap.size w w'):=by
 by_cases h0:i = 0
 ·subst h0
  go_enter Tryz.func142,Tryz.ntmps142
  go_wp2_with fail
  go_ret
  exact ⟨rfl,(by repeat' (first | exact Below.refl _ _ | exact Nat.le_refl _ | refine below_drewN ?_ _ | refine Below.alloc ?_ (by simp <;> omega) _ | refine Below.setCell ?_ (by simp <;> omega) _ | refine below_step ?_ (by assumption)))⟩
 ·by_cases h1:i = 1
  ·subst h1
   go_enter Tryz.func142,Tryz.ntmps142
   go_wp2_with fail
   go_ret
   exact ⟨rfl,(by repeat' (first | exact Below.refl _ _ | exact Nat.le_refl _ | refine below_drewN ?_ _ | refine Below.alloc ?_ (by simp <;> omega) _ | refine Below.setCell ?_ (by simp <;> omega) _ | refine below_step ?_ (by assumption)))⟩
  ·have:pickF a b c i = c:=by simp [pickF,h0,h1]
   rw [this]
   go_enter Tryz.func142,Tryz.ntmps142
   go_wp2_with fail
   go_ret
   exact ⟨rfl,(by repeat' (first | exact Below.refl _ _ | exact Nat.le_refl _ | refine below_drewN ?_ _ | refine Below.alloc ?_ (by simp <;> omega) _ | refine Below.setCell ?_ (by simp <;> omega) _ | refine below_step ?_ (by assumption)))⟩

set_option maxHeartbeats 400000 in
theorem s_set_any (a b c v:Nat) (i:Int) (w:World) :
  Calls Tryz.prog 143 #[V3 a b c,.int .i64 i,F1 v] w (fun e w' => e = .returned (V3 (setX a i v) (setY b i v) (setZ c i v)) ∧ Below w.heap.size w w'):=by
 by_cases h0:i = 0
 ·subst h0
  go_enter Tryz.func143,Tryz.ntmps143
  go_wp2_with fail
  exact bodyPost_ret (v:=.agg #[F1 _,F1 _,F1 _]) (by simp [results,Tryz.results143,go_sem];first | done | exact ⟨rfl,rfl,rfl⟩) rfl ⟨rfl,(by repeat' (first | exact Below.refl _ _ | exact Nat.le_refl _ | refine below_drewN ?_ _ | refine Below.alloc ?_ (by simp <;> omega) _ | refine Below.setCell ?_ (by simp <;> omega) _ | refine below_step ?_ (by assumption)))⟩
 ·by_cases h1:i = 1
  ·subst h1
   go_enter Tryz.func143,Tryz.ntmps143
   go_wp2_with fail
   exact bodyPost_ret (v:=.agg #[F1 _,F1 _,F1 _]) (by simp [results,Tryz.results143,go_sem];first | done | exact ⟨rfl,rfl,rfl⟩) rfl ⟨rfl,(by repeat' (first | exact Below.refl _ _ | exact Nat.le_refl _ | refine below_drewN ?_ _ | refine Below.alloc ?_ (by simp <;> omega) _ | refine Below.setCell ?_ (by simp <;> omega) _ | refine below_step ?_ (by assumption)))⟩
  ·have e1:setX a i v = a:=by simp [setX,h0]
   have e2:setY b i v = b:=by simp [setY,h0,h1]
   have e3:setZ c i v = v:=by simp [setZ,h0,h1]
   rw [e1,e2,e3]
   clear e1 e2 e3
   go_enter Tryz.func143,Tryz.ntmps143
   go_wp2_with fail
   exact bodyPost_ret (v:=.agg #[F1 _,F1 _,F1 _]) (by simp [results,Tryz.results143,go_sem];first | done | exact ⟨rfl,rfl,rfl⟩) rfl ⟨rfl,(by repeat' (first | exact Below.refl _ _ | exact Nat.le_refl _ | refine below_drewN ?_ _ | refine Below.alloc ?_ (by simp <;> omega) _ | refine Below.setCell ?_ (by simp <;> omega) _ | refine below_step ?_ (by assumption)))⟩

def foldedS (c s:Nat):Nat:=sizeS (B .sub c (B .mul (B .mul 1073741824 s) (nearF (B .quo c (B .mul 1073741824 s)))))

end Go.Proofs.YtbiacfkiakddiaaGreat

namespace Go.Proofs.YtbiacfkiakddiaaGreat
open Go.RowKit Go.Fl
inductive PhiP:FuncId → Array Value → Value → Prop
 | less (a b c d e f x y z:Nat) (h1:cn .f32 x = B .sub (cn .f32 a) (cn .f32 d)) (h2:cn .f32 y = B .sub (cn .f32 b) (cn .f32 e)) (h3:cn .f32 z = B .sub (cn .f32 c) (cn .f32 f)):PhiP 167 #[V3 a b c,V3 d e f] (V3 x y z)
 | turn0 (x y z t a b c:Nat) (h1:cn .f32 a = cn .f32 x) (h2:cn .f32 b = turn1 (cn .f32 t) (cn .f32 y) (cn .f32 z)) (h3:cn .f32 c = turn2 (cn .f32 t) (cn .f32 y) (cn .f32 z)):PhiP 275 #[V3 x y z,.int .i64 0,F1 t] (V3 a b c)
 | turn1 (x y z t a b c:Nat) (h1:cn .f32 a = turn2 (cn .f32 t) (cn .f32 z) (cn .f32 x)) (h2:cn .f32 b = cn .f32 y) (h3:cn .f32 c = turn1 (cn .f32 t) (cn .f32 z) (cn .f32 x)):PhiP 275 #[V3 x y z,.int .i64 1,F1 t] (V3 a b c)
 | turn2 (x y z t a b c:Nat) (h1:cn .f32 a = turn1 (cn .f32 t) (cn .f32 x) (cn .f32 y)) (h2:cn .f32 b = turn2 (cn .f32 t) (cn .f32 x) (cn .f32 y)) (h3:cn .f32 c = cn .f32 z):PhiP 275 #[V3 x y z,.int .i64 2,F1 t] (V3 a b c)
 | pick (x y z:Nat) (i:Int):PhiP 142 #[V3 x y z,.int .i64 i] (F1 (pickF x y z i))
 | set (x y z:Nat) (i:Int) (v:Nat):PhiP 143 #[V3 x y z,.int .i64 i,F1 v] (V3 (setX x i v) (setY y i v) (setZ z i v))
 | size (a r:Nat) (h:cn .f32 r = sizeS (cn .f32 a)):PhiP 88 #[F1 a] (F1 r)
 | folded (a b r:Nat) (h:cn .f32 r = foldedS (cn .f32 a) (cn .f32 b)):PhiP 276 #[F1 a,F1 b] (F1 r)


end Go.Proofs.YtbiacfkiakddiaaGreat

namespace Go.Proofs.YtbiacfkiakddiaaGreat
open Go.RowKit Go.Fl
inductive PhiS:FuncId → Array Value → Value → Prop
 | long (a b c r:Nat) (h:cn .f32 r = longF (cn .f32 a) (cn .f32 b) (cn .f32 c)):PhiS 242 #[V3 a b c] (F1 r)
 | inner (a b c d e f r:Nat) (h:cn .f32 r = innerF (cn .f32 a) (cn .f32 b) (cn .f32 c) (cn .f32 d) (cn .f32 e) (cn .f32 f)):PhiS 165 #[V3 a b c,V3 d e f] (F1 r)
 | size (a r:Nat) (h:cn .f32 r = sizeS (cn .f32 a)):PhiS 88 #[F1 a] (F1 r)
 | lesser (a b r:Nat) (h:cn .f32 r = lesserF (cn .f32 a) (cn .f32 b)):PhiS 197 #[F1 a,F1 b] (F1 r)
 | greater (a b r:Nat) (h:cn .f32 r = greaterF (cn .f32 a) (cn .f32 b)):PhiS 198 #[F1 a,F1 b] (F1 r)
 | less (a b c d e f x y z:Nat) (h1:cn .f32 x = B .sub (cn .f32 a) (cn .f32 d)) (h2:cn .f32 y = B .sub (cn .f32 b) (cn .f32 e)) (h3:cn .f32 z = B .sub (cn .f32 c) (cn .f32 f)):PhiS 167 #[V3 a b c,V3 d e f] (V3 x y z)

end Go.Proofs.YtbiacfkiakddiaaGreat

namespace Go.Proofs.YtbiacfkiakddiaaGreat
open Go.RowKit Go.Fl
structure PN where
 kind:Int
 a:Int
 b:Int
 nums:List Nat

/-- A node lies at a place. -/
structure NodeIn (n:PN) (bb o:Nat) (w:World):Prop where
 kind:w.cell? ⟨bb,o,none⟩ = some (.int .i64 n.kind)
 a:w.cell? ⟨bb,o + 1,none⟩ = some (.int .i64 n.a)
 b:w.cell? ⟨bb,o + 2,none⟩ = some (.int .i64 n.b)
 nums:∃ bp bv ov cap,w.cell? ⟨bb,o + 3,none⟩ = some (.slice bp n.nums.length cap) ∧ (n.nums ≠ [] → bp = some ⟨bv,ov,none⟩) ∧ ∀ i (h:i < n.nums.length),w.cell? ⟨bv,ov + i,none⟩ = some (.float .f32 n.nums[i])

theorem NodeIn.keep {n:PN} {b o:Nat} {w w':World} (h:NodeIn n b o w) (hb:Below w.heap.size w w'):NodeIn n b o w':=by
 have l:=fun a v (h:w.cell? a = some v) => (show w'.cell? a = some v by rw [lift hb a (by rw [h];rfl)];exact h)
 obtain ⟨bp,bv,ov,cap,h1,h2,h3⟩:=h.nums
 exact ⟨l _ _ h.kind,l _ _ h.a,l _ _ h.b,bp,bv,ov,cap,l _ _ h1,h2,fun i hi => l _ _ (h3 i hi)⟩

structure PN.ok (n:PN):Prop where
 kind:0 ≤ n.kind ∧ n.kind ≤ 16
 nums:n.nums.length = (ruleF n.kind).1
 axis:(ruleF n.kind).2.1 = 2 ∨ n.b = 0 ∨ ((ruleF n.kind).2.2.1 = true ∧ 0 ≤ n.b ∧ n.b ≤ 2)

def leafF (n:PN) (x y z:Nat):Nat :=
 match n.kind,n.nums.map (cn .f32) with
 | 0,[r] => ballF x y z r
 | 1,[u,v,t] => boxF x y z u v t
 | 2,[h,r] => tubeF x y z h r
 | 3,[u,r] => ringF x y z u r
 | 4,[a,b,c,d] => planeF x y z a b c d
 | _,_ => 0
def mixF (n:PN) (x y:Nat):Nat :=
 match n.kind,n.nums.map (cn .f32) with
 | 5,_ => lesserF x y
 | 6,_ => greaterF x y
 | 7,_ => greaterF x (negc .f32 y)
 | 8,[k] => smoothF x y k
 | 10,[r] => B .mul x r
 | 15,[r] => B .sub x r
 | 16,[r] => B .sub (sizeF x) r
 | _,_ => x
def pointF (n:PN) (p:Nat × Nat × Nat):Nat × Nat × Nat :=
 match n.kind,n.b,n.nums.map (cn .f32) with
 | 9,_,[a,b,c] => (B .sub p.1 a,B .sub p.2.1 b,B .sub p.2.2 c)
 | 10,_,[r] => (B .quo p.1 r,B .quo p.2.1 r,B .quo p.2.2 r)
 | 11,_,[a,b,c] => (B .quo p.1 a,B .quo p.2.1 b,B .quo p.2.2 c)
 | 12,0,[t] => (p.1,turn1 t p.2.1 p.2.2,turn2 t p.2.1 p.2.2)
 | 12,1,[t] => (turn2 t p.2.2 p.1,p.2.1,turn1 t p.2.2 p.1)
 | 12,2,[t] => (turn1 t p.1 p.2.1,turn2 t p.1 p.2.1,p.2.2)
 | 13,0,_ => (sizeF p.1,p.2.1,p.2.2)
 | 13,1,_ => (p.1,sizeF p.2.1,p.2.2)
 | 13,2,_ => (p.1,p.2.1,sizeF p.2.2)
 | 14,0,[s] => (foldedF p.1 s,p.2.1,p.2.2)
 | 14,1,[s] => (p.1,foldedF p.2.1 s,p.2.2)
 | 14,2,[s] => (p.1,p.2.1,foldedF p.2.2 s)
 | _,_,_ => p

theorem len1 {l:List Nat} (h:l.length = 1):∃ a,l = [a]:=by
 match l,h with
 | [a],_ => exact ⟨a,rfl⟩
theorem len2 {l:List Nat} (h:l.length = 2):∃ a b,l = [a,b]:=by
 match l,h with
 | [a,b],_ => exact ⟨a,b,rfl⟩
theorem len3 {l:List Nat} (h:l.length = 3):∃ a b c,l = [a,b,c]:=by
 match l,h with
 | [a,b,c],_ => exact ⟨a,b,c,rfl⟩
theorem len4 {l:List Nat} (h:l.length = 4):∃ a b c d,l = [a,b,c,d]:=by
 match l,h with
 | [a,b,c,d],_ => exact ⟨a,b,c,d,rfl⟩

theorem kof {l:List (Addr × Value)} {w:World} (h:∀ p ∈ l,w.cell? p.1 = some p.2):Kept l [] w:=⟨h,fun _ h => by cases h⟩

end Go.Proofs.YtbiacfkiakddiaaGreat

namespace Go.Proofs.YtbiacfkiakddiaaGreat
open Go.RowKit Go.Fl Go.ChangeShapes Go.WideShapes Go.ChangeAt
theorem okW_int {P:Program} {w:World} {r:Reach} {b0:Nat} {t:TypeId} {k:IntKind} {v:Value} (ht:P.underlying t = some (.int k)) (h:Value.okWide P w r b0 t v):∃ b,v = .int k b:=by
 simp only [Value.okWide,ht,Cell.okWide] at h
 cases v <;> simp_all [Cell.ok]

theorem trodAll_3 {H:Type} {enc:TypeId × Value → H} {P:Program} {w:World} {base:Nat} {spare:Nat → Bool} {held:Bool} {t0 t1 t2:TypeId} {args:Array Value} {ds:List (DataW H)} {ps:List MemPlace} (h:DataW.TrodAll enc P w base spare held [t0,t1,t2] args.toList ds ps) :
  ∃ v0 v1 v2 d0 d1 d2 p0 p1 p2,args = #[v0,v1,v2] ∧ ds = [d0,d1,d2] ∧ ps = p0 ++ (p1 ++ (p2 ++ [])) ∧ DataW.Trod enc P w base spare held t0 v0 d0 p0 ∧ DataW.Trod enc P w base spare held t1 v1 d1 p1 ∧ DataW.Trod enc P w base spare held t2 v2 d2 p2:=by
 obtain ⟨v0,vs0,d0,ds0,p0,q0,hargs,rfl,rfl,hd0,hrest⟩:=trodAll_cons h
 obtain ⟨v1,vs1,d1,ds1,p1,q1,rfl,rfl,rfl,hd1,hrest⟩:=trodAll_cons hrest
 obtain ⟨v2,vs2,d2,ds2,p2,q2,rfl,rfl,rfl,hd2,hrest⟩:=trodAll_cons hrest
 obtain ⟨rfl,rfl,rfl⟩:=trodAll_nil hrest
 exact ⟨v0,v1,v2,d0,d1,d2,p0,p1,p2,by cases args;simp_all,rfl,rfl,hd0,hd1,hd2⟩

end Go.Proofs.YtbiacfkiakddiaaGreat
