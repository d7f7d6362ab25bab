/-
 Lemmas: Phi,V24,W1,S1,S2.
-/
import Derived.Test.YtbiacfkiakddiaaGreatOai
set_option linter.unusedVariables false
set_option linter.unusedSimpArgs false
namespace Go.Proofs.YtbiacfkiakddiaaGreat
open Go.RowKit Go.Fl
abbrev V3 (a b c:Nat):Value:=.agg #[.float .f32 a,.float .f32 b,.float .f32 c]
abbrev F1 (a:Nat):Value:=.float .f32 a

inductive PhiF:FuncId → Array Value → Value → Prop
 | long (a b c r:Nat) (h:cn .f32 r = longF (cn .f32 a) (cn .f32 b) (cn .f32 c)):PhiF 250 #[V3 a b c] (F1 r)
 | inner (a b c d e f r:Nat) (h:cn .f32 r = innerF (cn .f32 a) (cn .f32 b) (cn .f32 c) (cn .f32 d) (cn .f32 e) (cn .f32 f)):PhiF 176 #[V3 a b c,V3 d e f] (F1 r)
 | size (a r:Nat) (h:cn .f32 r = sizeF (cn .f32 a)):PhiF 90 #[F1 a] (F1 r)
 | lesser (a b r:Nat) (h:cn .f32 r = lesserF (cn .f32 a) (cn .f32 b)):PhiF 221 #[F1 a,F1 b] (F1 r)
 | greater (a b r:Nat) (h:cn .f32 r = greaterF (cn .f32 a) (cn .f32 b)):PhiF 222 #[F1 a,F1 b] (F1 r)
 | short (a b r:Nat) (h:cn .f32 r = shortF (cn .f32 a) (cn .f32 b)):PhiF 219 #[F1 a,F1 b] (F1 r)
 | bulge (a b r:Nat) (h:cn .f32 r = bulgeF (cn .f32 a) (cn .f32 b)):PhiF 224 #[F1 a,F1 b] (F1 r)
 | fold (a b r:Nat) (h:cn .f32 r = foldF (cn .f32 a) (cn .f32 b)):PhiF 262 #[F1 a,F1 b] (F1 r)
 | coords (a b c:Nat):PhiF 133 #[V3 a b c] (V3 a b c)
 | vector (a b c:Nat):PhiF 227 #[V3 a b c] (V3 a b c)
 | less (a b c d e f x y z:Nat) (h1:cn .f32 x = B .sub (cn .f32 a) (cn .f32 d)) (h2:cn .f32 y = B .sub (cn .f32 b) (cn .f32 e)) (h3:cn .f32 z = B .sub (cn .f32 c) (cn .f32 f)):PhiF 178 #[V3 a b c,V3 d e f] (V3 x y z)
 | sine (a r:Nat) (h:cn .f32 r = sineF (cn .f32 a)):PhiF 211 #[F1 a] (F1 r)
end Go.Proofs.YtbiacfkiakddiaaGreat

namespace Go.Proofs.YtbiacfkiakddiaaGreat
open Go.RowKit Go.Fl
/-- A list of ranges. -/
def comp2 (r:Nat × Nat) (j:Nat):Value:=if j = 0 then F1 r.1 else F1 r.2
def vec2 (n:Nat) (O:Nat → Nat × Nat):Array Value:=Array.ofFn (n:=2 * n) fun k => comp2 (O (k.val / 2)) (k.val % 2)
theorem vec2_at {w:World} {g n:Nat} {O:Nat → Nat × Nat} {T:TypeId} (h:w.heap[g]? = some (.cells (vec2 n O) T (0,0))) (i:Nat) (hi:i < n) :
  w.cell? ⟨g,i * 2,none⟩ = some (F1 (O i).1) ∧ w.cell? ⟨g,i * 2 + 1,none⟩ = some (F1 (O i).2):=by
 have key:∀ j,j < 2 → w.cell? ⟨g,i * 2 + j,none⟩ = some (comp2 (O i) j):=fun j hj => by
  have hlt:i * 2 + j < 2 * n:=by omega
  have e1:(i * 2 + j) / 2 = i:=by omega
  have e2:(i * 2 + j) % 2 = j:=by omega
  simp [World.cell?,h,vec2,hlt,e1,e2]
 exact ⟨key 0 (by omega),key 1 (by omega)⟩
end Go.Proofs.YtbiacfkiakddiaaGreat

namespace Go.Proofs.YtbiacfkiakddiaaGreat
open Go.RowKit Go.Fl
set_option maxHeartbeats 400000 in
theorem inner_any (a b c d e f:Nat) (w:World) :
  Calls Tryz.prog 176 #[.agg #[.float .f32 a,.float .f32 b,.float .f32 c],.agg #[.float .f32 d,.float .f32 e,.float .f32 f]] w
   (Ret .f32 (innerF (cn .f32 a) (cn .f32 b) (cn .f32 c) (cn .f32 d) (cn .f32 e) (cn .f32 f)) w):=by
 go_enter Tryz.func176,Tryz.ntmps176
 go_wp2_with (refine wp_bin rfl _ _ _ _ _ rfl _ _ _ rfl rfl rfl ?_;intro r n hr)
 go_ret
 exact ⟨_,rfl,by simp only [innerF, *],(by repeat' (first | exact Below.refl _ _ | exact Nat.le_refl _ | refine below_drewN ?_ _ | refine Below.alloc ?_ (by simp <;> omega) _ | refine Below.setCell ?_ (by simp <;> omega) _ | refine below_step ?_ (by assumption)))⟩

set_option maxHeartbeats 400000 in
theorem sqrt_any (a:Nat) (w:World) :
  Calls Tryz.prog 278 #[.float .f64 a] w (Ret .f64 (sqr (cn .f64 a)) w):=by
 go_enter Tryz.func278,Tryz.ntmps278
 go_wp2_with (refine wp_entry rfl 284 _ _ rfl rfl _ ext_sqrt _ (run_sqrt _ _) ?_;rintro _ n ⟨r,rfl,hr⟩)
 go_ret
 exact ⟨_,rfl,hr,(by repeat' (first | exact Below.refl _ _ | exact Nat.le_refl _ | refine below_drewN ?_ _ | refine Below.alloc ?_ (by simp <;> omega) _ | refine Below.setCell ?_ (by simp <;> omega) _ | refine below_step ?_ (by assumption)))⟩

set_option maxHeartbeats 400000 in
theorem size_any (a:Nat) (w:World) :
  Calls Tryz.prog 90 #[.float .f32 a] w (Ret .f32 (sizeF (cn .f32 a)) w):=by
 by_cases h:(FloatKind.f32.format.order a 0 == some .lt) = true
 ·go_enter Tryz.func90,Tryz.ntmps90
  go_wp2_with fail
  go_ret
  exact ⟨_,rfl,by simp only [sizeF,ltk,ord_r0,h,if_true,negc_cn],(by repeat' (first | exact Below.refl _ _ | exact Nat.le_refl _ | refine below_drewN ?_ _ | refine Below.alloc ?_ (by simp <;> omega) _ | refine Below.setCell ?_ (by simp <;> omega) _ | refine below_step ?_ (by assumption)))⟩
 ·rw [Bool.not_eq_true] at h
  go_enter Tryz.func90,Tryz.ntmps90
  go_wp2_with fail
  go_ret
  exact ⟨_,rfl,by simp only [sizeF,ltk,ord_r0,h];rfl,(by repeat' (first | exact Below.refl _ _ | exact Nat.le_refl _ | refine below_drewN ?_ _ | refine Below.alloc ?_ (by simp <;> omega) _ | refine Below.setCell ?_ (by simp <;> omega) _ | refine below_step ?_ (by assumption)))⟩

set_option maxHeartbeats 400000 in
theorem lesser_any (a b:Nat) (w:World) :
  Calls Tryz.prog 221 #[.float .f32 a,.float .f32 b] w (Ret .f32 (lesserF (cn .f32 a) (cn .f32 b)) w):=by
 by_cases h:(FloatKind.f32.format.order b a == some .lt) = true
 ·go_enter Tryz.func221,Tryz.ntmps221
  go_wp2_with fail
  go_ret
  exact ⟨_,rfl,by simp only [lesserF,ltk,order_cn,h,if_true],(by repeat' (first | exact Below.refl _ _ | exact Nat.le_refl _ | refine below_drewN ?_ _ | refine Below.alloc ?_ (by simp <;> omega) _ | refine Below.setCell ?_ (by simp <;> omega) _ | refine below_step ?_ (by assumption)))⟩
 ·rw [Bool.not_eq_true] at h
  go_enter Tryz.func221,Tryz.ntmps221
  go_wp2_with fail
  go_ret
  exact ⟨_,rfl,by simp only [lesserF,ltk,order_cn,h];rfl,(by repeat' (first | exact Below.refl _ _ | exact Nat.le_refl _ | refine below_drewN ?_ _ | refine Below.alloc ?_ (by simp <;> omega) _ | refine Below.setCell ?_ (by simp <;> omega) _ | refine below_step ?_ (by assumption)))⟩

set_option maxHeartbeats 400000 in
theorem greater_any (a b:Nat) (w:World) :
  Calls Tryz.prog 222 #[.float .f32 a,.float .f32 b] w (Ret .f32 (greaterF (cn .f32 a) (cn .f32 b)) w):=by
 by_cases h:(FloatKind.f32.format.order b a == some .gt) = true
 ·go_enter Tryz.func222,Tryz.ntmps222
  go_wp2_with fail
  go_ret
  exact ⟨_,rfl,by simp only [greaterF,gtk,order_cn,h,if_true],(by repeat' (first | exact Below.refl _ _ | exact Nat.le_refl _ | refine below_drewN ?_ _ | refine Below.alloc ?_ (by simp <;> omega) _ | refine Below.setCell ?_ (by simp <;> omega) _ | refine below_step ?_ (by assumption)))⟩
 ·rw [Bool.not_eq_true] at h
  go_enter Tryz.func222,Tryz.ntmps222
  go_wp2_with fail
  go_ret
  exact ⟨_,rfl,by simp only [greaterF,gtk,order_cn,h];rfl,(by repeat' (first | exact Below.refl _ _ | exact Nat.le_refl _ | refine below_drewN ?_ _ | refine Below.alloc ?_ (by simp <;> omega) _ | refine Below.setCell ?_ (by simp <;> omega) _ | refine below_step ?_ (by assumption)))⟩

set_option maxHeartbeats 400000 in
theorem less_any (a b c d e f:Nat) (w:World) :
  Calls Tryz.prog 178 #[.agg #[.float .f32 a,.float .f32 b,.float .f32 c],.agg #[.float .f32 d,.float .f32 e,.float .f32 f]] w
   (RetV (B .sub (cn .f32 a) (cn .f32 d)) (B .sub (cn .f32 b) (cn .f32 e)) (B .sub (cn .f32 c) (cn .f32 f)) w):=by
 go_enter Tryz.func178,Tryz.ntmps178
 go_wp2_with (refine wp_bin rfl _ _ _ _ _ rfl _ _ _ rfl rfl rfl ?_;intro r n hr)
 exact bodyPost_ret (v:=.agg #[.float .f32 _,.float .f32 _,.float .f32 _]) (by simp [results,Tryz.results178,go_sem];exact ⟨rfl,rfl,rfl⟩) rfl ⟨_,_,_,rfl,by assumption,by assumption,by assumption,(by repeat' (first | exact Below.refl _ _ | exact Nat.le_refl _ | refine below_drewN ?_ _ | refine Below.alloc ?_ (by simp <;> omega) _ | refine Below.setCell ?_ (by simp <;> omega) _ | refine below_step ?_ (by assumption)))⟩

set_option maxHeartbeats 400000 in
theorem short_any (a b:Nat) (w:World) :
  Calls Tryz.prog 219 #[.float .f32 a,.float .f32 b] w (Ret .f32 (shortF (cn .f32 a) (cn .f32 b)) w):=by
 go_enter Tryz.func219,Tryz.ntmps219
 go_wp2_with (first
  | (go_at_call 222;refine (greater_any _ _ _).mono ?_;rintro _ w1 ⟨r1,rfl,hr1,hb1⟩)
  | (go_at_call 221;refine (lesser_any _ _ _).mono ?_;rintro _ w2 ⟨r2,rfl,hr2,hb2⟩)
  | (refine wp_bin rfl _ _ _ _ _ rfl _ _ _ rfl rfl rfl ?_;intro r n hr))
 go_ret
 rw [cn_zero] at hr1
 exact ⟨_,rfl,by simp only [shortF, *],(by repeat' (first | exact Below.refl _ _ | exact Nat.le_refl _ | refine below_drewN ?_ _ | refine Below.alloc ?_ (by simp <;> omega) _ | refine Below.setCell ?_ (by simp <;> omega) _ | refine below_step ?_ (by assumption)))⟩

set_option maxHeartbeats 400000 in
theorem root_any (a:Nat) (w:World) :
  Calls Tryz.prog 269 #[.float .f32 a] w (Ret .f32 (rootF (cn .f32 a)) w):=by
 go_enter Tryz.func269,Tryz.ntmps269
 go_wp2_with (first
  | (go_at_call 278;refine (sqrt_any _ _).mono ?_;rintro _ w1 ⟨r1,rfl,hr1,hb1⟩)
  | (refine wp_wid rfl _ _ _ rfl _ rfl ?_ ?_ fitsW_all ?_;exact some_f32;exact Tryz.underlying89;intro r n hr)
  | (refine wp_nar rfl _ _ _ rfl _ rfl ?_ ?_ ?_ ?_;exact some_f64;exact Tryz.underlying25;(simp only [*];exact fits_root _);intro r2 n hr2))
 go_ret
 exact ⟨_,rfl,by simp only [rootF, *],(by repeat' (first | exact Below.refl _ _ | exact Nat.le_refl _ | refine below_drewN ?_ _ | refine Below.alloc ?_ (by simp <;> omega) _ | refine Below.setCell ?_ (by simp <;> omega) _ | refine below_step ?_ (by assumption)))⟩

set_option maxHeartbeats 400000 in
theorem long_any (a b c:Nat) (w:World) :
  Calls Tryz.prog 250 #[.agg #[.float .f32 a,.float .f32 b,.float .f32 c]] w (Ret .f32 (longF (cn .f32 a) (cn .f32 b) (cn .f32 c)) w):=by
 go_enter Tryz.func250,Tryz.ntmps250
 go_wp2_with (first
  | (go_at_call 176;refine (inner_any _ _ _ _ _ _ _).mono ?_;rintro _ w1 ⟨r1,rfl,hr1,hb1⟩)
  | (go_at_call 269;refine (root_any _ _).mono ?_;rintro _ w2 ⟨r2,rfl,hr2,hb2⟩))
 go_ret
 exact ⟨_,rfl,by simp only [longF, *],(by repeat' (first | exact Below.refl _ _ | exact Nat.le_refl _ | refine below_drewN ?_ _ | refine Below.alloc ?_ (by simp <;> omega) _ | refine Below.setCell ?_ (by simp <;> omega) _ | refine below_step ?_ (by assumption)))⟩

set_option maxHeartbeats 400000 in
theorem bulge_any (a b:Nat) (w:World) :
  Calls Tryz.prog 224 #[.float .f32 a,.float .f32 b] w (Ret .f32 (bulgeF (cn .f32 a) (cn .f32 b)) w):=by
 by_cases h:(FloatKind.f32.format.order a 0 == some .gt) = true
 ·go_enter Tryz.func224,Tryz.ntmps224
  go_wp2_with (refine wp_bin rfl _ _ _ _ _ rfl _ _ _ rfl rfl rfl ?_;intro r n hr)
  go_ret
  exact ⟨_,rfl,by simp only [bulgeF,gtk,ord_r0,h,if_true];simp only [*];rfl,(by repeat' (first | exact Below.refl _ _ | exact Nat.le_refl _ | refine below_drewN ?_ _ | refine Below.alloc ?_ (by simp <;> omega) _ | refine Below.setCell ?_ (by simp <;> omega) _ | refine below_step ?_ (by assumption)))⟩
 ·rw [Bool.not_eq_true] at h
  go_enter Tryz.func224,Tryz.ntmps224
  go_wp2_with (refine wp_bin rfl _ _ _ _ _ rfl _ _ _ rfl rfl rfl ?_;intro r n hr)
  go_ret
  exact ⟨_,rfl,by simp only [bulgeF,gtk,ord_r0,h];rfl,(by repeat' (first | exact Below.refl _ _ | exact Nat.le_refl _ | refine below_drewN ?_ _ | refine Below.alloc ?_ (by simp <;> omega) _ | refine Below.setCell ?_ (by simp <;> omega) _ | refine below_step ?_ (by assumption)))⟩

set_option maxHeartbeats 400000 in
theorem near_any (a:Nat) (w:World) :
  Calls Tryz.prog 261 #[.float .f32 a] w (Ret .f32 (nearF (cn .f32 a)) w):=by
 go_enter Tryz.func261,Tryz.ntmps261
 go_wp2_with (first
  | (refine wp_entry rfl 255 _ _ rfl rfl _ ext_rte _ (run_whole _ _ _ _) ?_;rintro _ n ⟨r1,rfl,hr1⟩)
  | (refine wp_wid rfl _ _ _ rfl _ rfl ?_ ?_ fitsW_all ?_;exact some_f32;exact Tryz.underlying89;intro r n hr)
  | (refine wp_nar rfl _ _ _ rfl _ rfl ?_ ?_ ?_ ?_;exact some_f64;exact Tryz.underlying25;(simp only [*];exact fits_near _);intro r2 n hr2))
 go_ret
 exact ⟨_,rfl,by simp only [nearF, *],(by repeat' (first | exact Below.refl _ _ | exact Nat.le_refl _ | refine below_drewN ?_ _ | refine Below.alloc ?_ (by simp <;> omega) _ | refine Below.setCell ?_ (by simp <;> omega) _ | refine below_step ?_ (by assumption)))⟩

set_option maxHeartbeats 400000 in
theorem fold_any (a b:Nat) (w:World) :
  Calls Tryz.prog 262 #[.float .f32 a,.float .f32 b] w (Ret .f32 (foldF (cn .f32 a) (cn .f32 b)) w):=by
 go_enter Tryz.func262,Tryz.ntmps262
 go_wp2_with (first
  | (go_at_call 261;refine (near_any _ _).mono ?_;rintro _ w1 ⟨r1,rfl,hr1,hb1⟩)
  | (refine wp_bin rfl _ _ _ _ _ rfl _ _ _ rfl rfl rfl ?_;intro r n hr))
 go_ret
 exact ⟨_,rfl,by simp only [foldF, *];rfl,(by repeat' (first | exact Below.refl _ _ | exact Nat.le_refl _ | refine below_drewN ?_ _ | refine Below.alloc ?_ (by simp <;> omega) _ | refine Below.setCell ?_ (by simp <;> omega) _ | refine below_step ?_ (by assumption)))⟩

set_option maxHeartbeats 400000 in
theorem coords_any (a b c:Nat) (w:World) :
  Calls Tryz.prog 133 #[.agg #[.float .f32 a,.float .f32 b,.float .f32 c]] w
   (fun e w' => e = .returned (.agg #[.float .f32 a,.float .f32 b,.float .f32 c]) ∧ Below w.heap.size w w'):=by
 go_enter Tryz.func133,Tryz.ntmps133
 go_wp2_with fail
 exact bodyPost_ret (v:=.agg #[.float .f32 _,.float .f32 _,.float .f32 _]) (by simp [results,Tryz.results133,go_sem]) rfl ⟨rfl,(by repeat' (first | exact Below.refl _ _ | exact Nat.le_refl _ | refine below_drewN ?_ _ | refine Below.alloc ?_ (by simp <;> omega) _ | refine Below.setCell ?_ (by simp <;> omega) _ | refine below_step ?_ (by assumption)))⟩

set_option maxHeartbeats 400000 in
theorem vector_any (a b c:Nat) (w:World) :
  Calls Tryz.prog 227 #[.agg #[.float .f32 a,.float .f32 b,.float .f32 c]] w
   (fun e w' => e = .returned (.agg #[.float .f32 a,.float .f32 b,.float .f32 c]) ∧ Below w.heap.size w w'):=by
 go_enter Tryz.func227,Tryz.ntmps227
 go_wp2_with fail
 exact bodyPost_ret (v:=.agg #[.float .f32 _,.float .f32 _,.float .f32 _]) (by simp [results,Tryz.results227,go_sem]) rfl ⟨rfl,(by repeat' (first | exact Below.refl _ _ | exact Nat.le_refl _ | refine below_drewN ?_ _ | refine Below.alloc ?_ (by simp <;> omega) _ | refine Below.setCell ?_ (by simp <;> omega) _ | refine below_step ?_ (by assumption)))⟩

set_option maxHeartbeats 400000 in
theorem in_any (a b c:Int) (w:World) :
  Calls Tryz.prog 74 #[.int .i64 a,.int .i64 b,.int .i64 c] w (fun e w' => e = .returned (.bool (decide (b ≤ a) && decide (a ≤ c))) ∧ w = w'):=by
 by_cases h1:b ≤ a
 ·by_cases h2:a ≤ c
  all_goals
   go_enter Tryz.func74,Tryz.ntmps74
   go_wp2_with fail
   go_ret
   exact ⟨by simp [h1,h2],rfl⟩
 ·go_enter Tryz.func74,Tryz.ntmps74
  go_wp2_with fail
  go_ret
  exact ⟨by rw [decide_eq_false (by omega:¬ b ≤ a)];rfl,rfl⟩

set_option maxHeartbeats 400000 in
theorem fin_any (a:Nat) (w:World) :
  Calls Tryz.prog 150 #[.float .f32 a] w (fun e w' => e = .returned (.bool (eqk .f32 (B .sub (cn .f32 a) (cn .f32 a)) 0)) ∧ Below w.heap.size w w'):=by
 go_enter Tryz.func150,Tryz.ntmps150
 go_wp2_with (refine wp_bin rfl _ _ _ _ _ rfl _ _ _ rfl rfl rfl ?_;intro r n hr)
 go_ret
 exact ⟨by simp only [eqk,← hr,ord_r0];rfl,(by repeat' (first | exact Below.refl _ _ | exact Nat.le_refl _ | refine below_drewN ?_ _ | refine Below.alloc ?_ (by simp <;> omega) _ | refine Below.setCell ?_ (by simp <;> omega) _ | refine below_step ?_ (by assumption)))⟩
end Go.Proofs.YtbiacfkiakddiaaGreat

namespace Go.Proofs.YtbiacfkiakddiaaGreat
open Go.RowKit Go.Fl
/-- The reference's size: it takes -0 to +0. -/
def sizeS (x:Nat):Nat:=if lek .f32 x 0 then B .sub 0 x else x

set_option maxHeartbeats 400000 in
theorem s_size_any (a:Nat) (w:World) :
  Calls Tryz.prog 88 #[.float .f32 a] w (Ret .f32 (sizeS (cn .f32 a)) w):=by
 by_cases h:(FloatKind.f32.format.order a 0 == some .lt || FloatKind.f32.format.order a 0 == some .eq) = true
 ·go_enter Tryz.func88,Tryz.ntmps88
  go_wp2_with (refine wp_bin rfl _ _ _ _ _ rfl _ _ _ rfl rfl rfl ?_;intro r n hr)
  go_ret
  exact ⟨_,rfl,by simp only [sizeS,lek,ord_r0,h,if_true];rw [cn_zero] at hr;exact hr,(by repeat' (first | exact Below.refl _ _ | exact Nat.le_refl _ | refine below_drewN ?_ _ | refine Below.alloc ?_ (by simp <;> omega) _ | refine Below.setCell ?_ (by simp <;> omega) _ | refine below_step ?_ (by assumption)))⟩
 ·rw [Bool.not_eq_true] at h
  go_enter Tryz.func88,Tryz.ntmps88
  go_wp2_with fail
  go_ret
  exact ⟨_,rfl,by simp only [sizeS,lek,ord_r0,h];rfl,(by repeat' (first | exact Below.refl _ _ | exact Nat.le_refl _ | refine below_drewN ?_ _ | refine Below.alloc ?_ (by simp <;> omega) _ | refine Below.setCell ?_ (by simp <;> omega) _ | refine below_step ?_ (by assumption)))⟩

set_option maxHeartbeats 400000 in
theorem s_inner_any (a b c d e f:Nat) (w:World) :
  Calls Tryz.prog 165 #[.agg #[.float .f32 a,.float .f32 b,.float .f32 c],.agg #[.float .f32 d,.float .f32 e,.float .f32 f]] w
   (Ret .f32 (innerF (cn .f32 a) (cn .f32 b) (cn .f32 c) (cn .f32 d) (cn .f32 e) (cn .f32 f)) w):=by
 go_enter Tryz.func165,Tryz.ntmps165
 go_wp2_with (refine wp_bin rfl _ _ _ _ _ rfl _ _ _ rfl rfl rfl ?_;intro r n hr)
 go_ret
 exact ⟨_,rfl,by simp only [innerF, *],(by repeat' (first | exact Below.refl _ _ | exact Nat.le_refl _ | refine below_drewN ?_ _ | refine Below.alloc ?_ (by simp <;> omega) _ | refine Below.setCell ?_ (by simp <;> omega) _ | refine below_step ?_ (by assumption)))⟩

set_option maxHeartbeats 400000 in
theorem s_lesser_any (a b:Nat) (w:World) :
  Calls Tryz.prog 197 #[.float .f32 a,.float .f32 b] w (Ret .f32 (lesserF (cn .f32 a) (cn .f32 b)) w):=by
 by_cases h:(FloatKind.f32.format.order b a == some .lt) = true
 ·go_enter Tryz.func197,Tryz.ntmps197
  go_wp2_with fail
  go_ret
  exact ⟨_,rfl,by simp only [lesserF,ltk,order_cn,h,if_true],(by repeat' (first | exact Below.refl _ _ | exact Nat.le_refl _ | refine below_drewN ?_ _ | refine Below.alloc ?_ (by simp <;> omega) _ | refine Below.setCell ?_ (by simp <;> omega) _ | refine below_step ?_ (by assumption)))⟩
 ·rw [Bool.not_eq_true] at h
  go_enter Tryz.func197,Tryz.ntmps197
  go_wp2_with fail
  go_ret
  exact ⟨_,rfl,by simp only [lesserF,ltk,order_cn,h];rfl,(by repeat' (first | exact Below.refl _ _ | exact Nat.le_refl _ | refine below_drewN ?_ _ | refine Below.alloc ?_ (by simp <;> omega) _ | refine Below.setCell ?_ (by simp <;> omega) _ | refine below_step ?_ (by assumption)))⟩

set_option maxHeartbeats 400000 in
theorem s_greater_any (a b:Nat) (w:World) :
  Calls Tryz.prog 198 #[.float .f32 a,.float .f32 b] w (Ret .f32 (greaterF (cn .f32 a) (cn .f32 b)) w):=by
 by_cases h:(FloatKind.f32.format.order b a == some .gt) = true
 ·go_enter Tryz.func198,Tryz.ntmps198
  go_wp2_with fail
  go_ret
  exact ⟨_,rfl,by simp only [greaterF,gtk,order_cn,h,if_true],(by repeat' (first | exact Below.refl _ _ | exact Nat.le_refl _ | refine below_drewN ?_ _ | refine Below.alloc ?_ (by simp <;> omega) _ | refine Below.setCell ?_ (by simp <;> omega) _ | refine below_step ?_ (by assumption)))⟩
 ·rw [Bool.not_eq_true] at h
  go_enter Tryz.func198,Tryz.ntmps198
  go_wp2_with fail
  go_ret
  exact ⟨_,rfl,by simp only [greaterF,gtk,order_cn,h];rfl,(by repeat' (first | exact Below.refl _ _ | exact Nat.le_refl _ | refine below_drewN ?_ _ | refine Below.alloc ?_ (by simp <;> omega) _ | refine Below.setCell ?_ (by simp <;> omega) _ | refine below_step ?_ (by assumption)))⟩

set_option maxHeartbeats 400000 in
theorem s_less_any (a b c d e f:Nat) (w:World) :
  Calls Tryz.prog 167 #[.agg #[.float .f32 a,.float .f32 b,.float .f32 c],.agg #[.float .f32 d,.float .f32 e,.float .f32 f]] w
   (RetV (B .sub (cn .f32 a) (cn .f32 d)) (B .sub (cn .f32 b) (cn .f32 e)) (B .sub (cn .f32 c) (cn .f32 f)) w):=by
 go_enter Tryz.func167,Tryz.ntmps167
 go_wp2_with (refine wp_bin rfl _ _ _ _ _ rfl _ _ _ rfl rfl rfl ?_;intro r n hr)
 exact bodyPost_ret (v:=.agg #[.float .f32 _,.float .f32 _,.float .f32 _]) (by simp [results,Tryz.results167,go_sem];exact ⟨rfl,rfl,rfl⟩) rfl ⟨_,_,_,rfl,by assumption,by assumption,by assumption,(by repeat' (first | exact Below.refl _ _ | exact Nat.le_refl _ | refine below_drewN ?_ _ | refine Below.alloc ?_ (by simp <;> omega) _ | refine Below.setCell ?_ (by simp <;> omega) _ | refine below_step ?_ (by assumption)))⟩

set_option maxHeartbeats 400000 in
theorem s_fin_any (a:Nat) (w:World) :
  Calls Tryz.prog 149 #[.float .f32 a] w (fun e w' => e = .returned (.bool (eqk .f32 (B .sub (cn .f32 a) (cn .f32 a)) 0)) ∧ Below w.heap.size w w'):=by
 go_enter Tryz.func149,Tryz.ntmps149
 go_wp2_with (refine wp_bin rfl _ _ _ _ _ rfl _ _ _ rfl rfl rfl ?_;intro r n hr)
 go_ret
 exact ⟨by simp only [eqk,← hr,ord_r0];rfl,(by repeat' (first | exact Below.refl _ _ | exact Nat.le_refl _ | refine below_drewN ?_ _ | refine Below.alloc ?_ (by simp <;> omega) _ | refine Below.setCell ?_ (by simp <;> omega) _ | refine below_step ?_ (by assumption)))⟩
set_option maxHeartbeats 400000 in
theorem s_narrow_any (a:Nat) (w:World) (hf:fits (cn .f64 a)) :
  Calls Tryz.prog 253 #[.float .f64 a] w (Ret .f32 (nar (cn .f64 a)) w):=by
 go_enter Tryz.func253,Tryz.ntmps253
 go_wp2_with (refine wp_nar rfl _ _ _ rfl _ rfl ?_ ?_ ?_ ?_;exact some_f64;exact Tryz.underlying25;exact hf;intro r2 n hr2)
 go_ret
 exact ⟨_,rfl,hr2,(by repeat' (first | exact Below.refl _ _ | exact Nat.le_refl _ | refine below_drewN ?_ _ | refine Below.alloc ?_ (by simp <;> omega) _ | refine Below.setCell ?_ (by simp <;> omega) _ | refine below_step ?_ (by assumption)))⟩

set_option maxHeartbeats 400000 in
theorem s_root_any (a:Nat) (w:World) :
  Calls Tryz.prog 266 #[.float .f32 a] w (Ret .f32 (rootF (cn .f32 a)) w):=by
 go_enter Tryz.func266,Tryz.ntmps266
 go_wp2_with (first
  | (go_at_call 278;refine (sqrt_any _ _).mono ?_;rintro _ w1 ⟨r1,rfl,hr1,hb1⟩)
  | (go_at_call 253;refine (s_narrow_any _ _ (by simp only [*];exact fits_root _)).mono ?_;rintro _ w2 ⟨r2,rfl,hr2,hb2⟩)
  | (refine wp_wid rfl _ _ _ rfl _ rfl ?_ ?_ fitsW_all ?_;exact some_f32;exact Tryz.underlying89;intro r n hr))
 go_ret
 exact ⟨_,rfl,by simp only [rootF, *],(by repeat' (first | exact Below.refl _ _ | exact Nat.le_refl _ | refine below_drewN ?_ _ | refine Below.alloc ?_ (by simp <;> omega) _ | refine Below.setCell ?_ (by simp <;> omega) _ | refine below_step ?_ (by assumption)))⟩

set_option maxHeartbeats 400000 in
theorem s_long_any (a b c:Nat) (w:World) :
  Calls Tryz.prog 242 #[.agg #[.float .f32 a,.float .f32 b,.float .f32 c]] w (Ret .f32 (longF (cn .f32 a) (cn .f32 b) (cn .f32 c)) w):=by
 go_enter Tryz.func242,Tryz.ntmps242
 go_wp2_with (first
  | (go_at_call 165;refine (s_inner_any _ _ _ _ _ _ _).mono ?_;rintro _ w1 ⟨r1,rfl,hr1,hb1⟩)
  | (go_at_call 266;refine (s_root_any _ _).mono ?_;rintro _ w2 ⟨r2,rfl,hr2,hb2⟩))
 go_ret
 exact ⟨_,rfl,by simp only [longF, *],(by repeat' (first | exact Below.refl _ _ | exact Nat.le_refl _ | refine below_drewN ?_ _ | refine Below.alloc ?_ (by simp <;> omega) _ | refine Below.setCell ?_ (by simp <;> omega) _ | refine below_step ?_ (by assumption)))⟩

end Go.Proofs.YtbiacfkiakddiaaGreat

namespace Go.Proofs.YtbiacfkiakddiaaGreat
open Go.RowKit Go.Fl
def pickF (a b c:Nat) (i:Int):Nat:=if i = 0 then a else if i = 1 then b else c
def setX (a:Nat) (i:Int) (v:Nat):Nat:=if i = 0 then v else a
def setY (b:Nat) (i:Int) (v:Nat):Nat:=if i = 0 then b else if i = 1 then v else b
def setZ (c:Nat) (i:Int) (v:Nat):Nat:=if i = 0 then c else if i = 1 then c else v

set_option maxHeartbeats 400000 in
theorem s_pick_any (a b c:Nat) (i:Int) (w:World) :
  Calls Tryz.prog 142 #[V3 a b c,.int .i64 i] w (fun e w' => e = .returned (F1 (pickF a b c i)) ∧ Below w.heap.size w w'):=by
 by_cases h0:i = 0
 ·subst h0
  go_enter Tryz.func142,Tryz.ntmps142
  go_wp2_with fail
  go_ret
  exact ⟨rfl,(by repeat' (first | exact Below.refl _ _ | exact Nat.le_refl _ | refine below_drewN ?_ _ | refine Below.alloc ?_ (by simp <;> omega) _ | refine Below.setCell ?_ (by simp <;> omega) _ | refine below_step ?_ (by assumption)))⟩
 ·by_cases h1:i = 1
  ·subst h1
   go_enter Tryz.func142,Tryz.ntmps142
   go_wp2_with fail
   go_ret
   exact ⟨rfl,(by repeat' (first | exact Below.refl _ _ | exact Nat.le_refl _ | refine below_drewN ?_ _ | refine Below.alloc ?_ (by simp <;> omega) _ | refine Below.setCell ?_ (by simp <;> omega) _ | refine below_step ?_ (by assumption)))⟩
  ·have:pickF a b c i = c:=by simp [pickF,h0,h1]
   rw [this]
   go_enter Tryz.func142,Tryz.ntmps142
   go_wp2_with fail
   go_ret
   exact ⟨rfl,(by repeat' (first | exact Below.refl _ _ | exact Nat.le_refl _ | refine below_drewN ?_ _ | refine Below.alloc ?_ (by simp <;> omega) _ | refine Below.setCell ?_ (by simp <;> omega) _ | refine below_step ?_ (by assumption)))⟩

set_option maxHeartbeats 400000 in
theorem s_set_any (a b c v:Nat) (i:Int) (w:World) :
  Calls Tryz.prog 143 #[V3 a b c,.int .i64 i,F1 v] w (fun e w' => e = .returned (V3 (setX a i v) (setY b i v) (setZ c i v)) ∧ Below w.heap.size w w'):=by
 by_cases h0:i = 0
 ·subst h0
  go_enter Tryz.func143,Tryz.ntmps143
  go_wp2_with fail
  exact bodyPost_ret (v:=.agg #[F1 _,F1 _,F1 _]) (by simp [results,Tryz.results143,go_sem];first | done | exact ⟨rfl,rfl,rfl⟩) rfl ⟨rfl,(by repeat' (first | exact Below.refl _ _ | exact Nat.le_refl _ | refine below_drewN ?_ _ | refine Below.alloc ?_ (by simp <;> omega) _ | refine Below.setCell ?_ (by simp <;> omega) _ | refine below_step ?_ (by assumption)))⟩
 ·by_cases h1:i = 1
  ·subst h1
   go_enter Tryz.func143,Tryz.ntmps143
   go_wp2_with fail
   exact bodyPost_ret (v:=.agg #[F1 _,F1 _,F1 _]) (by simp [results,Tryz.results143,go_sem];first | done | exact ⟨rfl,rfl,rfl⟩) rfl ⟨rfl,(by repeat' (first | exact Below.refl _ _ | exact Nat.le_refl _ | refine below_drewN ?_ _ | refine Below.alloc ?_ (by simp <;> omega) _ | refine Below.setCell ?_ (by simp <;> omega) _ | refine below_step ?_ (by assumption)))⟩
  ·have e1:setX a i v = a:=by simp [setX,h0]
   have e2:setY b i v = b:=by simp [setY,h0,h1]
   have e3:setZ c i v = v:=by simp [setZ,h0,h1]
   rw [e1,e2,e3]
   clear e1 e2 e3
   go_enter Tryz.func143,Tryz.ntmps143
   go_wp2_with fail
   exact bodyPost_ret (v:=.agg #[F1 _,F1 _,F1 _]) (by simp [results,Tryz.results143,go_sem];first | done | exact ⟨rfl,rfl,rfl⟩) rfl ⟨rfl,(by repeat' (first | exact Below.refl _ _ | exact Nat.le_refl _ | refine below_drewN ?_ _ | refine Below.alloc ?_ (by simp <;> omega) _ | refine Below.setCell ?_ (by simp <;> omega) _ | refine below_step ?_ (by assumption)))⟩

def foldedS (c s:Nat):Nat:=sizeS (B .sub c (B .mul (B .mul 1073741824 s) (nearF (B .quo c (B .mul 1073741824 s)))))

set_option maxHeartbeats 400000 in
theorem s_folded_any (a b:Nat) (w:World) :
  Calls Tryz.prog 276 #[F1 a,F1 b] w (Ret .f32 (foldedS (cn .f32 a) (cn .f32 b)) w):=by
 go_enter Tryz.func276,Tryz.ntmps276
 go_wp2_with (first
  | (refine wp_entry rfl 255 _ _ rfl rfl _ ext_rte _ (run_whole _ _ _ _) ?_;rintro _ n ⟨r1,rfl,hr1⟩)
  | (go_at_call 88;refine (s_size_any _ _).mono ?_;rintro _ w1 ⟨r3,rfl,hr3,hb1⟩)
  | (refine wp_bin rfl _ _ _ _ _ rfl _ _ _ rfl rfl rfl ?_;intro r n hr)
  | (refine wp_wid rfl _ _ _ rfl _ rfl ?_ ?_ fitsW_all ?_;exact some_f32;exact Tryz.underlying89;intro r n hr)
  | (refine wp_nar rfl _ _ _ rfl _ rfl ?_ ?_ ?_ ?_;exact some_f64;exact Tryz.underlying25;(simp only [*];exact fits_near _);intro r2 n hr2))
 go_ret
 exact ⟨_,rfl,by simp only [foldedS,nearF,cn_c7, *],(by repeat' (first | exact Below.refl _ _ | exact Nat.le_refl _ | refine below_drewN ?_ _ | refine Below.alloc ?_ (by simp <;> omega) _ | refine Below.setCell ?_ (by simp <;> omega) _ | refine below_step ?_ (by assumption)))⟩
end Go.Proofs.YtbiacfkiakddiaaGreat
