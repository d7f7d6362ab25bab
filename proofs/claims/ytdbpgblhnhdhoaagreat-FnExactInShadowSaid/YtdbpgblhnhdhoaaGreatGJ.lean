/-
  Walks of the reference: blends.
  Walks of the reference: leaves.
  Walks of the reference: kinds.
-/
import Derived.Test.YtdbpgblhnhdhoaaGreatGI
import Derived.Test.YtdbpgblhnhdhoaaGreatGF
set_option linter.unusedVariables false
set_option linter.unusedSimpArgs false
namespace Go.Proofs.YtdbpgblhnhdhoaaGreat
open Go.RowKit Go.Fl

inductive PhiS : FuncId → Array Value → Value → Prop
  | long (a b c r : Nat) (h : cn .f32 r = longF (cn .f32 a) (cn .f32 b) (cn .f32 c)) : PhiS 124 #[V3 a b c] (F1 r)
  | inner (a b c d e f r : Nat) (h : cn .f32 r = innerF (cn .f32 a) (cn .f32 b) (cn .f32 c) (cn .f32 d) (cn .f32 e) (cn .f32 f)) : PhiS 167 #[V3 a b c, V3 d e f] (F1 r)
  | size (a r : Nat) (h : cn .f32 r = sizeS (cn .f32 a)) : PhiS 74 #[F1 a] (F1 r)
  | lesser (a b r : Nat) (h : cn .f32 r = lesserF (cn .f32 a) (cn .f32 b)) : PhiS 197 #[F1 a, F1 b] (F1 r)
  | greater (a b r : Nat) (h : cn .f32 r = greaterF (cn .f32 a) (cn .f32 b)) : PhiS 198 #[F1 a, F1 b] (F1 r)
  | less (a b c d e f x y z : Nat) (h1 : cn .f32 x = B .sub (cn .f32 a) (cn .f32 d)) (h2 : cn .f32 y = B .sub (cn .f32 b) (cn .f32 e)) (h3 : cn .f32 z = B .sub (cn .f32 c) (cn .f32 f)) : PhiS 121 #[V3 a b c, V3 d e f] (V3 x y z)

def smoothS (a b k : Nat) : Nat :=
  if gtk .f32 (B .sub k (sizeS (B .sub a b))) 0 then
    B .sub (lesserF a b) (B .quo (B .mul (B .sub k (sizeS (B .sub a b))) (B .sub k (sizeS (B .sub a b)))) (B .mul 1082130432 k))
  else lesserF a b

set_option maxRecDepth 100000 in
set_option maxHeartbeats 1000000 in
theorem s_mix_union (b o  x y : Nat) (w : World) (hk : w.cell? ⟨b, o, none⟩ = some (.int .i64 5)) :
    Calls Tryz.prog 162 #[.pointer (some ⟨b, o, none⟩), F1 x, F1 y] w (Ret .f32 (lesserF (cn .f32 x) (cn .f32 y)) w) := by
  have hb : b < w.heap.size := some_lt (a := ⟨b, o, none⟩) (by rw [hk]; rfl)
  go_enter Tryz.func162, Tryz.ntmps162
  go_wp2_with (first | (go_at_call 124; refine (s_long_any _ _ _ _).mono ?_; rintro _ w2 ⟨r1, rfl, hr1, hb1⟩; have HL := lift hb1; have HF := liftF hb1) | (go_at_call 167; refine (s_inner_any _ _ _ _ _ _ _).mono ?_; rintro _ w2 ⟨r1, rfl, hr1, hb1⟩; have HL := lift hb1; have HF := liftF hb1) | (go_at_call 74; refine (s_size_any _ _).mono ?_; rintro _ w2 ⟨r1, rfl, hr1, hb1⟩; have HL := lift hb1; have HF := liftF hb1) | (go_at_call 197; refine (s_lesser_any _ _ _).mono ?_; rintro _ w2 ⟨r1, rfl, hr1, hb1⟩; have HL := lift hb1; have HF := liftF hb1) | (go_at_call 198; refine (s_greater_any _ _ _).mono ?_; rintro _ w2 ⟨r1, rfl, hr1, hb1⟩; have HL := lift hb1; have HF := liftF hb1) | (refine wp_bin rfl _ _ _ _ _ rfl _ _ _ rfl rfl rfl ?_; intro r n hr))
  go_ret
  exact ⟨_, rfl, by simp only [cn_zero, negc_cn, *], (by repeat' (first | exact Below.refl _ _ | exact Nat.le_refl _ | refine below_drewN ?_ _ | refine Below.alloc ?_ (by first | (simp; done) | (simp; omega)) _ | refine Below.setCell ?_ (by first | (simp; done) | (simp; omega)) _ | refine below_step ?_ (by assumption)))⟩

set_option maxRecDepth 100000 in
set_option maxHeartbeats 1000000 in
theorem s_mix_cut (b o  x y : Nat) (w : World) (hk : w.cell? ⟨b, o, none⟩ = some (.int .i64 6)) :
    Calls Tryz.prog 162 #[.pointer (some ⟨b, o, none⟩), F1 x, F1 y] w (Ret .f32 (greaterF (cn .f32 x) (cn .f32 y)) w) := by
  have hb : b < w.heap.size := some_lt (a := ⟨b, o, none⟩) (by rw [hk]; rfl)
  go_enter Tryz.func162, Tryz.ntmps162
  go_wp2_with (first | (go_at_call 124; refine (s_long_any _ _ _ _).mono ?_; rintro _ w2 ⟨r1, rfl, hr1, hb1⟩; have HL := lift hb1; have HF := liftF hb1) | (go_at_call 167; refine (s_inner_any _ _ _ _ _ _ _).mono ?_; rintro _ w2 ⟨r1, rfl, hr1, hb1⟩; have HL := lift hb1; have HF := liftF hb1) | (go_at_call 74; refine (s_size_any _ _).mono ?_; rintro _ w2 ⟨r1, rfl, hr1, hb1⟩; have HL := lift hb1; have HF := liftF hb1) | (go_at_call 197; refine (s_lesser_any _ _ _).mono ?_; rintro _ w2 ⟨r1, rfl, hr1, hb1⟩; have HL := lift hb1; have HF := liftF hb1) | (go_at_call 198; refine (s_greater_any _ _ _).mono ?_; rintro _ w2 ⟨r1, rfl, hr1, hb1⟩; have HL := lift hb1; have HF := liftF hb1) | (refine wp_bin rfl _ _ _ _ _ rfl _ _ _ rfl rfl rfl ?_; intro r n hr))
  go_ret
  exact ⟨_, rfl, by simp only [cn_zero, negc_cn, *], (by repeat' (first | exact Below.refl _ _ | exact Nat.le_refl _ | refine below_drewN ?_ _ | refine Below.alloc ?_ (by first | (simp; done) | (simp; omega)) _ | refine Below.setCell ?_ (by first | (simp; done) | (simp; omega)) _ | refine below_step ?_ (by assumption)))⟩

set_option maxRecDepth 100000 in
set_option maxHeartbeats 1000000 in
theorem s_mix_less (b o  x y : Nat) (w : World) (hk : w.cell? ⟨b, o, none⟩ = some (.int .i64 7)) :
    Calls Tryz.prog 162 #[.pointer (some ⟨b, o, none⟩), F1 x, F1 y] w (Ret .f32 (greaterF (cn .f32 x) (negc .f32 (cn .f32 y))) w) := by
  have hb : b < w.heap.size := some_lt (a := ⟨b, o, none⟩) (by rw [hk]; rfl)
  go_enter Tryz.func162, Tryz.ntmps162
  go_wp2_with (first | (go_at_call 124; refine (s_long_any _ _ _ _).mono ?_; rintro _ w2 ⟨r1, rfl, hr1, hb1⟩; have HL := lift hb1; have HF := liftF hb1) | (go_at_call 167; refine (s_inner_any _ _ _ _ _ _ _).mono ?_; rintro _ w2 ⟨r1, rfl, hr1, hb1⟩; have HL := lift hb1; have HF := liftF hb1) | (go_at_call 74; refine (s_size_any _ _).mono ?_; rintro _ w2 ⟨r1, rfl, hr1, hb1⟩; have HL := lift hb1; have HF := liftF hb1) | (go_at_call 197; refine (s_lesser_any _ _ _).mono ?_; rintro _ w2 ⟨r1, rfl, hr1, hb1⟩; have HL := lift hb1; have HF := liftF hb1) | (go_at_call 198; refine (s_greater_any _ _ _).mono ?_; rintro _ w2 ⟨r1, rfl, hr1, hb1⟩; have HL := lift hb1; have HF := liftF hb1) | (refine wp_bin rfl _ _ _ _ _ rfl _ _ _ rfl rfl rfl ?_; intro r n hr))
  go_ret
  exact ⟨_, rfl, by simp only [cn_zero, negc_cn, *], (by repeat' (first | exact Below.refl _ _ | exact Nat.le_refl _ | refine below_drewN ?_ _ | refine Below.alloc ?_ (by first | (simp; done) | (simp; omega)) _ | refine Below.setCell ?_ (by first | (simp; done) | (simp; omega)) _ | refine below_step ?_ (by assumption)))⟩

set_option maxRecDepth 100000 in
set_option maxHeartbeats 1000000 in
theorem s_mix_scale (b o bv ov cap r0 x y : Nat) (w : World) (hk : w.cell? ⟨b, o, none⟩ = some (.int .i64 10))
    (hs : w.cell? ⟨b, o + 3, none⟩ = some (.slice (some ⟨bv, ov, none⟩) 1 cap)) (h0 : w.cell? ⟨bv, ov, none⟩ = some (.float .f32 r0)) :
    Calls Tryz.prog 162 #[.pointer (some ⟨b, o, none⟩), F1 x, F1 y] w (Ret .f32 (B .mul (cn .f32 x) (cn .f32 r0)) w) := by
  have hb : b < w.heap.size := some_lt (a := ⟨b, o, none⟩) (by rw [hk]; rfl)
  have hbv : bv < w.heap.size := some_lt (a := ⟨bv, ov, none⟩) (by rw [h0]; rfl)
  go_enter Tryz.func162, Tryz.ntmps162
  go_wp2_with (first | (go_at_call 124; refine (s_long_any _ _ _ _).mono ?_; rintro _ w2 ⟨r1, rfl, hr1, hb1⟩; have HL := lift hb1; have HF := liftF hb1) | (go_at_call 167; refine (s_inner_any _ _ _ _ _ _ _).mono ?_; rintro _ w2 ⟨r1, rfl, hr1, hb1⟩; have HL := lift hb1; have HF := liftF hb1) | (go_at_call 74; refine (s_size_any _ _).mono ?_; rintro _ w2 ⟨r1, rfl, hr1, hb1⟩; have HL := lift hb1; have HF := liftF hb1) | (go_at_call 197; refine (s_lesser_any _ _ _).mono ?_; rintro _ w2 ⟨r1, rfl, hr1, hb1⟩; have HL := lift hb1; have HF := liftF hb1) | (go_at_call 198; refine (s_greater_any _ _ _).mono ?_; rintro _ w2 ⟨r1, rfl, hr1, hb1⟩; have HL := lift hb1; have HF := liftF hb1) | (refine wp_bin rfl _ _ _ _ _ rfl _ _ _ rfl rfl rfl ?_; intro r n hr))
  go_ret
  exact ⟨_, rfl, by simp only [cn_zero, negc_cn, *], (by repeat' (first | exact Below.refl _ _ | exact Nat.le_refl _ | refine below_drewN ?_ _ | refine Below.alloc ?_ (by first | (simp; done) | (simp; omega)) _ | refine Below.setCell ?_ (by first | (simp; done) | (simp; omega)) _ | refine below_step ?_ (by assumption)))⟩

set_option maxRecDepth 100000 in
set_option maxHeartbeats 1000000 in
theorem s_mix_round (b o bv ov cap r0 x y : Nat) (w : World) (hk : w.cell? ⟨b, o, none⟩ = some (.int .i64 15))
    (hs : w.cell? ⟨b, o + 3, none⟩ = some (.slice (some ⟨bv, ov, none⟩) 1 cap)) (h0 : w.cell? ⟨bv, ov, none⟩ = some (.float .f32 r0)) :
    Calls Tryz.prog 162 #[.pointer (some ⟨b, o, none⟩), F1 x, F1 y] w (Ret .f32 (B .sub (cn .f32 x) (cn .f32 r0)) w) := by
  have hb : b < w.heap.size := some_lt (a := ⟨b, o, none⟩) (by rw [hk]; rfl)
  have hbv : bv < w.heap.size := some_lt (a := ⟨bv, ov, none⟩) (by rw [h0]; rfl)
  go_enter Tryz.func162, Tryz.ntmps162
  go_wp2_with (first | (go_at_call 124; refine (s_long_any _ _ _ _).mono ?_; rintro _ w2 ⟨r1, rfl, hr1, hb1⟩; have HL := lift hb1; have HF := liftF hb1) | (go_at_call 167; refine (s_inner_any _ _ _ _ _ _ _).mono ?_; rintro _ w2 ⟨r1, rfl, hr1, hb1⟩; have HL := lift hb1; have HF := liftF hb1) | (go_at_call 74; refine (s_size_any _ _).mono ?_; rintro _ w2 ⟨r1, rfl, hr1, hb1⟩; have HL := lift hb1; have HF := liftF hb1) | (go_at_call 197; refine (s_lesser_any _ _ _).mono ?_; rintro _ w2 ⟨r1, rfl, hr1, hb1⟩; have HL := lift hb1; have HF := liftF hb1) | (go_at_call 198; refine (s_greater_any _ _ _).mono ?_; rintro _ w2 ⟨r1, rfl, hr1, hb1⟩; have HL := lift hb1; have HF := liftF hb1) | (refine wp_bin rfl _ _ _ _ _ rfl _ _ _ rfl rfl rfl ?_; intro r n hr))
  go_ret
  exact ⟨_, rfl, by simp only [cn_zero, negc_cn, *], (by repeat' (first | exact Below.refl _ _ | exact Nat.le_refl _ | refine below_drewN ?_ _ | refine Below.alloc ?_ (by first | (simp; done) | (simp; omega)) _ | refine Below.setCell ?_ (by first | (simp; done) | (simp; omega)) _ | refine below_step ?_ (by assumption)))⟩

set_option maxRecDepth 100000 in
set_option maxHeartbeats 1000000 in
theorem s_mix_shell (b o bv ov cap r0 x y : Nat) (w : World) (hk : w.cell? ⟨b, o, none⟩ = some (.int .i64 16))
    (hs : w.cell? ⟨b, o + 3, none⟩ = some (.slice (some ⟨bv, ov, none⟩) 1 cap)) (h0 : w.cell? ⟨bv, ov, none⟩ = some (.float .f32 r0)) :
    Calls Tryz.prog 162 #[.pointer (some ⟨b, o, none⟩), F1 x, F1 y] w (Ret .f32 (B .sub (sizeS (cn .f32 x)) (cn .f32 r0)) w) := by
  have hb : b < w.heap.size := some_lt (a := ⟨b, o, none⟩) (by rw [hk]; rfl)
  have hbv : bv < w.heap.size := some_lt (a := ⟨bv, ov, none⟩) (by rw [h0]; rfl)
  go_enter Tryz.func162, Tryz.ntmps162
  go_wp2_with fail
  refine Qr.wp_below_all (by kernel_rfl) (by kernel_rfl) PhiS ?_
  repeat (first | (refine Qr.walk_plain rfl fun K hK => ?_; refine one_bin _ _ _ _ _ rfl _ _ _ rfl rfl rfl (fun r hr => ?_); go_simp; refine hK _ ?_; clear hK K) | (refine Qr.walk_plain rfl fun K hK => ?_; apply Qr.one_det; (focus (intro w' hw'; have HL := lift hw'; go_simp; first | done | rfl)); go_simp; refine hK _ ?_; clear hK K) | (refine Qr.walk_plain rfl fun K hK => ?_; apply Qr.one_call; (focus (intro w' hw'; go_simp; first | done | exact ⟨rfl, rfl⟩)); (focus (intro w' hw';  go_at_call 124; refine (s_long_any _ _ _ _).mono ?_; rintro _ w2 ⟨r1, rfl, hr1, hb1⟩ ; exact ⟨_, rfl, by constructor <;> assumption, hw'.trans (by exact Below.mono (by assumption) hw'.size), by assumption⟩)); intro v hv; cases hv; go_simp; refine hK _ ?_; clear hK K) | (refine Qr.walk_plain rfl fun K hK => ?_; apply Qr.one_call; (focus (intro w' hw'; go_simp; first | done | exact ⟨rfl, rfl⟩)); (focus (intro w' hw';  go_at_call 167; refine (s_inner_any _ _ _ _ _ _ _).mono ?_; rintro _ w2 ⟨r1, rfl, hr1, hb1⟩ ; exact ⟨_, rfl, by constructor <;> assumption, hw'.trans (by exact Below.mono (by assumption) hw'.size), by assumption⟩)); intro v hv; cases hv; go_simp; refine hK _ ?_; clear hK K) | (refine Qr.walk_plain rfl fun K hK => ?_; apply Qr.one_call; (focus (intro w' hw'; go_simp; first | done | exact ⟨rfl, rfl⟩)); (focus (intro w' hw';  go_at_call 74; refine (s_size_any _ _).mono ?_; rintro _ w2 ⟨r1, rfl, hr1, hb1⟩ ; exact ⟨_, rfl, by constructor <;> assumption, hw'.trans (by exact Below.mono (by assumption) hw'.size), by assumption⟩)); intro v hv; cases hv; go_simp; refine hK _ ?_; clear hK K) | (refine Qr.walk_plain rfl fun K hK => ?_; apply Qr.one_call; (focus (intro w' hw'; go_simp; first | done | exact ⟨rfl, rfl⟩)); (focus (intro w' hw';  go_at_call 197; refine (s_lesser_any _ _ _).mono ?_; rintro _ w2 ⟨r1, rfl, hr1, hb1⟩ ; exact ⟨_, rfl, by constructor <;> assumption, hw'.trans (by exact Below.mono (by assumption) hw'.size), by assumption⟩)); intro v hv; cases hv; go_simp; refine hK _ ?_; clear hK K) | (refine Qr.walk_plain rfl fun K hK => ?_; apply Qr.one_call; (focus (intro w' hw'; go_simp; first | done | exact ⟨rfl, rfl⟩)); (focus (intro w' hw';  go_at_call 198; refine (s_greater_any _ _ _).mono ?_; rintro _ w2 ⟨r1, rfl, hr1, hb1⟩ ; exact ⟨_, rfl, by constructor <;> assumption, hw'.trans (by exact Below.mono (by assumption) hw'.size), by assumption⟩)); intro v hv; cases hv; go_simp; refine hK _ ?_; clear hK K) | (refine Qr.walk_plain rfl fun K hK => ?_; apply Qr.one_call; (focus (intro w' hw'; go_simp; first | done | exact ⟨rfl, rfl⟩)); (focus (intro w' hw';  go_at_call 121; refine (s_less_any _ _ _ _ _ _ _).mono ?_; rintro _ w2 ⟨x1, y1, z1, rfl, hx1, hy1, hz1, hb1⟩ ; exact ⟨_, rfl, by constructor <;> assumption, hw'.trans (by exact Below.mono (by assumption) hw'.size), by assumption⟩)); intro v hv; cases hv; go_simp; refine hK _ ?_; clear hK K))
  refine Qr.walk_nil fun w3 hw3 => ?_
  go_wp2_with fail
  go_ret
  exact ⟨_, rfl, by simp only [*], (by repeat' (first | exact Below.refl _ _ | exact Nat.le_refl _ | refine below_drewN ?_ _ | refine Below.alloc ?_ (by first | (simp; done) | (simp; omega)) _ | refine Below.setCell ?_ (by first | (simp; done) | (simp; omega)) _ | refine below_step ?_ (by assumption)))⟩

set_option maxRecDepth 100000 in
set_option maxHeartbeats 1000000 in
theorem s_mix_move (b o  x y : Nat) (w : World) (hk : w.cell? ⟨b, o, none⟩ = some (.int .i64 9)) :
    Calls Tryz.prog 162 #[.pointer (some ⟨b, o, none⟩), F1 x, F1 y] w (Ret .f32 (cn .f32 x) w) := by
  have hb : b < w.heap.size := some_lt (a := ⟨b, o, none⟩) (by rw [hk]; rfl)
  go_enter Tryz.func162, Tryz.ntmps162
  go_wp2_with fail
  go_ret
  exact ⟨_, rfl, rfl, (by repeat' (first | exact Below.refl _ _ | exact Nat.le_refl _ | refine below_drewN ?_ _ | refine Below.alloc ?_ (by first | (simp; done) | (simp; omega)) _ | refine Below.setCell ?_ (by first | (simp; done) | (simp; omega)) _ | refine below_step ?_ (by assumption)))⟩

set_option maxRecDepth 100000 in
set_option maxHeartbeats 1000000 in
theorem s_mix_stretch (b o  x y : Nat) (w : World) (hk : w.cell? ⟨b, o, none⟩ = some (.int .i64 11)) :
    Calls Tryz.prog 162 #[.pointer (some ⟨b, o, none⟩), F1 x, F1 y] w (Ret .f32 (cn .f32 x) w) := by
  have hb : b < w.heap.size := some_lt (a := ⟨b, o, none⟩) (by rw [hk]; rfl)
  go_enter Tryz.func162, Tryz.ntmps162
  go_wp2_with fail
  go_ret
  exact ⟨_, rfl, rfl, (by repeat' (first | exact Below.refl _ _ | exact Nat.le_refl _ | refine below_drewN ?_ _ | refine Below.alloc ?_ (by first | (simp; done) | (simp; omega)) _ | refine Below.setCell ?_ (by first | (simp; done) | (simp; omega)) _ | refine below_step ?_ (by assumption)))⟩

set_option maxRecDepth 100000 in
set_option maxHeartbeats 1000000 in
theorem s_mix_turn (b o  x y : Nat) (w : World) (hk : w.cell? ⟨b, o, none⟩ = some (.int .i64 12)) :
    Calls Tryz.prog 162 #[.pointer (some ⟨b, o, none⟩), F1 x, F1 y] w (Ret .f32 (cn .f32 x) w) := by
  have hb : b < w.heap.size := some_lt (a := ⟨b, o, none⟩) (by rw [hk]; rfl)
  go_enter Tryz.func162, Tryz.ntmps162
  go_wp2_with fail
  go_ret
  exact ⟨_, rfl, rfl, (by repeat' (first | exact Below.refl _ _ | exact Nat.le_refl _ | refine below_drewN ?_ _ | refine Below.alloc ?_ (by first | (simp; done) | (simp; omega)) _ | refine Below.setCell ?_ (by first | (simp; done) | (simp; omega)) _ | refine below_step ?_ (by assumption)))⟩

set_option maxRecDepth 100000 in
set_option maxHeartbeats 1000000 in
theorem s_mix_mirror (b o  x y : Nat) (w : World) (hk : w.cell? ⟨b, o, none⟩ = some (.int .i64 13)) :
    Calls Tryz.prog 162 #[.pointer (some ⟨b, o, none⟩), F1 x, F1 y] w (Ret .f32 (cn .f32 x) w) := by
  have hb : b < w.heap.size := some_lt (a := ⟨b, o, none⟩) (by rw [hk]; rfl)
  go_enter Tryz.func162, Tryz.ntmps162
  go_wp2_with fail
  go_ret
  exact ⟨_, rfl, rfl, (by repeat' (first | exact Below.refl _ _ | exact Nat.le_refl _ | refine below_drewN ?_ _ | refine Below.alloc ?_ (by first | (simp; done) | (simp; omega)) _ | refine Below.setCell ?_ (by first | (simp; done) | (simp; omega)) _ | refine below_step ?_ (by assumption)))⟩

set_option maxRecDepth 100000 in
set_option maxHeartbeats 1000000 in
theorem s_mix_fold (b o  x y : Nat) (w : World) (hk : w.cell? ⟨b, o, none⟩ = some (.int .i64 14)) :
    Calls Tryz.prog 162 #[.pointer (some ⟨b, o, none⟩), F1 x, F1 y] w (Ret .f32 (cn .f32 x) w) := by
  have hb : b < w.heap.size := some_lt (a := ⟨b, o, none⟩) (by rw [hk]; rfl)
  go_enter Tryz.func162, Tryz.ntmps162
  go_wp2_with fail
  go_ret
  exact ⟨_, rfl, rfl, (by repeat' (first | exact Below.refl _ _ | exact Nat.le_refl _ | refine below_drewN ?_ _ | refine Below.alloc ?_ (by first | (simp; done) | (simp; omega)) _ | refine Below.setCell ?_ (by first | (simp; done) | (simp; omega)) _ | refine below_step ?_ (by assumption)))⟩

set_option maxRecDepth 100000 in
set_option maxHeartbeats 1000000 in
theorem s_mix_smooth (b o bv ov cap r0 x y : Nat) (w : World) (hk : w.cell? ⟨b, o, none⟩ = some (.int .i64 8))
    (hs : w.cell? ⟨b, o + 3, none⟩ = some (.slice (some ⟨bv, ov, none⟩) 1 cap)) (h0 : w.cell? ⟨bv, ov, none⟩ = some (.float .f32 r0)) :
    Calls Tryz.prog 162 #[.pointer (some ⟨b, o, none⟩), F1 x, F1 y] w (Ret .f32 (smoothS (cn .f32 x) (cn .f32 y) (cn .f32 r0)) w) := by
  have hb : b < w.heap.size := some_lt (a := ⟨b, o, none⟩) (by rw [hk]; rfl)
  have hbv : bv < w.heap.size := some_lt (a := ⟨bv, ov, none⟩) (by rw [h0]; rfl)
  go_enter Tryz.func162, Tryz.ntmps162
  go_wp2_with (first | (go_at_call 124; refine (s_long_any _ _ _ _).mono ?_; rintro _ w2 ⟨r1, rfl, hr1, hb1⟩; have HL := lift hb1; have HF := liftF hb1) | (go_at_call 167; refine (s_inner_any _ _ _ _ _ _ _).mono ?_; rintro _ w2 ⟨r1, rfl, hr1, hb1⟩; have HL := lift hb1; have HF := liftF hb1) | (go_at_call 74; refine (s_size_any _ _).mono ?_; rintro _ w2 ⟨r1, rfl, hr1, hb1⟩; have HL := lift hb1; have HF := liftF hb1) | (go_at_call 197; refine (s_lesser_any _ _ _).mono ?_; rintro _ w2 ⟨r1, rfl, hr1, hb1⟩; have HL := lift hb1; have HF := liftF hb1) | (go_at_call 198; refine (s_greater_any _ _ _).mono ?_; rintro _ w2 ⟨r1, rfl, hr1, hb1⟩; have HL := lift hb1; have HF := liftF hb1) | (refine wp_bin rfl _ _ _ _ _ rfl _ _ _ rfl rfl rfl ?_; intro r n hr))
  · have hg := gtk_of ‹(FloatKind.f32.format.order _ 0 == some .gt) = true›
    go_ret
    simp only [*] at hg
    exact ⟨_, rfl, by simp only [smoothS, B, hg, if_true, cn_c8, *], (by repeat' (first | exact Below.refl _ _ | exact Nat.le_refl _ | refine below_drewN ?_ _ | refine Below.alloc ?_ (by first | (simp; done) | (simp; omega)) _ | refine Below.setCell ?_ (by first | (simp; done) | (simp; omega)) _ | refine below_step ?_ (by assumption)))⟩
  · have hg := gtk_of ‹(FloatKind.f32.format.order _ 0 == some .gt) = false›
    go_ret
    simp only [*] at hg
    exact ⟨_, rfl, by simp only [smoothS, B, hg]; simp only [*]; rfl, (by repeat' (first | exact Below.refl _ _ | exact Nat.le_refl _ | refine below_drewN ?_ _ | refine Below.alloc ?_ (by first | (simp; done) | (simp; omega)) _ | refine Below.setCell ?_ (by first | (simp; done) | (simp; omega)) _ | refine below_step ?_ (by assumption)))⟩
end Go.Proofs.YtdbpgblhnhdhoaaGreat

namespace Go.Proofs.YtdbpgblhnhdhoaaGreat
open Go.RowKit Go.Fl

def boxS (x y z u v t : Nat) : Nat :=
  B .add (longF (greaterF 0 (B .sub (sizeS x) u)) (greaterF 0 (B .sub (sizeS y) v)) (greaterF 0 (B .sub (sizeS z) t)))
    (lesserF 0 (greaterF (greaterF (B .sub (sizeS x) u) (B .sub (sizeS y) v)) (B .sub (sizeS z) t)))
def tubeS (x y z h r : Nat) : Nat := B .sub (longF x (B .sub y (lesserF (greaterF 0 y) h)) z) r
def ringS (x y z u r : Nat) : Nat := B .sub (longF (B .sub (longF x 0 z) u) y 0) r

set_option maxRecDepth 100000 in
set_option maxHeartbeats 1000000 in
theorem s_leaf_ball (b o bv ov cap r0 x y z : Nat) (w : World) (hk : w.cell? ⟨b, o, none⟩ = some (.int .i64 0))
    (hs : w.cell? ⟨b, o + 3, none⟩ = some (.slice (some ⟨bv, ov, none⟩) 1 cap)) (h0 : w.cell? ⟨bv, ov, none⟩ = some (.float .f32 r0)) :
    Calls Tryz.prog 161 #[.pointer (some ⟨b, o, none⟩), V3 x y z] w (Ret .f32 (ballF (cn .f32 x) (cn .f32 y) (cn .f32 z) (cn .f32 r0)) w) := by
  have hb : b < w.heap.size := some_lt (a := ⟨b, o, none⟩) (by rw [hk]; rfl)
  have hbv : bv < w.heap.size := some_lt (a := ⟨bv, ov, none⟩) (by rw [h0]; rfl)
  go_enter Tryz.func161, Tryz.ntmps161
  go_wp2_with (first | (go_at_call 124; refine (s_long_any _ _ _ _).mono ?_; rintro _ w2 ⟨r1, rfl, hr1, hb1⟩; have HL := lift hb1; have HF := liftF hb1) | (go_at_call 167; refine (s_inner_any _ _ _ _ _ _ _).mono ?_; rintro _ w2 ⟨r1, rfl, hr1, hb1⟩; have HL := lift hb1; have HF := liftF hb1) | (go_at_call 74; refine (s_size_any _ _).mono ?_; rintro _ w2 ⟨r1, rfl, hr1, hb1⟩; have HL := lift hb1; have HF := liftF hb1) | (go_at_call 197; refine (s_lesser_any _ _ _).mono ?_; rintro _ w2 ⟨r1, rfl, hr1, hb1⟩; have HL := lift hb1; have HF := liftF hb1) | (go_at_call 198; refine (s_greater_any _ _ _).mono ?_; rintro _ w2 ⟨r1, rfl, hr1, hb1⟩; have HL := lift hb1; have HF := liftF hb1) | (refine wp_bin rfl _ _ _ _ _ rfl _ _ _ rfl rfl rfl ?_; intro r n hr))
  refine Qr.wp_below_all (by kernel_rfl) (by kernel_rfl) PhiS ?_
  repeat (first | (refine Qr.walk_plain rfl fun K hK => ?_; refine one_bin _ _ _ _ _ rfl _ _ _ rfl rfl rfl (fun r hr => ?_); go_simp; refine hK _ ?_; clear hK K) | (refine Qr.walk_plain rfl fun K hK => ?_; apply Qr.one_det; (focus (intro w' hw'; have HL := lift hw'; go_simp; first | done | rfl)); go_simp; refine hK _ ?_; clear hK K) | (refine Qr.walk_plain rfl fun K hK => ?_; apply Qr.one_call; (focus (intro w' hw'; go_simp; first | done | exact ⟨rfl, rfl⟩)); (focus (intro w' hw';  go_at_call 124; refine (s_long_any _ _ _ _).mono ?_; rintro _ w2 ⟨r1, rfl, hr1, hb1⟩ ; exact ⟨_, rfl, by constructor <;> assumption, hw'.trans (by exact Below.mono (by assumption) hw'.size), by assumption⟩)); intro v hv; cases hv; go_simp; refine hK _ ?_; clear hK K) | (refine Qr.walk_plain rfl fun K hK => ?_; apply Qr.one_call; (focus (intro w' hw'; go_simp; first | done | exact ⟨rfl, rfl⟩)); (focus (intro w' hw';  go_at_call 167; refine (s_inner_any _ _ _ _ _ _ _).mono ?_; rintro _ w2 ⟨r1, rfl, hr1, hb1⟩ ; exact ⟨_, rfl, by constructor <;> assumption, hw'.trans (by exact Below.mono (by assumption) hw'.size), by assumption⟩)); intro v hv; cases hv; go_simp; refine hK _ ?_; clear hK K) | (refine Qr.walk_plain rfl fun K hK => ?_; apply Qr.one_call; (focus (intro w' hw'; go_simp; first | done | exact ⟨rfl, rfl⟩)); (focus (intro w' hw';  go_at_call 74; refine (s_size_any _ _).mono ?_; rintro _ w2 ⟨r1, rfl, hr1, hb1⟩ ; exact ⟨_, rfl, by constructor <;> assumption, hw'.trans (by exact Below.mono (by assumption) hw'.size), by assumption⟩)); intro v hv; cases hv; go_simp; refine hK _ ?_; clear hK K) | (refine Qr.walk_plain rfl fun K hK => ?_; apply Qr.one_call; (focus (intro w' hw'; go_simp; first | done | exact ⟨rfl, rfl⟩)); (focus (intro w' hw';  go_at_call 197; refine (s_lesser_any _ _ _).mono ?_; rintro _ w2 ⟨r1, rfl, hr1, hb1⟩ ; exact ⟨_, rfl, by constructor <;> assumption, hw'.trans (by exact Below.mono (by assumption) hw'.size), by assumption⟩)); intro v hv; cases hv; go_simp; refine hK _ ?_; clear hK K) | (refine Qr.walk_plain rfl fun K hK => ?_; apply Qr.one_call; (focus (intro w' hw'; go_simp; first | done | exact ⟨rfl, rfl⟩)); (focus (intro w' hw';  go_at_call 198; refine (s_greater_any _ _ _).mono ?_; rintro _ w2 ⟨r1, rfl, hr1, hb1⟩ ; exact ⟨_, rfl, by constructor <;> assumption, hw'.trans (by exact Below.mono (by assumption) hw'.size), by assumption⟩)); intro v hv; cases hv; go_simp; refine hK _ ?_; clear hK K) | (refine Qr.walk_plain rfl fun K hK => ?_; apply Qr.one_call; (focus (intro w' hw'; go_simp; first | done | exact ⟨rfl, rfl⟩)); (focus (intro w' hw';  go_at_call 121; refine (s_less_any _ _ _ _ _ _ _).mono ?_; rintro _ w2 ⟨x1, y1, z1, rfl, hx1, hy1, hz1, hb1⟩ ; exact ⟨_, rfl, by constructor <;> assumption, hw'.trans (by exact Below.mono (by assumption) hw'.size), by assumption⟩)); intro v hv; cases hv; go_simp; refine hK _ ?_; clear hK K))
  refine Qr.walk_nil fun w3 hw3 => ?_
  have HL3 := lift hw3
  go_wp2_with (first | (go_at_call 124; refine (s_long_any _ _ _ _).mono ?_; rintro _ w2 ⟨r1, rfl, hr1, hb1⟩; have HL := lift hb1; have HF := liftF hb1) | (go_at_call 167; refine (s_inner_any _ _ _ _ _ _ _).mono ?_; rintro _ w2 ⟨r1, rfl, hr1, hb1⟩; have HL := lift hb1; have HF := liftF hb1) | (go_at_call 74; refine (s_size_any _ _).mono ?_; rintro _ w2 ⟨r1, rfl, hr1, hb1⟩; have HL := lift hb1; have HF := liftF hb1) | (go_at_call 197; refine (s_lesser_any _ _ _).mono ?_; rintro _ w2 ⟨r1, rfl, hr1, hb1⟩; have HL := lift hb1; have HF := liftF hb1) | (go_at_call 198; refine (s_greater_any _ _ _).mono ?_; rintro _ w2 ⟨r1, rfl, hr1, hb1⟩; have HL := lift hb1; have HF := liftF hb1) | (refine wp_bin rfl _ _ _ _ _ rfl _ _ _ rfl rfl rfl ?_; intro r n hr))
  go_ret
  exact ⟨_, rfl, by simp only [ballF, cn_zero, *], (by repeat' (first | exact Below.refl _ _ | exact Nat.le_refl _ | refine below_drewN ?_ _ | refine Below.alloc ?_ (by first | (simp; done) | (simp; omega)) _ | refine Below.setCell ?_ (by first | (simp; done) | (simp; omega)) _ | refine below_step ?_ (by assumption)))⟩

set_option maxRecDepth 100000 in
set_option maxHeartbeats 1000000 in
theorem s_leaf_tube (b o bv ov cap r0 r1 x y z : Nat) (w : World) (hk : w.cell? ⟨b, o, none⟩ = some (.int .i64 2))
    (hs : w.cell? ⟨b, o + 3, none⟩ = some (.slice (some ⟨bv, ov, none⟩) 2 cap)) (h0 : w.cell? ⟨bv, ov, none⟩ = some (.float .f32 r0)) (h1 : w.cell? ⟨bv, ov + 1, none⟩ = some (.float .f32 r1)) :
    Calls Tryz.prog 161 #[.pointer (some ⟨b, o, none⟩), V3 x y z] w (Ret .f32 (tubeS (cn .f32 x) (cn .f32 y) (cn .f32 z) (cn .f32 r0) (cn .f32 r1)) w) := by
  have hb : b < w.heap.size := some_lt (a := ⟨b, o, none⟩) (by rw [hk]; rfl)
  have hbv : bv < w.heap.size := some_lt (a := ⟨bv, ov, none⟩) (by rw [h0]; rfl)
  have hk0 : Kept [(⟨b, o, none⟩, .int .i64 2), (⟨b, o + 3, none⟩, .slice (some ⟨bv, ov, none⟩) 2 cap), (⟨bv, ov, none⟩, .float .f32 r0), (⟨bv, ov + 1, none⟩, .float .f32 r1)] [] w := kof (by simp only [List.forall_mem_cons, List.not_mem_nil, false_implies, implies_true, and_true]; exact ⟨hk, hs, h0, h1⟩)
  go_enter Tryz.func161, Tryz.ntmps161
  go_wp2_with (first | (go_at_call 124; refine (s_long_any _ _ _ _).mono ?_; rintro _ w2 ⟨r1, rfl, hr1, hb1⟩; have HL := lift hb1; have HF := liftF hb1) | (go_at_call 167; refine (s_inner_any _ _ _ _ _ _ _).mono ?_; rintro _ w2 ⟨r1, rfl, hr1, hb1⟩; have HL := lift hb1; have HF := liftF hb1) | (go_at_call 74; refine (s_size_any _ _).mono ?_; rintro _ w2 ⟨r1, rfl, hr1, hb1⟩; have HL := lift hb1; have HF := liftF hb1) | (go_at_call 197; refine (s_lesser_any _ _ _).mono ?_; rintro _ w2 ⟨r1, rfl, hr1, hb1⟩; have HL := lift hb1; have HF := liftF hb1) | (go_at_call 198; refine (s_greater_any _ _ _).mono ?_; rintro _ w2 ⟨r1, rfl, hr1, hb1⟩; have HL := lift hb1; have HF := liftF hb1) | (refine wp_bin rfl _ _ _ _ _ rfl _ _ _ rfl rfl rfl ?_; intro r n hr))
  have Wb : Below w.heap.size w (w.alloc (.cells #[.float .f32 x, .float .f32 y, .float .f32 z] 35)) := (by repeat' (first | exact Below.refl _ _ | exact Nat.le_refl _ | refine below_drewN ?_ _ | refine Below.alloc ?_ (by first | (simp; done) | (simp; omega)) _ | refine Below.setCell ?_ (by first | (simp; done) | (simp; omega)) _ | refine below_step ?_ (by assumption)))

  have hkept := kept_app (keep hk0 Wb) (show Kept [(⟨w.heap.size, 0, none⟩, .float .f32 x), (⟨w.heap.size, 1, none⟩, .float .f32 y), (⟨w.heap.size, 2, none⟩, .float .f32 z)] [] (w.alloc (.cells #[.float .f32 x, .float .f32 y, .float .f32 z] 35)) by
    simp only [Kept, List.forall_mem_append, List.forall_mem_cons, List.not_mem_nil, false_implies, implies_true, and_true, true_and]; simp)
  clear hk0
  generalize (w.alloc (.cells #[.float .f32 x, .float .f32 y, .float .f32 z] 35)) = W1 at Wb hkept ⊢
  have hK := hkept
  simp only [Kept, List.forall_mem_append, List.forall_mem_cons, List.not_mem_nil, false_implies, implies_true, and_true, true_and] at hK
  refine Qr.wp_below_all (by kernel_rfl) (by kernel_rfl) PhiS ?_
  repeat (first | (refine Qr.walk_plain rfl fun K hK => ?_; refine one_bin _ _ _ _ _ rfl _ _ _ rfl rfl rfl (fun r hr => ?_); go_simp; refine hK _ ?_; clear hK K) | (refine Qr.walk_plain rfl fun K hK => ?_; apply Qr.one_det; (focus (intro w' hw'; have HK := keep hkept hw'; simp only [Kept, List.forall_mem_append, List.forall_mem_cons, List.not_mem_nil, false_implies, implies_true, and_true, true_and] at HK; go_simp; first | done | rfl)); go_simp; refine hK _ ?_; clear hK K) | (refine Qr.walk_plain rfl fun K hK => ?_; apply Qr.one_call; (focus (intro w' hw'; go_simp; first | done | exact ⟨rfl, rfl⟩)); (focus (intro w' hw';  go_at_call 124; refine (s_long_any _ _ _ _).mono ?_; rintro _ w2 ⟨r1, rfl, hr1, hb1⟩ ; exact ⟨_, rfl, by constructor <;> assumption, hw'.trans (by exact Below.mono (by assumption) hw'.size), by assumption⟩)); intro v hv; cases hv; go_simp; refine hK _ ?_; clear hK K) | (refine Qr.walk_plain rfl fun K hK => ?_; apply Qr.one_call; (focus (intro w' hw'; go_simp; first | done | exact ⟨rfl, rfl⟩)); (focus (intro w' hw';  go_at_call 167; refine (s_inner_any _ _ _ _ _ _ _).mono ?_; rintro _ w2 ⟨r1, rfl, hr1, hb1⟩ ; exact ⟨_, rfl, by constructor <;> assumption, hw'.trans (by exact Below.mono (by assumption) hw'.size), by assumption⟩)); intro v hv; cases hv; go_simp; refine hK _ ?_; clear hK K) | (refine Qr.walk_plain rfl fun K hK => ?_; apply Qr.one_call; (focus (intro w' hw'; go_simp; first | done | exact ⟨rfl, rfl⟩)); (focus (intro w' hw';  go_at_call 74; refine (s_size_any _ _).mono ?_; rintro _ w2 ⟨r1, rfl, hr1, hb1⟩ ; exact ⟨_, rfl, by constructor <;> assumption, hw'.trans (by exact Below.mono (by assumption) hw'.size), by assumption⟩)); intro v hv; cases hv; go_simp; refine hK _ ?_; clear hK K) | (refine Qr.walk_plain rfl fun K hK => ?_; apply Qr.one_call; (focus (intro w' hw'; go_simp; first | done | exact ⟨rfl, rfl⟩)); (focus (intro w' hw';  go_at_call 197; refine (s_lesser_any _ _ _).mono ?_; rintro _ w2 ⟨r1, rfl, hr1, hb1⟩ ; exact ⟨_, rfl, by constructor <;> assumption, hw'.trans (by exact Below.mono (by assumption) hw'.size), by assumption⟩)); intro v hv; cases hv; go_simp; refine hK _ ?_; clear hK K) | (refine Qr.walk_plain rfl fun K hK => ?_; apply Qr.one_call; (focus (intro w' hw'; go_simp; first | done | exact ⟨rfl, rfl⟩)); (focus (intro w' hw';  go_at_call 198; refine (s_greater_any _ _ _).mono ?_; rintro _ w2 ⟨r1, rfl, hr1, hb1⟩ ; exact ⟨_, rfl, by constructor <;> assumption, hw'.trans (by exact Below.mono (by assumption) hw'.size), by assumption⟩)); intro v hv; cases hv; go_simp; refine hK _ ?_; clear hK K) | (refine Qr.walk_plain rfl fun K hK => ?_; apply Qr.one_call; (focus (intro w' hw'; go_simp; first | done | exact ⟨rfl, rfl⟩)); (focus (intro w' hw';  go_at_call 121; refine (s_less_any _ _ _ _ _ _ _).mono ?_; rintro _ w2 ⟨x1, y1, z1, rfl, hx1, hy1, hz1, hb1⟩ ; exact ⟨_, rfl, by constructor <;> assumption, hw'.trans (by exact Below.mono (by assumption) hw'.size), by assumption⟩)); intro v hv; cases hv; go_simp; refine hK _ ?_; clear hK K))
  refine Qr.walk_nil fun w3 hw3 => ?_
  have hkept := keep hkept hw3
  have Wb := below_step Wb hw3
  clear hK
  have hK := hkept
  simp only [Kept, List.forall_mem_append, List.forall_mem_cons, List.not_mem_nil, false_implies, implies_true, and_true, true_and] at hK
  go_wp2_with (first | (go_at_call 124; refine (s_long_any _ _ _ _).mono ?_; rintro _ w2 ⟨r1, rfl, hr1, hb1⟩; have HL := lift hb1; have HF := liftF hb1) | (go_at_call 167; refine (s_inner_any _ _ _ _ _ _ _).mono ?_; rintro _ w2 ⟨r1, rfl, hr1, hb1⟩; have HL := lift hb1; have HF := liftF hb1) | (go_at_call 74; refine (s_size_any _ _).mono ?_; rintro _ w2 ⟨r1, rfl, hr1, hb1⟩; have HL := lift hb1; have HF := liftF hb1) | (go_at_call 197; refine (s_lesser_any _ _ _).mono ?_; rintro _ w2 ⟨r1, rfl, hr1, hb1⟩; have HL := lift hb1; have HF := liftF hb1) | (go_at_call 198; refine (s_greater_any _ _ _).mono ?_; rintro _ w2 ⟨r1, rfl, hr1, hb1⟩; have HL := lift hb1; have HF := liftF hb1) | (refine wp_bin rfl _ _ _ _ _ rfl _ _ _ rfl rfl rfl ?_; intro r n hr))
  refine Qr.wp_below_all (by kernel_rfl) (by kernel_rfl) PhiS ?_
  repeat (first | (refine Qr.walk_plain rfl fun K hK => ?_; refine one_bin _ _ _ _ _ rfl _ _ _ rfl rfl rfl (fun r hr => ?_); go_simp; refine hK _ ?_; clear hK K) | (refine Qr.walk_plain rfl fun K hK => ?_; apply Qr.one_det; (focus (intro w' hw'; have HK := keep hkept hw'; simp only [Kept, List.forall_mem_append, List.forall_mem_cons, List.not_mem_nil, false_implies, implies_true, and_true, true_and] at HK; go_simp; first | done | rfl)); go_simp; refine hK _ ?_; clear hK K) | (refine Qr.walk_plain rfl fun K hK => ?_; apply Qr.one_call; (focus (intro w' hw'; go_simp; first | done | exact ⟨rfl, rfl⟩)); (focus (intro w' hw';  go_at_call 124; refine (s_long_any _ _ _ _).mono ?_; rintro _ w2 ⟨r1, rfl, hr1, hb1⟩ ; exact ⟨_, rfl, by constructor <;> assumption, hw'.trans (by exact Below.mono (by assumption) hw'.size), by assumption⟩)); intro v hv; cases hv; go_simp; refine hK _ ?_; clear hK K) | (refine Qr.walk_plain rfl fun K hK => ?_; apply Qr.one_call; (focus (intro w' hw'; go_simp; first | done | exact ⟨rfl, rfl⟩)); (focus (intro w' hw';  go_at_call 167; refine (s_inner_any _ _ _ _ _ _ _).mono ?_; rintro _ w2 ⟨r1, rfl, hr1, hb1⟩ ; exact ⟨_, rfl, by constructor <;> assumption, hw'.trans (by exact Below.mono (by assumption) hw'.size), by assumption⟩)); intro v hv; cases hv; go_simp; refine hK _ ?_; clear hK K) | (refine Qr.walk_plain rfl fun K hK => ?_; apply Qr.one_call; (focus (intro w' hw'; go_simp; first | done | exact ⟨rfl, rfl⟩)); (focus (intro w' hw';  go_at_call 74; refine (s_size_any _ _).mono ?_; rintro _ w2 ⟨r1, rfl, hr1, hb1⟩ ; exact ⟨_, rfl, by constructor <;> assumption, hw'.trans (by exact Below.mono (by assumption) hw'.size), by assumption⟩)); intro v hv; cases hv; go_simp; refine hK _ ?_; clear hK K) | (refine Qr.walk_plain rfl fun K hK => ?_; apply Qr.one_call; (focus (intro w' hw'; go_simp; first | done | exact ⟨rfl, rfl⟩)); (focus (intro w' hw';  go_at_call 197; refine (s_lesser_any _ _ _).mono ?_; rintro _ w2 ⟨r1, rfl, hr1, hb1⟩ ; exact ⟨_, rfl, by constructor <;> assumption, hw'.trans (by exact Below.mono (by assumption) hw'.size), by assumption⟩)); intro v hv; cases hv; go_simp; refine hK _ ?_; clear hK K) | (refine Qr.walk_plain rfl fun K hK => ?_; apply Qr.one_call; (focus (intro w' hw'; go_simp; first | done | exact ⟨rfl, rfl⟩)); (focus (intro w' hw';  go_at_call 198; refine (s_greater_any _ _ _).mono ?_; rintro _ w2 ⟨r1, rfl, hr1, hb1⟩ ; exact ⟨_, rfl, by constructor <;> assumption, hw'.trans (by exact Below.mono (by assumption) hw'.size), by assumption⟩)); intro v hv; cases hv; go_simp; refine hK _ ?_; clear hK K) | (refine Qr.walk_plain rfl fun K hK => ?_; apply Qr.one_call; (focus (intro w' hw'; go_simp; first | done | exact ⟨rfl, rfl⟩)); (focus (intro w' hw';  go_at_call 121; refine (s_less_any _ _ _ _ _ _ _).mono ?_; rintro _ w2 ⟨x1, y1, z1, rfl, hx1, hy1, hz1, hb1⟩ ; exact ⟨_, rfl, by constructor <;> assumption, hw'.trans (by exact Below.mono (by assumption) hw'.size), by assumption⟩)); intro v hv; cases hv; go_simp; refine hK _ ?_; clear hK K))
  refine Qr.walk_nil fun w3 hw3 => ?_
  have hkept := keep hkept hw3
  have Wb := below_step Wb hw3
  clear hK
  have hK := hkept
  simp only [Kept, List.forall_mem_append, List.forall_mem_cons, List.not_mem_nil, false_implies, implies_true, and_true, true_and] at hK
  go_wp2_with (first | (go_at_call 124; refine (s_long_any _ _ _ _).mono ?_; rintro _ w2 ⟨r1, rfl, hr1, hb1⟩; have HL := lift hb1; have HF := liftF hb1) | (go_at_call 167; refine (s_inner_any _ _ _ _ _ _ _).mono ?_; rintro _ w2 ⟨r1, rfl, hr1, hb1⟩; have HL := lift hb1; have HF := liftF hb1) | (go_at_call 74; refine (s_size_any _ _).mono ?_; rintro _ w2 ⟨r1, rfl, hr1, hb1⟩; have HL := lift hb1; have HF := liftF hb1) | (go_at_call 197; refine (s_lesser_any _ _ _).mono ?_; rintro _ w2 ⟨r1, rfl, hr1, hb1⟩; have HL := lift hb1; have HF := liftF hb1) | (go_at_call 198; refine (s_greater_any _ _ _).mono ?_; rintro _ w2 ⟨r1, rfl, hr1, hb1⟩; have HL := lift hb1; have HF := liftF hb1) | (refine wp_bin rfl _ _ _ _ _ rfl _ _ _ rfl rfl rfl ?_; intro r n hr))
  go_ret
  exact ⟨_, rfl, by simp only [tubeS, cn_zero, *], (by repeat' (first | exact Below.refl _ _ | exact Nat.le_refl _ | refine below_drewN ?_ _ | refine Below.alloc ?_ (by first | (simp; done) | (simp; omega)) _ | refine Below.setCell ?_ (by first | (simp; done) | (simp; omega)) _ | refine below_step ?_ (by assumption)))⟩

set_option maxRecDepth 100000 in
set_option maxHeartbeats 1000000 in
theorem s_leaf_ring (b o bv ov cap r0 r1 x y z : Nat) (w : World) (hk : w.cell? ⟨b, o, none⟩ = some (.int .i64 3))
    (hs : w.cell? ⟨b, o + 3, none⟩ = some (.slice (some ⟨bv, ov, none⟩) 2 cap)) (h0 : w.cell? ⟨bv, ov, none⟩ = some (.float .f32 r0)) (h1 : w.cell? ⟨bv, ov + 1, none⟩ = some (.float .f32 r1)) :
    Calls Tryz.prog 161 #[.pointer (some ⟨b, o, none⟩), V3 x y z] w (Ret .f32 (ringS (cn .f32 x) (cn .f32 y) (cn .f32 z) (cn .f32 r0) (cn .f32 r1)) w) := by
  have hb : b < w.heap.size := some_lt (a := ⟨b, o, none⟩) (by rw [hk]; rfl)
  have hbv : bv < w.heap.size := some_lt (a := ⟨bv, ov, none⟩) (by rw [h0]; rfl)
  have hk0 : Kept [(⟨b, o, none⟩, .int .i64 3), (⟨b, o + 3, none⟩, .slice (some ⟨bv, ov, none⟩) 2 cap), (⟨bv, ov, none⟩, .float .f32 r0), (⟨bv, ov + 1, none⟩, .float .f32 r1)] [] w := kof (by simp only [List.forall_mem_cons, List.not_mem_nil, false_implies, implies_true, and_true]; exact ⟨hk, hs, h0, h1⟩)
  go_enter Tryz.func161, Tryz.ntmps161
  go_wp2_with (first | (go_at_call 124; refine (s_long_any _ _ _ _).mono ?_; rintro _ w2 ⟨r1, rfl, hr1, hb1⟩; have HL := lift hb1; have HF := liftF hb1) | (go_at_call 167; refine (s_inner_any _ _ _ _ _ _ _).mono ?_; rintro _ w2 ⟨r1, rfl, hr1, hb1⟩; have HL := lift hb1; have HF := liftF hb1) | (go_at_call 74; refine (s_size_any _ _).mono ?_; rintro _ w2 ⟨r1, rfl, hr1, hb1⟩; have HL := lift hb1; have HF := liftF hb1) | (go_at_call 197; refine (s_lesser_any _ _ _).mono ?_; rintro _ w2 ⟨r1, rfl, hr1, hb1⟩; have HL := lift hb1; have HF := liftF hb1) | (go_at_call 198; refine (s_greater_any _ _ _).mono ?_; rintro _ w2 ⟨r1, rfl, hr1, hb1⟩; have HL := lift hb1; have HF := liftF hb1) | (refine wp_bin rfl _ _ _ _ _ rfl _ _ _ rfl rfl rfl ?_; intro r n hr))
  have Wb : Below w.heap.size w (w.alloc (.cells #[.float .f32 x, .float .f32 y, .float .f32 z] 35)) := (by repeat' (first | exact Below.refl _ _ | exact Nat.le_refl _ | refine below_drewN ?_ _ | refine Below.alloc ?_ (by first | (simp; done) | (simp; omega)) _ | refine Below.setCell ?_ (by first | (simp; done) | (simp; omega)) _ | refine below_step ?_ (by assumption)))

  have hkept := kept_app (keep hk0 Wb) (show Kept [(⟨w.heap.size, 0, none⟩, .float .f32 x), (⟨w.heap.size, 1, none⟩, .float .f32 y), (⟨w.heap.size, 2, none⟩, .float .f32 z)] [] (w.alloc (.cells #[.float .f32 x, .float .f32 y, .float .f32 z] 35)) by
    simp only [Kept, List.forall_mem_append, List.forall_mem_cons, List.not_mem_nil, false_implies, implies_true, and_true, true_and]; simp)
  clear hk0
  generalize (w.alloc (.cells #[.float .f32 x, .float .f32 y, .float .f32 z] 35)) = W1 at Wb hkept ⊢
  have hK := hkept
  simp only [Kept, List.forall_mem_append, List.forall_mem_cons, List.not_mem_nil, false_implies, implies_true, and_true, true_and] at hK
  refine Qr.wp_below_all (by kernel_rfl) (by kernel_rfl) PhiS ?_
  repeat (first | (refine Qr.walk_plain rfl fun K hK => ?_; refine one_bin _ _ _ _ _ rfl _ _ _ rfl rfl rfl (fun r hr => ?_); go_simp; refine hK _ ?_; clear hK K) | (refine Qr.walk_plain rfl fun K hK => ?_; apply Qr.one_det; (focus (intro w' hw'; have HK := keep hkept hw'; simp only [Kept, List.forall_mem_append, List.forall_mem_cons, List.not_mem_nil, false_implies, implies_true, and_true, true_and] at HK; go_simp; first | done | rfl)); go_simp; refine hK _ ?_; clear hK K) | (refine Qr.walk_plain rfl fun K hK => ?_; apply Qr.one_call; (focus (intro w' hw'; go_simp; first | done | exact ⟨rfl, rfl⟩)); (focus (intro w' hw';  go_at_call 124; refine (s_long_any _ _ _ _).mono ?_; rintro _ w2 ⟨r1, rfl, hr1, hb1⟩ ; exact ⟨_, rfl, by constructor <;> assumption, hw'.trans (by exact Below.mono (by assumption) hw'.size), by assumption⟩)); intro v hv; cases hv; go_simp; refine hK _ ?_; clear hK K) | (refine Qr.walk_plain rfl fun K hK => ?_; apply Qr.one_call; (focus (intro w' hw'; go_simp; first | done | exact ⟨rfl, rfl⟩)); (focus (intro w' hw';  go_at_call 167; refine (s_inner_any _ _ _ _ _ _ _).mono ?_; rintro _ w2 ⟨r1, rfl, hr1, hb1⟩ ; exact ⟨_, rfl, by constructor <;> assumption, hw'.trans (by exact Below.mono (by assumption) hw'.size), by assumption⟩)); intro v hv; cases hv; go_simp; refine hK _ ?_; clear hK K) | (refine Qr.walk_plain rfl fun K hK => ?_; apply Qr.one_call; (focus (intro w' hw'; go_simp; first | done | exact ⟨rfl, rfl⟩)); (focus (intro w' hw';  go_at_call 74; refine (s_size_any _ _).mono ?_; rintro _ w2 ⟨r1, rfl, hr1, hb1⟩ ; exact ⟨_, rfl, by constructor <;> assumption, hw'.trans (by exact Below.mono (by assumption) hw'.size), by assumption⟩)); intro v hv; cases hv; go_simp; refine hK _ ?_; clear hK K) | (refine Qr.walk_plain rfl fun K hK => ?_; apply Qr.one_call; (focus (intro w' hw'; go_simp; first | done | exact ⟨rfl, rfl⟩)); (focus (intro w' hw';  go_at_call 197; refine (s_lesser_any _ _ _).mono ?_; rintro _ w2 ⟨r1, rfl, hr1, hb1⟩ ; exact ⟨_, rfl, by constructor <;> assumption, hw'.trans (by exact Below.mono (by assumption) hw'.size), by assumption⟩)); intro v hv; cases hv; go_simp; refine hK _ ?_; clear hK K) | (refine Qr.walk_plain rfl fun K hK => ?_; apply Qr.one_call; (focus (intro w' hw'; go_simp; first | done | exact ⟨rfl, rfl⟩)); (focus (intro w' hw';  go_at_call 198; refine (s_greater_any _ _ _).mono ?_; rintro _ w2 ⟨r1, rfl, hr1, hb1⟩ ; exact ⟨_, rfl, by constructor <;> assumption, hw'.trans (by exact Below.mono (by assumption) hw'.size), by assumption⟩)); intro v hv; cases hv; go_simp; refine hK _ ?_; clear hK K) | (refine Qr.walk_plain rfl fun K hK => ?_; apply Qr.one_call; (focus (intro w' hw'; go_simp; first | done | exact ⟨rfl, rfl⟩)); (focus (intro w' hw';  go_at_call 121; refine (s_less_any _ _ _ _ _ _ _).mono ?_; rintro _ w2 ⟨x1, y1, z1, rfl, hx1, hy1, hz1, hb1⟩ ; exact ⟨_, rfl, by constructor <;> assumption, hw'.trans (by exact Below.mono (by assumption) hw'.size), by assumption⟩)); intro v hv; cases hv; go_simp; refine hK _ ?_; clear hK K))
  refine Qr.walk_nil fun w3 hw3 => ?_
  have hkept := keep hkept hw3
  have Wb := below_step Wb hw3
  clear hK
  have hK := hkept
  simp only [Kept, List.forall_mem_append, List.forall_mem_cons, List.not_mem_nil, false_implies, implies_true, and_true, true_and] at hK
  go_wp2_with (first | (go_at_call 124; refine (s_long_any _ _ _ _).mono ?_; rintro _ w2 ⟨r1, rfl, hr1, hb1⟩; have HL := lift hb1; have HF := liftF hb1) | (go_at_call 167; refine (s_inner_any _ _ _ _ _ _ _).mono ?_; rintro _ w2 ⟨r1, rfl, hr1, hb1⟩; have HL := lift hb1; have HF := liftF hb1) | (go_at_call 74; refine (s_size_any _ _).mono ?_; rintro _ w2 ⟨r1, rfl, hr1, hb1⟩; have HL := lift hb1; have HF := liftF hb1) | (go_at_call 197; refine (s_lesser_any _ _ _).mono ?_; rintro _ w2 ⟨r1, rfl, hr1, hb1⟩; have HL := lift hb1; have HF := liftF hb1) | (go_at_call 198; refine (s_greater_any _ _ _).mono ?_; rintro _ w2 ⟨r1, rfl, hr1, hb1⟩; have HL := lift hb1; have HF := liftF hb1) | (refine wp_bin rfl _ _ _ _ _ rfl _ _ _ rfl rfl rfl ?_; intro r n hr))
  refine Qr.wp_below_all (by kernel_rfl) (by kernel_rfl) PhiS ?_
  repeat (first | (refine Qr.walk_plain rfl fun K hK => ?_; refine one_bin _ _ _ _ _ rfl _ _ _ rfl rfl rfl (fun r hr => ?_); go_simp; refine hK _ ?_; clear hK K) | (refine Qr.walk_plain rfl fun K hK => ?_; apply Qr.one_det; (focus (intro w' hw'; have HK := keep hkept hw'; simp only [Kept, List.forall_mem_append, List.forall_mem_cons, List.not_mem_nil, false_implies, implies_true, and_true, true_and] at HK; go_simp; first | done | rfl)); go_simp; refine hK _ ?_; clear hK K) | (refine Qr.walk_plain rfl fun K hK => ?_; apply Qr.one_call; (focus (intro w' hw'; go_simp; first | done | exact ⟨rfl, rfl⟩)); (focus (intro w' hw';  go_at_call 124; refine (s_long_any _ _ _ _).mono ?_; rintro _ w2 ⟨r1, rfl, hr1, hb1⟩ ; exact ⟨_, rfl, by constructor <;> assumption, hw'.trans (by exact Below.mono (by assumption) hw'.size), by assumption⟩)); intro v hv; cases hv; go_simp; refine hK _ ?_; clear hK K) | (refine Qr.walk_plain rfl fun K hK => ?_; apply Qr.one_call; (focus (intro w' hw'; go_simp; first | done | exact ⟨rfl, rfl⟩)); (focus (intro w' hw';  go_at_call 167; refine (s_inner_any _ _ _ _ _ _ _).mono ?_; rintro _ w2 ⟨r1, rfl, hr1, hb1⟩ ; exact ⟨_, rfl, by constructor <;> assumption, hw'.trans (by exact Below.mono (by assumption) hw'.size), by assumption⟩)); intro v hv; cases hv; go_simp; refine hK _ ?_; clear hK K) | (refine Qr.walk_plain rfl fun K hK => ?_; apply Qr.one_call; (focus (intro w' hw'; go_simp; first | done | exact ⟨rfl, rfl⟩)); (focus (intro w' hw';  go_at_call 74; refine (s_size_any _ _).mono ?_; rintro _ w2 ⟨r1, rfl, hr1, hb1⟩ ; exact ⟨_, rfl, by constructor <;> assumption, hw'.trans (by exact Below.mono (by assumption) hw'.size), by assumption⟩)); intro v hv; cases hv; go_simp; refine hK _ ?_; clear hK K) | (refine Qr.walk_plain rfl fun K hK => ?_; apply Qr.one_call; (focus (intro w' hw'; go_simp; first | done | exact ⟨rfl, rfl⟩)); (focus (intro w' hw';  go_at_call 197; refine (s_lesser_any _ _ _).mono ?_; rintro _ w2 ⟨r1, rfl, hr1, hb1⟩ ; exact ⟨_, rfl, by constructor <;> assumption, hw'.trans (by exact Below.mono (by assumption) hw'.size), by assumption⟩)); intro v hv; cases hv; go_simp; refine hK _ ?_; clear hK K) | (refine Qr.walk_plain rfl fun K hK => ?_; apply Qr.one_call; (focus (intro w' hw'; go_simp; first | done | exact ⟨rfl, rfl⟩)); (focus (intro w' hw';  go_at_call 198; refine (s_greater_any _ _ _).mono ?_; rintro _ w2 ⟨r1, rfl, hr1, hb1⟩ ; exact ⟨_, rfl, by constructor <;> assumption, hw'.trans (by exact Below.mono (by assumption) hw'.size), by assumption⟩)); intro v hv; cases hv; go_simp; refine hK _ ?_; clear hK K) | (refine Qr.walk_plain rfl fun K hK => ?_; apply Qr.one_call; (focus (intro w' hw'; go_simp; first | done | exact ⟨rfl, rfl⟩)); (focus (intro w' hw';  go_at_call 121; refine (s_less_any _ _ _ _ _ _ _).mono ?_; rintro _ w2 ⟨x1, y1, z1, rfl, hx1, hy1, hz1, hb1⟩ ; exact ⟨_, rfl, by constructor <;> assumption, hw'.trans (by exact Below.mono (by assumption) hw'.size), by assumption⟩)); intro v hv; cases hv; go_simp; refine hK _ ?_; clear hK K))
  refine Qr.walk_nil fun w3 hw3 => ?_
  have hkept := keep hkept hw3
  have Wb := below_step Wb hw3
  clear hK
  have hK := hkept
  simp only [Kept, List.forall_mem_append, List.forall_mem_cons, List.not_mem_nil, false_implies, implies_true, and_true, true_and] at hK
  go_wp2_with (first | (go_at_call 124; refine (s_long_any _ _ _ _).mono ?_; rintro _ w2 ⟨r1, rfl, hr1, hb1⟩; have HL := lift hb1; have HF := liftF hb1) | (go_at_call 167; refine (s_inner_any _ _ _ _ _ _ _).mono ?_; rintro _ w2 ⟨r1, rfl, hr1, hb1⟩; have HL := lift hb1; have HF := liftF hb1) | (go_at_call 74; refine (s_size_any _ _).mono ?_; rintro _ w2 ⟨r1, rfl, hr1, hb1⟩; have HL := lift hb1; have HF := liftF hb1) | (go_at_call 197; refine (s_lesser_any _ _ _).mono ?_; rintro _ w2 ⟨r1, rfl, hr1, hb1⟩; have HL := lift hb1; have HF := liftF hb1) | (go_at_call 198; refine (s_greater_any _ _ _).mono ?_; rintro _ w2 ⟨r1, rfl, hr1, hb1⟩; have HL := lift hb1; have HF := liftF hb1) | (refine wp_bin rfl _ _ _ _ _ rfl _ _ _ rfl rfl rfl ?_; intro r n hr))
  go_ret
  exact ⟨_, rfl, by simp only [ringS, cn_zero, *], (by repeat' (first | exact Below.refl _ _ | exact Nat.le_refl _ | refine below_drewN ?_ _ | refine Below.alloc ?_ (by first | (simp; done) | (simp; omega)) _ | refine Below.setCell ?_ (by first | (simp; done) | (simp; omega)) _ | refine below_step ?_ (by assumption)))⟩

set_option maxRecDepth 100000 in
set_option maxHeartbeats 1000000 in
theorem s_leaf_plane (b o bv ov cap r0 r1 r2 r3 x y z : Nat) (w : World) (hk : w.cell? ⟨b, o, none⟩ = some (.int .i64 4))
    (hs : w.cell? ⟨b, o + 3, none⟩ = some (.slice (some ⟨bv, ov, none⟩) 4 cap)) (h0 : w.cell? ⟨bv, ov, none⟩ = some (.float .f32 r0)) (h1 : w.cell? ⟨bv, ov + 1, none⟩ = some (.float .f32 r1)) (h2 : w.cell? ⟨bv, ov + 2, none⟩ = some (.float .f32 r2)) (h3 : w.cell? ⟨bv, ov + 3, none⟩ = some (.float .f32 r3)) :
    Calls Tryz.prog 161 #[.pointer (some ⟨b, o, none⟩), V3 x y z] w (Ret .f32 (planeF (cn .f32 x) (cn .f32 y) (cn .f32 z) (cn .f32 r0) (cn .f32 r1) (cn .f32 r2) (cn .f32 r3)) w) := by
  have hb : b < w.heap.size := some_lt (a := ⟨b, o, none⟩) (by rw [hk]; rfl)
  have hbv : bv < w.heap.size := some_lt (a := ⟨bv, ov, none⟩) (by rw [h0]; rfl)
  go_enter Tryz.func161, Tryz.ntmps161
  go_wp2_with (first | (go_at_call 124; refine (s_long_any _ _ _ _).mono ?_; rintro _ w2 ⟨r1, rfl, hr1, hb1⟩; have HL := lift hb1; have HF := liftF hb1) | (go_at_call 167; refine (s_inner_any _ _ _ _ _ _ _).mono ?_; rintro _ w2 ⟨r1, rfl, hr1, hb1⟩; have HL := lift hb1; have HF := liftF hb1) | (go_at_call 74; refine (s_size_any _ _).mono ?_; rintro _ w2 ⟨r1, rfl, hr1, hb1⟩; have HL := lift hb1; have HF := liftF hb1) | (go_at_call 197; refine (s_lesser_any _ _ _).mono ?_; rintro _ w2 ⟨r1, rfl, hr1, hb1⟩; have HL := lift hb1; have HF := liftF hb1) | (go_at_call 198; refine (s_greater_any _ _ _).mono ?_; rintro _ w2 ⟨r1, rfl, hr1, hb1⟩; have HL := lift hb1; have HF := liftF hb1) | (refine wp_bin rfl _ _ _ _ _ rfl _ _ _ rfl rfl rfl ?_; intro r n hr))
  refine Qr.wp_below_all (by kernel_rfl) (by kernel_rfl) PhiS ?_
  repeat (first | (refine Qr.walk_plain rfl fun K hK => ?_; refine one_bin _ _ _ _ _ rfl _ _ _ rfl rfl rfl (fun r hr => ?_); go_simp; refine hK _ ?_; clear hK K) | (refine Qr.walk_plain rfl fun K hK => ?_; apply Qr.one_det; (focus (intro w' hw'; have HL := lift hw'; go_simp; first | done | rfl)); go_simp; refine hK _ ?_; clear hK K) | (refine Qr.walk_plain rfl fun K hK => ?_; apply Qr.one_call; (focus (intro w' hw'; go_simp; first | done | exact ⟨rfl, rfl⟩)); (focus (intro w' hw';  go_at_call 124; refine (s_long_any _ _ _ _).mono ?_; rintro _ w2 ⟨r1, rfl, hr1, hb1⟩ ; exact ⟨_, rfl, by constructor <;> assumption, hw'.trans (by exact Below.mono (by assumption) hw'.size), by assumption⟩)); intro v hv; cases hv; go_simp; refine hK _ ?_; clear hK K) | (refine Qr.walk_plain rfl fun K hK => ?_; apply Qr.one_call; (focus (intro w' hw'; go_simp; first | done | exact ⟨rfl, rfl⟩)); (focus (intro w' hw';  go_at_call 167; refine (s_inner_any _ _ _ _ _ _ _).mono ?_; rintro _ w2 ⟨r1, rfl, hr1, hb1⟩ ; exact ⟨_, rfl, by constructor <;> assumption, hw'.trans (by exact Below.mono (by assumption) hw'.size), by assumption⟩)); intro v hv; cases hv; go_simp; refine hK _ ?_; clear hK K) | (refine Qr.walk_plain rfl fun K hK => ?_; apply Qr.one_call; (focus (intro w' hw'; go_simp; first | done | exact ⟨rfl, rfl⟩)); (focus (intro w' hw';  go_at_call 74; refine (s_size_any _ _).mono ?_; rintro _ w2 ⟨r1, rfl, hr1, hb1⟩ ; exact ⟨_, rfl, by constructor <;> assumption, hw'.trans (by exact Below.mono (by assumption) hw'.size), by assumption⟩)); intro v hv; cases hv; go_simp; refine hK _ ?_; clear hK K) | (refine Qr.walk_plain rfl fun K hK => ?_; apply Qr.one_call; (focus (intro w' hw'; go_simp; first | done | exact ⟨rfl, rfl⟩)); (focus (intro w' hw';  go_at_call 197; refine (s_lesser_any _ _ _).mono ?_; rintro _ w2 ⟨r1, rfl, hr1, hb1⟩ ; exact ⟨_, rfl, by constructor <;> assumption, hw'.trans (by exact Below.mono (by assumption) hw'.size), by assumption⟩)); intro v hv; cases hv; go_simp; refine hK _ ?_; clear hK K) | (refine Qr.walk_plain rfl fun K hK => ?_; apply Qr.one_call; (focus (intro w' hw'; go_simp; first | done | exact ⟨rfl, rfl⟩)); (focus (intro w' hw';  go_at_call 198; refine (s_greater_any _ _ _).mono ?_; rintro _ w2 ⟨r1, rfl, hr1, hb1⟩ ; exact ⟨_, rfl, by constructor <;> assumption, hw'.trans (by exact Below.mono (by assumption) hw'.size), by assumption⟩)); intro v hv; cases hv; go_simp; refine hK _ ?_; clear hK K) | (refine Qr.walk_plain rfl fun K hK => ?_; apply Qr.one_call; (focus (intro w' hw'; go_simp; first | done | exact ⟨rfl, rfl⟩)); (focus (intro w' hw';  go_at_call 121; refine (s_less_any _ _ _ _ _ _ _).mono ?_; rintro _ w2 ⟨x1, y1, z1, rfl, hx1, hy1, hz1, hb1⟩ ; exact ⟨_, rfl, by constructor <;> assumption, hw'.trans (by exact Below.mono (by assumption) hw'.size), by assumption⟩)); intro v hv; cases hv; go_simp; refine hK _ ?_; clear hK K))
  refine Qr.walk_nil fun w3 hw3 => ?_
  have HL3 := lift hw3
  go_wp2_with (first | (go_at_call 124; refine (s_long_any _ _ _ _).mono ?_; rintro _ w2 ⟨r1, rfl, hr1, hb1⟩; have HL := lift hb1; have HF := liftF hb1) | (go_at_call 167; refine (s_inner_any _ _ _ _ _ _ _).mono ?_; rintro _ w2 ⟨r1, rfl, hr1, hb1⟩; have HL := lift hb1; have HF := liftF hb1) | (go_at_call 74; refine (s_size_any _ _).mono ?_; rintro _ w2 ⟨r1, rfl, hr1, hb1⟩; have HL := lift hb1; have HF := liftF hb1) | (go_at_call 197; refine (s_lesser_any _ _ _).mono ?_; rintro _ w2 ⟨r1, rfl, hr1, hb1⟩; have HL := lift hb1; have HF := liftF hb1) | (go_at_call 198; refine (s_greater_any _ _ _).mono ?_; rintro _ w2 ⟨r1, rfl, hr1, hb1⟩; have HL := lift hb1; have HF := liftF hb1) | (refine wp_bin rfl _ _ _ _ _ rfl _ _ _ rfl rfl rfl ?_; intro r n hr))
  go_ret
  exact ⟨_, rfl, by simp only [planeF, cn_zero, *], (by repeat' (first | exact Below.refl _ _ | exact Nat.le_refl _ | refine below_drewN ?_ _ | refine Below.alloc ?_ (by first | (simp; done) | (simp; omega)) _ | refine Below.setCell ?_ (by first | (simp; done) | (simp; omega)) _ | refine below_step ?_ (by assumption)))⟩

set_option maxRecDepth 100000 in
set_option maxHeartbeats 1000000 in
theorem s_leaf_box (b o bv ov cap r0 r1 r2 x y z : Nat) (w : World) (hk : w.cell? ⟨b, o, none⟩ = some (.int .i64 1))
    (hs : w.cell? ⟨b, o + 3, none⟩ = some (.slice (some ⟨bv, ov, none⟩) 3 cap)) (h0 : w.cell? ⟨bv, ov, none⟩ = some (.float .f32 r0)) (h1 : w.cell? ⟨bv, ov + 1, none⟩ = some (.float .f32 r1)) (h2 : w.cell? ⟨bv, ov + 2, none⟩ = some (.float .f32 r2)) :
    Calls Tryz.prog 161 #[.pointer (some ⟨b, o, none⟩), V3 x y z] w (Ret .f32 (boxS (cn .f32 x) (cn .f32 y) (cn .f32 z) (cn .f32 r0) (cn .f32 r1) (cn .f32 r2)) w) := by
  have hb : b < w.heap.size := some_lt (a := ⟨b, o, none⟩) (by rw [hk]; rfl)
  have hbv : bv < w.heap.size := some_lt (a := ⟨bv, ov, none⟩) (by rw [h0]; rfl)
  have hk0 : Kept [(⟨b, o, none⟩, .int .i64 1), (⟨b, o + 3, none⟩, .slice (some ⟨bv, ov, none⟩) 3 cap), (⟨bv, ov, none⟩, .float .f32 r0), (⟨bv, ov + 1, none⟩, .float .f32 r1), (⟨bv, ov + 2, none⟩, .float .f32 r2)] [] w := kof (by simp only [List.forall_mem_cons, List.not_mem_nil, false_implies, implies_true, and_true]; exact ⟨hk, hs, h0, h1, h2⟩)
  go_enter Tryz.func161, Tryz.ntmps161
  go_wp2_with (first | (go_at_call 124; refine (s_long_any _ _ _ _).mono ?_; rintro _ w2 ⟨r1, rfl, hr1, hb1⟩; have HL := lift hb1; have HF := liftF hb1) | (go_at_call 167; refine (s_inner_any _ _ _ _ _ _ _).mono ?_; rintro _ w2 ⟨r1, rfl, hr1, hb1⟩; have HL := lift hb1; have HF := liftF hb1) | (go_at_call 74; refine (s_size_any _ _).mono ?_; rintro _ w2 ⟨r1, rfl, hr1, hb1⟩; have HL := lift hb1; have HF := liftF hb1) | (go_at_call 197; refine (s_lesser_any _ _ _).mono ?_; rintro _ w2 ⟨r1, rfl, hr1, hb1⟩; have HL := lift hb1; have HF := liftF hb1) | (go_at_call 198; refine (s_greater_any _ _ _).mono ?_; rintro _ w2 ⟨r1, rfl, hr1, hb1⟩; have HL := lift hb1; have HF := liftF hb1) | (refine wp_bin rfl _ _ _ _ _ rfl _ _ _ rfl rfl rfl ?_; intro r n hr))
  have Wb : Below w.heap.size w (w.alloc (.cells #[.float .f32 x, .float .f32 y, .float .f32 z] 35)) := (by repeat' (first | exact Below.refl _ _ | exact Nat.le_refl _ | refine below_drewN ?_ _ | refine Below.alloc ?_ (by first | (simp; done) | (simp; omega)) _ | refine Below.setCell ?_ (by first | (simp; done) | (simp; omega)) _ | refine below_step ?_ (by assumption)))

  have hkept := kept_app (keep hk0 Wb) (show Kept [(⟨w.heap.size, 0, none⟩, .float .f32 x), (⟨w.heap.size, 1, none⟩, .float .f32 y), (⟨w.heap.size, 2, none⟩, .float .f32 z)] [] (w.alloc (.cells #[.float .f32 x, .float .f32 y, .float .f32 z] 35)) by
    simp only [Kept, List.forall_mem_append, List.forall_mem_cons, List.not_mem_nil, false_implies, implies_true, and_true, true_and]; simp)
  clear hk0
  generalize (w.alloc (.cells #[.float .f32 x, .float .f32 y, .float .f32 z] 35)) = W1 at Wb hkept ⊢
  have hK := hkept
  simp only [Kept, List.forall_mem_append, List.forall_mem_cons, List.not_mem_nil, false_implies, implies_true, and_true, true_and] at hK
  refine Qr.wp_below_all (by kernel_rfl) (by kernel_rfl) PhiS ?_
  repeat (first | (refine Qr.walk_plain rfl fun K hK => ?_; refine one_bin _ _ _ _ _ rfl _ _ _ rfl rfl rfl (fun r hr => ?_); go_simp; refine hK _ ?_; clear hK K) | (refine Qr.walk_plain rfl fun K hK => ?_; apply Qr.one_det; (focus (intro w' hw'; have HK := keep hkept hw'; simp only [Kept, List.forall_mem_append, List.forall_mem_cons, List.not_mem_nil, false_implies, implies_true, and_true, true_and] at HK; go_simp; first | done | rfl)); go_simp; refine hK _ ?_; clear hK K) | (refine Qr.walk_plain rfl fun K hK => ?_; apply Qr.one_call; (focus (intro w' hw'; go_simp; first | done | exact ⟨rfl, rfl⟩)); (focus (intro w' hw';  go_at_call 124; refine (s_long_any _ _ _ _).mono ?_; rintro _ w2 ⟨r1, rfl, hr1, hb1⟩ ; exact ⟨_, rfl, by constructor <;> assumption, hw'.trans (by exact Below.mono (by assumption) hw'.size), by assumption⟩)); intro v hv; cases hv; go_simp; refine hK _ ?_; clear hK K) | (refine Qr.walk_plain rfl fun K hK => ?_; apply Qr.one_call; (focus (intro w' hw'; go_simp; first | done | exact ⟨rfl, rfl⟩)); (focus (intro w' hw';  go_at_call 167; refine (s_inner_any _ _ _ _ _ _ _).mono ?_; rintro _ w2 ⟨r1, rfl, hr1, hb1⟩ ; exact ⟨_, rfl, by constructor <;> assumption, hw'.trans (by exact Below.mono (by assumption) hw'.size), by assumption⟩)); intro v hv; cases hv; go_simp; refine hK _ ?_; clear hK K) | (refine Qr.walk_plain rfl fun K hK => ?_; apply Qr.one_call; (focus (intro w' hw'; go_simp; first | done | exact ⟨rfl, rfl⟩)); (focus (intro w' hw';  go_at_call 74; refine (s_size_any _ _).mono ?_; rintro _ w2 ⟨r1, rfl, hr1, hb1⟩ ; exact ⟨_, rfl, by constructor <;> assumption, hw'.trans (by exact Below.mono (by assumption) hw'.size), by assumption⟩)); intro v hv; cases hv; go_simp; refine hK _ ?_; clear hK K) | (refine Qr.walk_plain rfl fun K hK => ?_; apply Qr.one_call; (focus (intro w' hw'; go_simp; first | done | exact ⟨rfl, rfl⟩)); (focus (intro w' hw';  go_at_call 197; refine (s_lesser_any _ _ _).mono ?_; rintro _ w2 ⟨r1, rfl, hr1, hb1⟩ ; exact ⟨_, rfl, by constructor <;> assumption, hw'.trans (by exact Below.mono (by assumption) hw'.size), by assumption⟩)); intro v hv; cases hv; go_simp; refine hK _ ?_; clear hK K) | (refine Qr.walk_plain rfl fun K hK => ?_; apply Qr.one_call; (focus (intro w' hw'; go_simp; first | done | exact ⟨rfl, rfl⟩)); (focus (intro w' hw';  go_at_call 198; refine (s_greater_any _ _ _).mono ?_; rintro _ w2 ⟨r1, rfl, hr1, hb1⟩ ; exact ⟨_, rfl, by constructor <;> assumption, hw'.trans (by exact Below.mono (by assumption) hw'.size), by assumption⟩)); intro v hv; cases hv; go_simp; refine hK _ ?_; clear hK K) | (refine Qr.walk_plain rfl fun K hK => ?_; apply Qr.one_call; (focus (intro w' hw'; go_simp; first | done | exact ⟨rfl, rfl⟩)); (focus (intro w' hw';  go_at_call 121; refine (s_less_any _ _ _ _ _ _ _).mono ?_; rintro _ w2 ⟨x1, y1, z1, rfl, hx1, hy1, hz1, hb1⟩ ; exact ⟨_, rfl, by constructor <;> assumption, hw'.trans (by exact Below.mono (by assumption) hw'.size), by assumption⟩)); intro v hv; cases hv; go_simp; refine hK _ ?_; clear hK K))
  refine Qr.walk_nil fun w3 hw3 => ?_
  have hkept := keep hkept hw3
  have Wb := below_step Wb hw3
  clear hK
  have hK := hkept
  simp only [Kept, List.forall_mem_append, List.forall_mem_cons, List.not_mem_nil, false_implies, implies_true, and_true, true_and] at hK
  go_wp2_with (first | (go_at_call 124; refine (s_long_any _ _ _ _).mono ?_; rintro _ w2 ⟨r1, rfl, hr1, hb1⟩; have HL := lift hb1; have HF := liftF hb1) | (go_at_call 167; refine (s_inner_any _ _ _ _ _ _ _).mono ?_; rintro _ w2 ⟨r1, rfl, hr1, hb1⟩; have HL := lift hb1; have HF := liftF hb1) | (go_at_call 74; refine (s_size_any _ _).mono ?_; rintro _ w2 ⟨r1, rfl, hr1, hb1⟩; have HL := lift hb1; have HF := liftF hb1) | (go_at_call 197; refine (s_lesser_any _ _ _).mono ?_; rintro _ w2 ⟨r1, rfl, hr1, hb1⟩; have HL := lift hb1; have HF := liftF hb1) | (go_at_call 198; refine (s_greater_any _ _ _).mono ?_; rintro _ w2 ⟨r1, rfl, hr1, hb1⟩; have HL := lift hb1; have HF := liftF hb1) | (refine wp_bin rfl _ _ _ _ _ rfl _ _ _ rfl rfl rfl ?_; intro r n hr))
  refine Qr.wp_below_all (by kernel_rfl) (by kernel_rfl) PhiS ?_
  repeat (first | (refine Qr.walk_plain rfl fun K hK => ?_; refine one_bin _ _ _ _ _ rfl _ _ _ rfl rfl rfl (fun r hr => ?_); go_simp; refine hK _ ?_; clear hK K) | (refine Qr.walk_plain rfl fun K hK => ?_; apply Qr.one_det; (focus (intro w' hw'; have HK := keep hkept hw'; simp only [Kept, List.forall_mem_append, List.forall_mem_cons, List.not_mem_nil, false_implies, implies_true, and_true, true_and] at HK; go_simp; first | done | rfl)); go_simp; refine hK _ ?_; clear hK K) | (refine Qr.walk_plain rfl fun K hK => ?_; apply Qr.one_call; (focus (intro w' hw'; go_simp; first | done | exact ⟨rfl, rfl⟩)); (focus (intro w' hw';  go_at_call 124; refine (s_long_any _ _ _ _).mono ?_; rintro _ w2 ⟨r1, rfl, hr1, hb1⟩ ; exact ⟨_, rfl, by constructor <;> assumption, hw'.trans (by exact Below.mono (by assumption) hw'.size), by assumption⟩)); intro v hv; cases hv; go_simp; refine hK _ ?_; clear hK K) | (refine Qr.walk_plain rfl fun K hK => ?_; apply Qr.one_call; (focus (intro w' hw'; go_simp; first | done | exact ⟨rfl, rfl⟩)); (focus (intro w' hw';  go_at_call 167; refine (s_inner_any _ _ _ _ _ _ _).mono ?_; rintro _ w2 ⟨r1, rfl, hr1, hb1⟩ ; exact ⟨_, rfl, by constructor <;> assumption, hw'.trans (by exact Below.mono (by assumption) hw'.size), by assumption⟩)); intro v hv; cases hv; go_simp; refine hK _ ?_; clear hK K) | (refine Qr.walk_plain rfl fun K hK => ?_; apply Qr.one_call; (focus (intro w' hw'; go_simp; first | done | exact ⟨rfl, rfl⟩)); (focus (intro w' hw';  go_at_call 74; refine (s_size_any _ _).mono ?_; rintro _ w2 ⟨r1, rfl, hr1, hb1⟩ ; exact ⟨_, rfl, by constructor <;> assumption, hw'.trans (by exact Below.mono (by assumption) hw'.size), by assumption⟩)); intro v hv; cases hv; go_simp; refine hK _ ?_; clear hK K) | (refine Qr.walk_plain rfl fun K hK => ?_; apply Qr.one_call; (focus (intro w' hw'; go_simp; first | done | exact ⟨rfl, rfl⟩)); (focus (intro w' hw';  go_at_call 197; refine (s_lesser_any _ _ _).mono ?_; rintro _ w2 ⟨r1, rfl, hr1, hb1⟩ ; exact ⟨_, rfl, by constructor <;> assumption, hw'.trans (by exact Below.mono (by assumption) hw'.size), by assumption⟩)); intro v hv; cases hv; go_simp; refine hK _ ?_; clear hK K) | (refine Qr.walk_plain rfl fun K hK => ?_; apply Qr.one_call; (focus (intro w' hw'; go_simp; first | done | exact ⟨rfl, rfl⟩)); (focus (intro w' hw';  go_at_call 198; refine (s_greater_any _ _ _).mono ?_; rintro _ w2 ⟨r1, rfl, hr1, hb1⟩ ; exact ⟨_, rfl, by constructor <;> assumption, hw'.trans (by exact Below.mono (by assumption) hw'.size), by assumption⟩)); intro v hv; cases hv; go_simp; refine hK _ ?_; clear hK K) | (refine Qr.walk_plain rfl fun K hK => ?_; apply Qr.one_call; (focus (intro w' hw'; go_simp; first | done | exact ⟨rfl, rfl⟩)); (focus (intro w' hw';  go_at_call 121; refine (s_less_any _ _ _ _ _ _ _).mono ?_; rintro _ w2 ⟨x1, y1, z1, rfl, hx1, hy1, hz1, hb1⟩ ; exact ⟨_, rfl, by constructor <;> assumption, hw'.trans (by exact Below.mono (by assumption) hw'.size), by assumption⟩)); intro v hv; cases hv; go_simp; refine hK _ ?_; clear hK K))
  refine Qr.walk_nil fun w3 hw3 => ?_
  have hkept := keep hkept hw3
  have Wb := below_step Wb hw3
  clear hK
  have hK := hkept
  simp only [Kept, List.forall_mem_append, List.forall_mem_cons, List.not_mem_nil, false_implies, implies_true, and_true, true_and] at hK
  go_wp2_with (first | (go_at_call 124; refine (s_long_any _ _ _ _).mono ?_; rintro _ w2 ⟨r1, rfl, hr1, hb1⟩; have HL := lift hb1; have HF := liftF hb1) | (go_at_call 167; refine (s_inner_any _ _ _ _ _ _ _).mono ?_; rintro _ w2 ⟨r1, rfl, hr1, hb1⟩; have HL := lift hb1; have HF := liftF hb1) | (go_at_call 74; refine (s_size_any _ _).mono ?_; rintro _ w2 ⟨r1, rfl, hr1, hb1⟩; have HL := lift hb1; have HF := liftF hb1) | (go_at_call 197; refine (s_lesser_any _ _ _).mono ?_; rintro _ w2 ⟨r1, rfl, hr1, hb1⟩; have HL := lift hb1; have HF := liftF hb1) | (go_at_call 198; refine (s_greater_any _ _ _).mono ?_; rintro _ w2 ⟨r1, rfl, hr1, hb1⟩; have HL := lift hb1; have HF := liftF hb1) | (refine wp_bin rfl _ _ _ _ _ rfl _ _ _ rfl rfl rfl ?_; intro r n hr))
  refine Qr.wp_below_all (by kernel_rfl) (by kernel_rfl) PhiS ?_
  repeat (first | (refine Qr.walk_plain rfl fun K hK => ?_; refine one_bin _ _ _ _ _ rfl _ _ _ rfl rfl rfl (fun r hr => ?_); go_simp; refine hK _ ?_; clear hK K) | (refine Qr.walk_plain rfl fun K hK => ?_; apply Qr.one_det; (focus (intro w' hw'; have HK := keep hkept hw'; simp only [Kept, List.forall_mem_append, List.forall_mem_cons, List.not_mem_nil, false_implies, implies_true, and_true, true_and] at HK; go_simp; first | done | rfl)); go_simp; refine hK _ ?_; clear hK K) | (refine Qr.walk_plain rfl fun K hK => ?_; apply Qr.one_call; (focus (intro w' hw'; go_simp; first | done | exact ⟨rfl, rfl⟩)); (focus (intro w' hw';  go_at_call 124; refine (s_long_any _ _ _ _).mono ?_; rintro _ w2 ⟨r1, rfl, hr1, hb1⟩ ; exact ⟨_, rfl, by constructor <;> assumption, hw'.trans (by exact Below.mono (by assumption) hw'.size), by assumption⟩)); intro v hv; cases hv; go_simp; refine hK _ ?_; clear hK K) | (refine Qr.walk_plain rfl fun K hK => ?_; apply Qr.one_call; (focus (intro w' hw'; go_simp; first | done | exact ⟨rfl, rfl⟩)); (focus (intro w' hw';  go_at_call 167; refine (s_inner_any _ _ _ _ _ _ _).mono ?_; rintro _ w2 ⟨r1, rfl, hr1, hb1⟩ ; exact ⟨_, rfl, by constructor <;> assumption, hw'.trans (by exact Below.mono (by assumption) hw'.size), by assumption⟩)); intro v hv; cases hv; go_simp; refine hK _ ?_; clear hK K) | (refine Qr.walk_plain rfl fun K hK => ?_; apply Qr.one_call; (focus (intro w' hw'; go_simp; first | done | exact ⟨rfl, rfl⟩)); (focus (intro w' hw';  go_at_call 74; refine (s_size_any _ _).mono ?_; rintro _ w2 ⟨r1, rfl, hr1, hb1⟩ ; exact ⟨_, rfl, by constructor <;> assumption, hw'.trans (by exact Below.mono (by assumption) hw'.size), by assumption⟩)); intro v hv; cases hv; go_simp; refine hK _ ?_; clear hK K) | (refine Qr.walk_plain rfl fun K hK => ?_; apply Qr.one_call; (focus (intro w' hw'; go_simp; first | done | exact ⟨rfl, rfl⟩)); (focus (intro w' hw';  go_at_call 197; refine (s_lesser_any _ _ _).mono ?_; rintro _ w2 ⟨r1, rfl, hr1, hb1⟩ ; exact ⟨_, rfl, by constructor <;> assumption, hw'.trans (by exact Below.mono (by assumption) hw'.size), by assumption⟩)); intro v hv; cases hv; go_simp; refine hK _ ?_; clear hK K) | (refine Qr.walk_plain rfl fun K hK => ?_; apply Qr.one_call; (focus (intro w' hw'; go_simp; first | done | exact ⟨rfl, rfl⟩)); (focus (intro w' hw';  go_at_call 198; refine (s_greater_any _ _ _).mono ?_; rintro _ w2 ⟨r1, rfl, hr1, hb1⟩ ; exact ⟨_, rfl, by constructor <;> assumption, hw'.trans (by exact Below.mono (by assumption) hw'.size), by assumption⟩)); intro v hv; cases hv; go_simp; refine hK _ ?_; clear hK K) | (refine Qr.walk_plain rfl fun K hK => ?_; apply Qr.one_call; (focus (intro w' hw'; go_simp; first | done | exact ⟨rfl, rfl⟩)); (focus (intro w' hw';  go_at_call 121; refine (s_less_any _ _ _ _ _ _ _).mono ?_; rintro _ w2 ⟨x1, y1, z1, rfl, hx1, hy1, hz1, hb1⟩ ; exact ⟨_, rfl, by constructor <;> assumption, hw'.trans (by exact Below.mono (by assumption) hw'.size), by assumption⟩)); intro v hv; cases hv; go_simp; refine hK _ ?_; clear hK K))
  refine Qr.walk_nil fun w3 hw3 => ?_
  have hkept := keep hkept hw3
  have Wb := below_step Wb hw3
  clear hK
  have hK := hkept
  simp only [Kept, List.forall_mem_append, List.forall_mem_cons, List.not_mem_nil, false_implies, implies_true, and_true, true_and] at hK
  go_wp2_with (first | (go_at_call 124; refine (s_long_any _ _ _ _).mono ?_; rintro _ w2 ⟨r1, rfl, hr1, hb1⟩; have HL := lift hb1; have HF := liftF hb1) | (go_at_call 167; refine (s_inner_any _ _ _ _ _ _ _).mono ?_; rintro _ w2 ⟨r1, rfl, hr1, hb1⟩; have HL := lift hb1; have HF := liftF hb1) | (go_at_call 74; refine (s_size_any _ _).mono ?_; rintro _ w2 ⟨r1, rfl, hr1, hb1⟩; have HL := lift hb1; have HF := liftF hb1) | (go_at_call 197; refine (s_lesser_any _ _ _).mono ?_; rintro _ w2 ⟨r1, rfl, hr1, hb1⟩; have HL := lift hb1; have HF := liftF hb1) | (go_at_call 198; refine (s_greater_any _ _ _).mono ?_; rintro _ w2 ⟨r1, rfl, hr1, hb1⟩; have HL := lift hb1; have HF := liftF hb1) | (refine wp_bin rfl _ _ _ _ _ rfl _ _ _ rfl rfl rfl ?_; intro r n hr))
  go_ret
  exact ⟨_, rfl, by simp only [boxS, cn_zero, *], (by repeat' (first | exact Below.refl _ _ | exact Nat.le_refl _ | refine below_drewN ?_ _ | refine Below.alloc ?_ (by first | (simp; done) | (simp; omega)) _ | refine Below.setCell ?_ (by first | (simp; done) | (simp; omega)) _ | refine below_step ?_ (by assumption)))⟩

end Go.Proofs.YtdbpgblhnhdhoaaGreat

namespace Go.Proofs.YtdbpgblhnhdhoaaGreat
open Go.RowKit Go.Fl

set_option maxHeartbeats 400000 in
theorem s_in_any (a b c : Int) (w : World) :
    Calls Tryz.prog 62 #[.int .i64 a, .int .i64 b, .int .i64 c] w (fun e w' => e = .returned (.bool (decide (b ≤ a) && decide (a ≤ c))) ∧ w = w') := by
  by_cases h1 : b ≤ a
  · by_cases h2 : a ≤ c
    all_goals
      go_enter Tryz.func62, Tryz.ntmps62
      go_wp2_with fail
      go_ret
      exact ⟨by simp [h1, h2], rfl⟩
  · go_enter Tryz.func62, Tryz.ntmps62
    go_wp2_with fail
    go_ret
    exact ⟨by rw [decide_eq_false (by omega : ¬ b ≤ a)]; rfl, rfl⟩

theorem s_leaf_any (k : Int) (w : World) : Calls Tryz.prog 107 #[.int .i64 k] w (fun e w' => e = .returned (.bool (decide (0 ≤ k) && decide (k ≤ 4))) ∧ w = w') := by
  go_enter Tryz.func107, Tryz.ntmps107
  go_wp2_with (go_at_call 62; refine (s_in_any _ _ _ _).mono ?_; rintro _ w2 ⟨rfl, rfl⟩)
  go_ret
  exact ⟨rfl, rfl⟩

theorem s_two_any (k : Int) (w : World) : Calls Tryz.prog 108 #[.int .i64 k] w (fun e w' => e = .returned (.bool (decide (5 ≤ k) && decide (k ≤ 8))) ∧ w = w') := by
  go_enter Tryz.func108, Tryz.ntmps108
  go_wp2_with (go_at_call 62; refine (s_in_any _ _ _ _).mono ?_; rintro _ w2 ⟨rfl, rfl⟩)
  go_ret
  exact ⟨rfl, rfl⟩

theorem s_axis_any (k : Int) (w : World) : Calls Tryz.prog 152 #[.int .i64 k] w (fun e w' => e = .returned (.bool (decide (12 ≤ k) && decide (k ≤ 14))) ∧ w = w') := by
  go_enter Tryz.func152, Tryz.ntmps152
  go_wp2_with (go_at_call 62; refine (s_in_any _ _ _ _).mono ?_; rintro _ w2 ⟨rfl, rfl⟩)
  go_ret
  exact ⟨rfl, rfl⟩

set_option maxRecDepth 100000 in
set_option maxHeartbeats 4000000 in
theorem s_count_any (k : Int) (w : World) : Calls Tryz.prog 204 #[.int .i64 k] w (fun e w' => e = .returned (I64 (ruleF k).1) ∧ w = w') := by
  by_cases hk : 0 ≤ k ∧ k ≤ 16
  · have : k = 0 ∨ k = 1 ∨ k = 2 ∨ k = 3 ∨ k = 4 ∨ k = 5 ∨ k = 6 ∨ k = 7 ∨ k = 8 ∨ k = 9 ∨ k = 10 ∨ k = 11 ∨ k = 12 ∨ k = 13 ∨ k = 14 ∨ k = 15 ∨ k = 16 := by omega
    rcases this with h | h | h | h | h | h | h | h | h | h | h | h | h | h | h | h | h
    all_goals
      subst h
      clear hk
      go_enter Tryz.func204, Tryz.ntmps204
      go_wp2_with fail
      go_ret
      exact ⟨rfl, rfl⟩
  · have hk' : kindOk k = false := by
      simp only [kindOk, Bool.and_eq_false_iff, decide_eq_false_iff_not]; omega
    have hr : I64 (ruleF k).1 = .int .i64 0 := by simp only [ruleF, hk']; rfl
    rw [hr]
    have hn : ∀ c : Nat, c ≤ 16 → k ≠ (c : Int) := fun c hc h => hk (by omega)
    have h0 := hn 0 (by omega); have h1 := hn 1 (by omega); have h2 := hn 2 (by omega); have h3 := hn 3 (by omega); have h4 := hn 4 (by omega); have h5 := hn 5 (by omega); have h6 := hn 6 (by omega); have h7 := hn 7 (by omega); have h8 := hn 8 (by omega); have h9 := hn 9 (by omega); have h10 := hn 10 (by omega); have h11 := hn 11 (by omega); have h12 := hn 12 (by omega); have h13 := hn 13 (by omega); have h14 := hn 14 (by omega); have h15 := hn 15 (by omega); have h16 := hn 16 (by omega)
    clear hn hk hk' hr
    simp only [Int.natCast_zero, Int.natCast_one, Int.cast_ofNat_Int] at h0 h1 h2 h3 h4 h5 h6 h7 h8 h9 h10 h11 h12 h13 h14 h15 h16
    go_enter Tryz.func204, Tryz.ntmps204
    go_wp2_with fail
    go_ret
    exact ⟨rfl, rfl⟩
end Go.Proofs.YtdbpgblhnhdhoaaGreat
