/-
  Walks of the reference: blends.
-/
import Derived.Test.YtdbpgblhnhdhoaaS2
set_option linter.unusedVariables false
set_option linter.unusedSimpArgs false
namespace Go.Proofs.Ytdbpgblhnhdhoaa
open Go.RowKit Go.Fl

inductive PhiS : FuncId → Array Value → Value → Prop
  | long (a b c r : Nat) (h : cn .f32 r = longF (cn .f32 a) (cn .f32 b) (cn .f32 c)) : PhiS 59 #[V3 a b c] (F1 r)
  | inner (a b c d e f r : Nat) (h : cn .f32 r = innerF (cn .f32 a) (cn .f32 b) (cn .f32 c) (cn .f32 d) (cn .f32 e) (cn .f32 f)) : PhiS 63 #[V3 a b c, V3 d e f] (F1 r)
  | size (a r : Nat) (h : cn .f32 r = sizeS (cn .f32 a)) : PhiS 60 #[F1 a] (F1 r)
  | lesser (a b r : Nat) (h : cn .f32 r = lesserF (cn .f32 a) (cn .f32 b)) : PhiS 62 #[F1 a, F1 b] (F1 r)
  | greater (a b r : Nat) (h : cn .f32 r = greaterF (cn .f32 a) (cn .f32 b)) : PhiS 61 #[F1 a, F1 b] (F1 r)
  | less (a b c d e f x y z : Nat) (h1 : cn .f32 x = B .sub (cn .f32 a) (cn .f32 d)) (h2 : cn .f32 y = B .sub (cn .f32 b) (cn .f32 e)) (h3 : cn .f32 z = B .sub (cn .f32 c) (cn .f32 f)) : PhiS 80 #[V3 a b c, V3 d e f] (V3 x y z)

def smoothS (a b k : Nat) : Nat :=
  if gtk .f32 (B .sub k (sizeS (B .sub a b))) 0 then
    B .sub (lesserF a b) (B .quo (B .mul (B .sub k (sizeS (B .sub a b))) (B .sub k (sizeS (B .sub a b)))) (B .mul 1082130432 k))
  else lesserF a b

set_option maxRecDepth 100000 in
set_option maxHeartbeats 1000000 in
theorem s_mix_union (b o  x y : Nat) (w : World) (hk : w.cell? ⟨b, o, none⟩ = some (.int .i64 5)) :
    Calls Try.prog 38 #[.pointer (some ⟨b, o, none⟩), F1 x, F1 y] w (Ret .f32 (lesserF (cn .f32 x) (cn .f32 y)) w) := by
  have hb : b < w.heap.size := some_lt (a := ⟨b, o, none⟩) (by rw [hk]; rfl)
  go_enter Try.func38, Try.ntmps38
  go_wp2_with (first | (go_at_call 59; refine (s_long_any _ _ _ _).mono ?_; rintro _ w2 ⟨r1, rfl, hr1, hb1⟩; have HL := lift hb1; have HF := liftF hb1) | (go_at_call 63; refine (s_inner_any _ _ _ _ _ _ _).mono ?_; rintro _ w2 ⟨r1, rfl, hr1, hb1⟩; have HL := lift hb1; have HF := liftF hb1) | (go_at_call 60; refine (s_size_any _ _).mono ?_; rintro _ w2 ⟨r1, rfl, hr1, hb1⟩; have HL := lift hb1; have HF := liftF hb1) | (go_at_call 62; refine (s_lesser_any _ _ _).mono ?_; rintro _ w2 ⟨r1, rfl, hr1, hb1⟩; have HL := lift hb1; have HF := liftF hb1) | (go_at_call 61; refine (s_greater_any _ _ _).mono ?_; rintro _ w2 ⟨r1, rfl, hr1, hb1⟩; have HL := lift hb1; have HF := liftF hb1) | (refine wp_bin rfl _ _ _ _ _ rfl _ _ _ rfl rfl rfl ?_; intro r n hr))
  go_ret
  exact ⟨_, rfl, by simp only [cn_zero, negc_cn, *], (by repeat' (first | exact Below.refl _ _ | exact Nat.le_refl _ | refine below_drewN ?_ _ | refine Below.alloc ?_ (by first | (simp; done) | (simp; omega)) _ | refine Below.setCell ?_ (by first | (simp; done) | (simp; omega)) _ | refine below_step ?_ (by assumption)))⟩

set_option maxRecDepth 100000 in
set_option maxHeartbeats 1000000 in
theorem s_mix_cut (b o  x y : Nat) (w : World) (hk : w.cell? ⟨b, o, none⟩ = some (.int .i64 6)) :
    Calls Try.prog 38 #[.pointer (some ⟨b, o, none⟩), F1 x, F1 y] w (Ret .f32 (greaterF (cn .f32 x) (cn .f32 y)) w) := by
  have hb : b < w.heap.size := some_lt (a := ⟨b, o, none⟩) (by rw [hk]; rfl)
  go_enter Try.func38, Try.ntmps38
  go_wp2_with (first | (go_at_call 59; refine (s_long_any _ _ _ _).mono ?_; rintro _ w2 ⟨r1, rfl, hr1, hb1⟩; have HL := lift hb1; have HF := liftF hb1) | (go_at_call 63; refine (s_inner_any _ _ _ _ _ _ _).mono ?_; rintro _ w2 ⟨r1, rfl, hr1, hb1⟩; have HL := lift hb1; have HF := liftF hb1) | (go_at_call 60; refine (s_size_any _ _).mono ?_; rintro _ w2 ⟨r1, rfl, hr1, hb1⟩; have HL := lift hb1; have HF := liftF hb1) | (go_at_call 62; refine (s_lesser_any _ _ _).mono ?_; rintro _ w2 ⟨r1, rfl, hr1, hb1⟩; have HL := lift hb1; have HF := liftF hb1) | (go_at_call 61; refine (s_greater_any _ _ _).mono ?_; rintro _ w2 ⟨r1, rfl, hr1, hb1⟩; have HL := lift hb1; have HF := liftF hb1) | (refine wp_bin rfl _ _ _ _ _ rfl _ _ _ rfl rfl rfl ?_; intro r n hr))
  go_ret
  exact ⟨_, rfl, by simp only [cn_zero, negc_cn, *], (by repeat' (first | exact Below.refl _ _ | exact Nat.le_refl _ | refine below_drewN ?_ _ | refine Below.alloc ?_ (by first | (simp; done) | (simp; omega)) _ | refine Below.setCell ?_ (by first | (simp; done) | (simp; omega)) _ | refine below_step ?_ (by assumption)))⟩

set_option maxRecDepth 100000 in
set_option maxHeartbeats 1000000 in
theorem s_mix_less (b o  x y : Nat) (w : World) (hk : w.cell? ⟨b, o, none⟩ = some (.int .i64 7)) :
    Calls Try.prog 38 #[.pointer (some ⟨b, o, none⟩), F1 x, F1 y] w (Ret .f32 (greaterF (cn .f32 x) (negc .f32 (cn .f32 y))) w) := by
  have hb : b < w.heap.size := some_lt (a := ⟨b, o, none⟩) (by rw [hk]; rfl)
  go_enter Try.func38, Try.ntmps38
  go_wp2_with (first | (go_at_call 59; refine (s_long_any _ _ _ _).mono ?_; rintro _ w2 ⟨r1, rfl, hr1, hb1⟩; have HL := lift hb1; have HF := liftF hb1) | (go_at_call 63; refine (s_inner_any _ _ _ _ _ _ _).mono ?_; rintro _ w2 ⟨r1, rfl, hr1, hb1⟩; have HL := lift hb1; have HF := liftF hb1) | (go_at_call 60; refine (s_size_any _ _).mono ?_; rintro _ w2 ⟨r1, rfl, hr1, hb1⟩; have HL := lift hb1; have HF := liftF hb1) | (go_at_call 62; refine (s_lesser_any _ _ _).mono ?_; rintro _ w2 ⟨r1, rfl, hr1, hb1⟩; have HL := lift hb1; have HF := liftF hb1) | (go_at_call 61; refine (s_greater_any _ _ _).mono ?_; rintro _ w2 ⟨r1, rfl, hr1, hb1⟩; have HL := lift hb1; have HF := liftF hb1) | (refine wp_bin rfl _ _ _ _ _ rfl _ _ _ rfl rfl rfl ?_; intro r n hr))
  go_ret
  exact ⟨_, rfl, by simp only [cn_zero, negc_cn, *], (by repeat' (first | exact Below.refl _ _ | exact Nat.le_refl _ | refine below_drewN ?_ _ | refine Below.alloc ?_ (by first | (simp; done) | (simp; omega)) _ | refine Below.setCell ?_ (by first | (simp; done) | (simp; omega)) _ | refine below_step ?_ (by assumption)))⟩

set_option maxRecDepth 100000 in
set_option maxHeartbeats 1000000 in
theorem s_mix_scale (b o bv ov cap r0 x y : Nat) (w : World) (hk : w.cell? ⟨b, o, none⟩ = some (.int .i64 10))
    (hs : w.cell? ⟨b, o + 3, none⟩ = some (.slice (some ⟨bv, ov, none⟩) 1 cap)) (h0 : w.cell? ⟨bv, ov, none⟩ = some (.float .f32 r0)) :
    Calls Try.prog 38 #[.pointer (some ⟨b, o, none⟩), F1 x, F1 y] w (Ret .f32 (B .mul (cn .f32 x) (cn .f32 r0)) w) := by
  have hb : b < w.heap.size := some_lt (a := ⟨b, o, none⟩) (by rw [hk]; rfl)
  have hbv : bv < w.heap.size := some_lt (a := ⟨bv, ov, none⟩) (by rw [h0]; rfl)
  go_enter Try.func38, Try.ntmps38
  go_wp2_with (first | (go_at_call 59; refine (s_long_any _ _ _ _).mono ?_; rintro _ w2 ⟨r1, rfl, hr1, hb1⟩; have HL := lift hb1; have HF := liftF hb1) | (go_at_call 63; refine (s_inner_any _ _ _ _ _ _ _).mono ?_; rintro _ w2 ⟨r1, rfl, hr1, hb1⟩; have HL := lift hb1; have HF := liftF hb1) | (go_at_call 60; refine (s_size_any _ _).mono ?_; rintro _ w2 ⟨r1, rfl, hr1, hb1⟩; have HL := lift hb1; have HF := liftF hb1) | (go_at_call 62; refine (s_lesser_any _ _ _).mono ?_; rintro _ w2 ⟨r1, rfl, hr1, hb1⟩; have HL := lift hb1; have HF := liftF hb1) | (go_at_call 61; refine (s_greater_any _ _ _).mono ?_; rintro _ w2 ⟨r1, rfl, hr1, hb1⟩; have HL := lift hb1; have HF := liftF hb1) | (refine wp_bin rfl _ _ _ _ _ rfl _ _ _ rfl rfl rfl ?_; intro r n hr))
  go_ret
  exact ⟨_, rfl, by simp only [cn_zero, negc_cn, *], (by repeat' (first | exact Below.refl _ _ | exact Nat.le_refl _ | refine below_drewN ?_ _ | refine Below.alloc ?_ (by first | (simp; done) | (simp; omega)) _ | refine Below.setCell ?_ (by first | (simp; done) | (simp; omega)) _ | refine below_step ?_ (by assumption)))⟩

set_option maxRecDepth 100000 in
set_option maxHeartbeats 1000000 in
theorem s_mix_round (b o bv ov cap r0 x y : Nat) (w : World) (hk : w.cell? ⟨b, o, none⟩ = some (.int .i64 15))
    (hs : w.cell? ⟨b, o + 3, none⟩ = some (.slice (some ⟨bv, ov, none⟩) 1 cap)) (h0 : w.cell? ⟨bv, ov, none⟩ = some (.float .f32 r0)) :
    Calls Try.prog 38 #[.pointer (some ⟨b, o, none⟩), F1 x, F1 y] w (Ret .f32 (B .sub (cn .f32 x) (cn .f32 r0)) w) := by
  have hb : b < w.heap.size := some_lt (a := ⟨b, o, none⟩) (by rw [hk]; rfl)
  have hbv : bv < w.heap.size := some_lt (a := ⟨bv, ov, none⟩) (by rw [h0]; rfl)
  go_enter Try.func38, Try.ntmps38
  go_wp2_with (first | (go_at_call 59; refine (s_long_any _ _ _ _).mono ?_; rintro _ w2 ⟨r1, rfl, hr1, hb1⟩; have HL := lift hb1; have HF := liftF hb1) | (go_at_call 63; refine (s_inner_any _ _ _ _ _ _ _).mono ?_; rintro _ w2 ⟨r1, rfl, hr1, hb1⟩; have HL := lift hb1; have HF := liftF hb1) | (go_at_call 60; refine (s_size_any _ _).mono ?_; rintro _ w2 ⟨r1, rfl, hr1, hb1⟩; have HL := lift hb1; have HF := liftF hb1) | (go_at_call 62; refine (s_lesser_any _ _ _).mono ?_; rintro _ w2 ⟨r1, rfl, hr1, hb1⟩; have HL := lift hb1; have HF := liftF hb1) | (go_at_call 61; refine (s_greater_any _ _ _).mono ?_; rintro _ w2 ⟨r1, rfl, hr1, hb1⟩; have HL := lift hb1; have HF := liftF hb1) | (refine wp_bin rfl _ _ _ _ _ rfl _ _ _ rfl rfl rfl ?_; intro r n hr))
  go_ret
  exact ⟨_, rfl, by simp only [cn_zero, negc_cn, *], (by repeat' (first | exact Below.refl _ _ | exact Nat.le_refl _ | refine below_drewN ?_ _ | refine Below.alloc ?_ (by first | (simp; done) | (simp; omega)) _ | refine Below.setCell ?_ (by first | (simp; done) | (simp; omega)) _ | refine below_step ?_ (by assumption)))⟩

set_option maxRecDepth 100000 in
set_option maxHeartbeats 1000000 in
theorem s_mix_shell (b o bv ov cap r0 x y : Nat) (w : World) (hk : w.cell? ⟨b, o, none⟩ = some (.int .i64 16))
    (hs : w.cell? ⟨b, o + 3, none⟩ = some (.slice (some ⟨bv, ov, none⟩) 1 cap)) (h0 : w.cell? ⟨bv, ov, none⟩ = some (.float .f32 r0)) :
    Calls Try.prog 38 #[.pointer (some ⟨b, o, none⟩), F1 x, F1 y] w (Ret .f32 (B .sub (sizeS (cn .f32 x)) (cn .f32 r0)) w) := by
  have hb : b < w.heap.size := some_lt (a := ⟨b, o, none⟩) (by rw [hk]; rfl)
  have hbv : bv < w.heap.size := some_lt (a := ⟨bv, ov, none⟩) (by rw [h0]; rfl)
  go_enter Try.func38, Try.ntmps38
  go_wp2_with fail
  refine Qr.wp_below_all (by kernel_rfl) (by kernel_rfl) PhiS ?_
  repeat (first | (refine Qr.walk_plain rfl fun K hK => ?_; refine one_bin _ _ _ _ _ rfl _ _ _ rfl rfl rfl (fun r hr => ?_); go_simp; refine hK _ ?_; clear hK K) | (refine Qr.walk_plain rfl fun K hK => ?_; apply Qr.one_det; (focus (intro w' hw'; have HL := lift hw'; go_simp; first | done | rfl)); go_simp; refine hK _ ?_; clear hK K) | (refine Qr.walk_plain rfl fun K hK => ?_; apply Qr.one_call; (focus (intro w' hw'; go_simp; first | done | exact ⟨rfl, rfl⟩)); (focus (intro w' hw';  go_at_call 59; refine (s_long_any _ _ _ _).mono ?_; rintro _ w2 ⟨r1, rfl, hr1, hb1⟩ ; exact ⟨_, rfl, by constructor <;> assumption, hw'.trans (by exact Below.mono (by assumption) hw'.size), by assumption⟩)); intro v hv; cases hv; go_simp; refine hK _ ?_; clear hK K) | (refine Qr.walk_plain rfl fun K hK => ?_; apply Qr.one_call; (focus (intro w' hw'; go_simp; first | done | exact ⟨rfl, rfl⟩)); (focus (intro w' hw';  go_at_call 63; refine (s_inner_any _ _ _ _ _ _ _).mono ?_; rintro _ w2 ⟨r1, rfl, hr1, hb1⟩ ; exact ⟨_, rfl, by constructor <;> assumption, hw'.trans (by exact Below.mono (by assumption) hw'.size), by assumption⟩)); intro v hv; cases hv; go_simp; refine hK _ ?_; clear hK K) | (refine Qr.walk_plain rfl fun K hK => ?_; apply Qr.one_call; (focus (intro w' hw'; go_simp; first | done | exact ⟨rfl, rfl⟩)); (focus (intro w' hw';  go_at_call 60; refine (s_size_any _ _).mono ?_; rintro _ w2 ⟨r1, rfl, hr1, hb1⟩ ; exact ⟨_, rfl, by constructor <;> assumption, hw'.trans (by exact Below.mono (by assumption) hw'.size), by assumption⟩)); intro v hv; cases hv; go_simp; refine hK _ ?_; clear hK K) | (refine Qr.walk_plain rfl fun K hK => ?_; apply Qr.one_call; (focus (intro w' hw'; go_simp; first | done | exact ⟨rfl, rfl⟩)); (focus (intro w' hw';  go_at_call 62; refine (s_lesser_any _ _ _).mono ?_; rintro _ w2 ⟨r1, rfl, hr1, hb1⟩ ; exact ⟨_, rfl, by constructor <;> assumption, hw'.trans (by exact Below.mono (by assumption) hw'.size), by assumption⟩)); intro v hv; cases hv; go_simp; refine hK _ ?_; clear hK K) | (refine Qr.walk_plain rfl fun K hK => ?_; apply Qr.one_call; (focus (intro w' hw'; go_simp; first | done | exact ⟨rfl, rfl⟩)); (focus (intro w' hw';  go_at_call 61; refine (s_greater_any _ _ _).mono ?_; rintro _ w2 ⟨r1, rfl, hr1, hb1⟩ ; exact ⟨_, rfl, by constructor <;> assumption, hw'.trans (by exact Below.mono (by assumption) hw'.size), by assumption⟩)); intro v hv; cases hv; go_simp; refine hK _ ?_; clear hK K) | (refine Qr.walk_plain rfl fun K hK => ?_; apply Qr.one_call; (focus (intro w' hw'; go_simp; first | done | exact ⟨rfl, rfl⟩)); (focus (intro w' hw';  go_at_call 80; refine (s_less_any _ _ _ _ _ _ _).mono ?_; rintro _ w2 ⟨x1, y1, z1, rfl, hx1, hy1, hz1, hb1⟩ ; exact ⟨_, rfl, by constructor <;> assumption, hw'.trans (by exact Below.mono (by assumption) hw'.size), by assumption⟩)); intro v hv; cases hv; go_simp; refine hK _ ?_; clear hK K))
  refine Qr.walk_nil fun w3 hw3 => ?_
  go_wp2_with fail
  go_ret
  exact ⟨_, rfl, by simp only [*], (by repeat' (first | exact Below.refl _ _ | exact Nat.le_refl _ | refine below_drewN ?_ _ | refine Below.alloc ?_ (by first | (simp; done) | (simp; omega)) _ | refine Below.setCell ?_ (by first | (simp; done) | (simp; omega)) _ | refine below_step ?_ (by assumption)))⟩

set_option maxRecDepth 100000 in
set_option maxHeartbeats 1000000 in
theorem s_mix_move (b o  x y : Nat) (w : World) (hk : w.cell? ⟨b, o, none⟩ = some (.int .i64 9)) :
    Calls Try.prog 38 #[.pointer (some ⟨b, o, none⟩), F1 x, F1 y] w (Ret .f32 (cn .f32 x) w) := by
  have hb : b < w.heap.size := some_lt (a := ⟨b, o, none⟩) (by rw [hk]; rfl)
  go_enter Try.func38, Try.ntmps38
  go_wp2_with fail
  go_ret
  exact ⟨_, rfl, rfl, (by repeat' (first | exact Below.refl _ _ | exact Nat.le_refl _ | refine below_drewN ?_ _ | refine Below.alloc ?_ (by first | (simp; done) | (simp; omega)) _ | refine Below.setCell ?_ (by first | (simp; done) | (simp; omega)) _ | refine below_step ?_ (by assumption)))⟩

set_option maxRecDepth 100000 in
set_option maxHeartbeats 1000000 in
theorem s_mix_stretch (b o  x y : Nat) (w : World) (hk : w.cell? ⟨b, o, none⟩ = some (.int .i64 11)) :
    Calls Try.prog 38 #[.pointer (some ⟨b, o, none⟩), F1 x, F1 y] w (Ret .f32 (cn .f32 x) w) := by
  have hb : b < w.heap.size := some_lt (a := ⟨b, o, none⟩) (by rw [hk]; rfl)
  go_enter Try.func38, Try.ntmps38
  go_wp2_with fail
  go_ret
  exact ⟨_, rfl, rfl, (by repeat' (first | exact Below.refl _ _ | exact Nat.le_refl _ | refine below_drewN ?_ _ | refine Below.alloc ?_ (by first | (simp; done) | (simp; omega)) _ | refine Below.setCell ?_ (by first | (simp; done) | (simp; omega)) _ | refine below_step ?_ (by assumption)))⟩

set_option maxRecDepth 100000 in
set_option maxHeartbeats 1000000 in
theorem s_mix_turn (b o  x y : Nat) (w : World) (hk : w.cell? ⟨b, o, none⟩ = some (.int .i64 12)) :
    Calls Try.prog 38 #[.pointer (some ⟨b, o, none⟩), F1 x, F1 y] w (Ret .f32 (cn .f32 x) w) := by
  have hb : b < w.heap.size := some_lt (a := ⟨b, o, none⟩) (by rw [hk]; rfl)
  go_enter Try.func38, Try.ntmps38
  go_wp2_with fail
  go_ret
  exact ⟨_, rfl, rfl, (by repeat' (first | exact Below.refl _ _ | exact Nat.le_refl _ | refine below_drewN ?_ _ | refine Below.alloc ?_ (by first | (simp; done) | (simp; omega)) _ | refine Below.setCell ?_ (by first | (simp; done) | (simp; omega)) _ | refine below_step ?_ (by assumption)))⟩

set_option maxRecDepth 100000 in
set_option maxHeartbeats 1000000 in
theorem s_mix_mirror (b o  x y : Nat) (w : World) (hk : w.cell? ⟨b, o, none⟩ = some (.int .i64 13)) :
    Calls Try.prog 38 #[.pointer (some ⟨b, o, none⟩), F1 x, F1 y] w (Ret .f32 (cn .f32 x) w) := by
  have hb : b < w.heap.size := some_lt (a := ⟨b, o, none⟩) (by rw [hk]; rfl)
  go_enter Try.func38, Try.ntmps38
  go_wp2_with fail
  go_ret
  exact ⟨_, rfl, rfl, (by repeat' (first | exact Below.refl _ _ | exact Nat.le_refl _ | refine below_drewN ?_ _ | refine Below.alloc ?_ (by first | (simp; done) | (simp; omega)) _ | refine Below.setCell ?_ (by first | (simp; done) | (simp; omega)) _ | refine below_step ?_ (by assumption)))⟩

set_option maxRecDepth 100000 in
set_option maxHeartbeats 1000000 in
theorem s_mix_fold (b o  x y : Nat) (w : World) (hk : w.cell? ⟨b, o, none⟩ = some (.int .i64 14)) :
    Calls Try.prog 38 #[.pointer (some ⟨b, o, none⟩), F1 x, F1 y] w (Ret .f32 (cn .f32 x) w) := by
  have hb : b < w.heap.size := some_lt (a := ⟨b, o, none⟩) (by rw [hk]; rfl)
  go_enter Try.func38, Try.ntmps38
  go_wp2_with fail
  go_ret
  exact ⟨_, rfl, rfl, (by repeat' (first | exact Below.refl _ _ | exact Nat.le_refl _ | refine below_drewN ?_ _ | refine Below.alloc ?_ (by first | (simp; done) | (simp; omega)) _ | refine Below.setCell ?_ (by first | (simp; done) | (simp; omega)) _ | refine below_step ?_ (by assumption)))⟩

set_option maxRecDepth 100000 in
set_option maxHeartbeats 1000000 in
theorem s_mix_smooth (b o bv ov cap r0 x y : Nat) (w : World) (hk : w.cell? ⟨b, o, none⟩ = some (.int .i64 8))
    (hs : w.cell? ⟨b, o + 3, none⟩ = some (.slice (some ⟨bv, ov, none⟩) 1 cap)) (h0 : w.cell? ⟨bv, ov, none⟩ = some (.float .f32 r0)) :
    Calls Try.prog 38 #[.pointer (some ⟨b, o, none⟩), F1 x, F1 y] w (Ret .f32 (smoothS (cn .f32 x) (cn .f32 y) (cn .f32 r0)) w) := by
  have hb : b < w.heap.size := some_lt (a := ⟨b, o, none⟩) (by rw [hk]; rfl)
  have hbv : bv < w.heap.size := some_lt (a := ⟨bv, ov, none⟩) (by rw [h0]; rfl)
  go_enter Try.func38, Try.ntmps38
  go_wp2_with (first | (go_at_call 59; refine (s_long_any _ _ _ _).mono ?_; rintro _ w2 ⟨r1, rfl, hr1, hb1⟩; have HL := lift hb1; have HF := liftF hb1) | (go_at_call 63; refine (s_inner_any _ _ _ _ _ _ _).mono ?_; rintro _ w2 ⟨r1, rfl, hr1, hb1⟩; have HL := lift hb1; have HF := liftF hb1) | (go_at_call 60; refine (s_size_any _ _).mono ?_; rintro _ w2 ⟨r1, rfl, hr1, hb1⟩; have HL := lift hb1; have HF := liftF hb1) | (go_at_call 62; refine (s_lesser_any _ _ _).mono ?_; rintro _ w2 ⟨r1, rfl, hr1, hb1⟩; have HL := lift hb1; have HF := liftF hb1) | (go_at_call 61; refine (s_greater_any _ _ _).mono ?_; rintro _ w2 ⟨r1, rfl, hr1, hb1⟩; have HL := lift hb1; have HF := liftF hb1) | (refine wp_bin rfl _ _ _ _ _ rfl _ _ _ rfl rfl rfl ?_; intro r n hr))
  · have hg := gtk_of ‹(FloatKind.f32.format.order _ 0 == some .gt) = true›
    go_ret
    simp only [*] at hg
    exact ⟨_, rfl, by simp only [smoothS, B, hg, if_true, cn_c8, *], (by repeat' (first | exact Below.refl _ _ | exact Nat.le_refl _ | refine below_drewN ?_ _ | refine Below.alloc ?_ (by first | (simp; done) | (simp; omega)) _ | refine Below.setCell ?_ (by first | (simp; done) | (simp; omega)) _ | refine below_step ?_ (by assumption)))⟩
  · have hg := gtk_of ‹(FloatKind.f32.format.order _ 0 == some .gt) = false›
    go_ret
    simp only [*] at hg
    exact ⟨_, rfl, by simp only [smoothS, B, hg]; simp only [*]; rfl, (by repeat' (first | exact Below.refl _ _ | exact Nat.le_refl _ | refine below_drewN ?_ _ | refine Below.alloc ?_ (by first | (simp; done) | (simp; omega)) _ | refine Below.setCell ?_ (by first | (simp; done) | (simp; omega)) _ | refine below_step ?_ (by assumption)))⟩
end Go.Proofs.Ytdbpgblhnhdhoaa
