/-
 Lemmas: S3,W15.
-/
import Derived.Test.YtbiacfkiakddiaaGreatOaj
set_option linter.unusedVariables false
set_option linter.unusedSimpArgs false
namespace Go.Proofs.YtbiacfkiakddiaaGreat
open Go.RowKit Go.Fl
inductive PhiS:FuncId → Array Value → Value → Prop
 | long (a b c r:Nat) (h:cn .f32 r = longF (cn .f32 a) (cn .f32 b) (cn .f32 c)):PhiS 242 #[V3 a b c] (F1 r)
 | inner (a b c d e f r:Nat) (h:cn .f32 r = innerF (cn .f32 a) (cn .f32 b) (cn .f32 c) (cn .f32 d) (cn .f32 e) (cn .f32 f)):PhiS 165 #[V3 a b c,V3 d e f] (F1 r)
 | size (a r:Nat) (h:cn .f32 r = sizeS (cn .f32 a)):PhiS 88 #[F1 a] (F1 r)
 | lesser (a b r:Nat) (h:cn .f32 r = lesserF (cn .f32 a) (cn .f32 b)):PhiS 197 #[F1 a,F1 b] (F1 r)
 | greater (a b r:Nat) (h:cn .f32 r = greaterF (cn .f32 a) (cn .f32 b)):PhiS 198 #[F1 a,F1 b] (F1 r)
 | less (a b c d e f x y z:Nat) (h1:cn .f32 x = B .sub (cn .f32 a) (cn .f32 d)) (h2:cn .f32 y = B .sub (cn .f32 b) (cn .f32 e)) (h3:cn .f32 z = B .sub (cn .f32 c) (cn .f32 f)):PhiS 167 #[V3 a b c,V3 d e f] (V3 x y z)

def smoothS (a b k:Nat):Nat :=
 if gtk .f32 (B .sub k (sizeS (B .sub a b))) 0 then
  B .sub (lesserF a b) (B .quo (B .mul (B .sub k (sizeS (B .sub a b))) (B .sub k (sizeS (B .sub a b)))) (B .mul 1082130432 k))
 else lesserF a b

set_option maxRecDepth 100000 in
set_option maxHeartbeats 1000000 in
theorem s_mix_union (b o  x y:Nat) (w:World) (hk:w.cell? ⟨b,o,none⟩ = some (.int .i64 5)) :
  Calls Tryz.prog 231 #[.pointer (some ⟨b,o,none⟩),F1 x,F1 y] w (Ret .f32 (lesserF (cn .f32 x) (cn .f32 y)) w):=by
 have hb:b < w.heap.size:=some_lt (a:=⟨b,o,none⟩) (by rw [hk];rfl)
 go_enter Tryz.func231,Tryz.ntmps231
 go_wp2_with (first | (go_at_call 88;refine (s_size_any _ _).mono ?_;rintro _ w2 ⟨r1,rfl,hr1,hb1⟩;have HL:=lift hb1;have HF:=liftF hb1) | (go_at_call 197;refine (s_lesser_any _ _ _).mono ?_;rintro _ w2 ⟨r1,rfl,hr1,hb1⟩;have HL:=lift hb1;have HF:=liftF hb1) | (go_at_call 198;refine (s_greater_any _ _ _).mono ?_;rintro _ w2 ⟨r1,rfl,hr1,hb1⟩;have HL:=lift hb1;have HF:=liftF hb1) | (refine wp_bin rfl _ _ _ _ _ rfl _ _ _ rfl rfl rfl ?_;intro r n hr))
 go_ret
 exact ⟨_,rfl,by simp only [cn_zero,negc_cn, *],(by repeat' (first | exact Below.refl _ _ | exact Nat.le_refl _ | refine below_drewN ?_ _ | refine Below.alloc ?_ (by simp <;> omega) _ | refine Below.setCell ?_ (by simp <;> omega) _ | refine below_step ?_ (by assumption)))⟩

set_option maxRecDepth 100000 in
set_option maxHeartbeats 1000000 in
theorem s_mix_cut (b o  x y:Nat) (w:World) (hk:w.cell? ⟨b,o,none⟩ = some (.int .i64 6)) :
  Calls Tryz.prog 231 #[.pointer (some ⟨b,o,none⟩),F1 x,F1 y] w (Ret .f32 (greaterF (cn .f32 x) (cn .f32 y)) w):=by
 have hb:b < w.heap.size:=some_lt (a:=⟨b,o,none⟩) (by rw [hk];rfl)
 go_enter Tryz.func231,Tryz.ntmps231
 go_wp2_with (first | (go_at_call 88;refine (s_size_any _ _).mono ?_;rintro _ w2 ⟨r1,rfl,hr1,hb1⟩;have HL:=lift hb1;have HF:=liftF hb1) | (go_at_call 197;refine (s_lesser_any _ _ _).mono ?_;rintro _ w2 ⟨r1,rfl,hr1,hb1⟩;have HL:=lift hb1;have HF:=liftF hb1) | (go_at_call 198;refine (s_greater_any _ _ _).mono ?_;rintro _ w2 ⟨r1,rfl,hr1,hb1⟩;have HL:=lift hb1;have HF:=liftF hb1) | (refine wp_bin rfl _ _ _ _ _ rfl _ _ _ rfl rfl rfl ?_;intro r n hr))
 go_ret
 exact ⟨_,rfl,by simp only [cn_zero,negc_cn, *],(by repeat' (first | exact Below.refl _ _ | exact Nat.le_refl _ | refine below_drewN ?_ _ | refine Below.alloc ?_ (by simp <;> omega) _ | refine Below.setCell ?_ (by simp <;> omega) _ | refine below_step ?_ (by assumption)))⟩

set_option maxRecDepth 100000 in
set_option maxHeartbeats 1000000 in
theorem s_mix_less (b o  x y:Nat) (w:World) (hk:w.cell? ⟨b,o,none⟩ = some (.int .i64 7)) :
  Calls Tryz.prog 231 #[.pointer (some ⟨b,o,none⟩),F1 x,F1 y] w (Ret .f32 (greaterF (cn .f32 x) (negc .f32 (cn .f32 y))) w):=by
 have hb:b < w.heap.size:=some_lt (a:=⟨b,o,none⟩) (by rw [hk];rfl)
 go_enter Tryz.func231,Tryz.ntmps231
 go_wp2_with (first | (go_at_call 88;refine (s_size_any _ _).mono ?_;rintro _ w2 ⟨r1,rfl,hr1,hb1⟩;have HL:=lift hb1;have HF:=liftF hb1) | (go_at_call 197;refine (s_lesser_any _ _ _).mono ?_;rintro _ w2 ⟨r1,rfl,hr1,hb1⟩;have HL:=lift hb1;have HF:=liftF hb1) | (go_at_call 198;refine (s_greater_any _ _ _).mono ?_;rintro _ w2 ⟨r1,rfl,hr1,hb1⟩;have HL:=lift hb1;have HF:=liftF hb1) | (refine wp_bin rfl _ _ _ _ _ rfl _ _ _ rfl rfl rfl ?_;intro r n hr))
 go_ret
 exact ⟨_,rfl,by simp only [cn_zero,negc_cn, *],(by repeat' (first | exact Below.refl _ _ | exact Nat.le_refl _ | refine below_drewN ?_ _ | refine Below.alloc ?_ (by simp <;> omega) _ | refine Below.setCell ?_ (by simp <;> omega) _ | refine below_step ?_ (by assumption)))⟩

set_option maxRecDepth 100000 in
set_option maxHeartbeats 1000000 in
theorem s_mix_scale (b o bv ov cap r0 x y:Nat) (w:World) (hk:w.cell? ⟨b,o,none⟩ = some (.int .i64 10))
  (hs:w.cell? ⟨b,o + 3,none⟩ = some (.slice (some ⟨bv,ov,none⟩) 1 cap)) (h0:w.cell? ⟨bv,ov,none⟩ = some (F1 r0)) :
  Calls Tryz.prog 231 #[.pointer (some ⟨b,o,none⟩),F1 x,F1 y] w (Ret .f32 (B .mul (cn .f32 x) (cn .f32 r0)) w):=by
 have hb:b < w.heap.size:=some_lt (a:=⟨b,o,none⟩) (by rw [hk];rfl)
 have hbv:bv < w.heap.size:=some_lt (a:=⟨bv,ov,none⟩) (by rw [h0];rfl)
 go_enter Tryz.func231,Tryz.ntmps231
 go_wp2_with (first | (go_at_call 88;refine (s_size_any _ _).mono ?_;rintro _ w2 ⟨r1,rfl,hr1,hb1⟩;have HL:=lift hb1;have HF:=liftF hb1) | (go_at_call 197;refine (s_lesser_any _ _ _).mono ?_;rintro _ w2 ⟨r1,rfl,hr1,hb1⟩;have HL:=lift hb1;have HF:=liftF hb1) | (go_at_call 198;refine (s_greater_any _ _ _).mono ?_;rintro _ w2 ⟨r1,rfl,hr1,hb1⟩;have HL:=lift hb1;have HF:=liftF hb1) | (refine wp_bin rfl _ _ _ _ _ rfl _ _ _ rfl rfl rfl ?_;intro r n hr))
 go_ret
 exact ⟨_,rfl,by simp only [cn_zero,negc_cn, *],(by repeat' (first | exact Below.refl _ _ | exact Nat.le_refl _ | refine below_drewN ?_ _ | refine Below.alloc ?_ (by simp <;> omega) _ | refine Below.setCell ?_ (by simp <;> omega) _ | refine below_step ?_ (by assumption)))⟩

set_option maxRecDepth 100000 in
set_option maxHeartbeats 1000000 in
theorem s_mix_round (b o bv ov cap r0 x y:Nat) (w:World) (hk:w.cell? ⟨b,o,none⟩ = some (.int .i64 15))
  (hs:w.cell? ⟨b,o + 3,none⟩ = some (.slice (some ⟨bv,ov,none⟩) 1 cap)) (h0:w.cell? ⟨bv,ov,none⟩ = some (F1 r0)) :
  Calls Tryz.prog 231 #[.pointer (some ⟨b,o,none⟩),F1 x,F1 y] w (Ret .f32 (B .sub (cn .f32 x) (cn .f32 r0)) w):=by
 have hb:b < w.heap.size:=some_lt (a:=⟨b,o,none⟩) (by rw [hk];rfl)
 have hbv:bv < w.heap.size:=some_lt (a:=⟨bv,ov,none⟩) (by rw [h0];rfl)
 go_enter Tryz.func231,Tryz.ntmps231
 go_wp2_with (first | (go_at_call 88;refine (s_size_any _ _).mono ?_;rintro _ w2 ⟨r1,rfl,hr1,hb1⟩;have HL:=lift hb1;have HF:=liftF hb1) | (go_at_call 197;refine (s_lesser_any _ _ _).mono ?_;rintro _ w2 ⟨r1,rfl,hr1,hb1⟩;have HL:=lift hb1;have HF:=liftF hb1) | (go_at_call 198;refine (s_greater_any _ _ _).mono ?_;rintro _ w2 ⟨r1,rfl,hr1,hb1⟩;have HL:=lift hb1;have HF:=liftF hb1) | (refine wp_bin rfl _ _ _ _ _ rfl _ _ _ rfl rfl rfl ?_;intro r n hr))
 go_ret
 exact ⟨_,rfl,by simp only [cn_zero,negc_cn, *],(by repeat' (first | exact Below.refl _ _ | exact Nat.le_refl _ | refine below_drewN ?_ _ | refine Below.alloc ?_ (by simp <;> omega) _ | refine Below.setCell ?_ (by simp <;> omega) _ | refine below_step ?_ (by assumption)))⟩

set_option maxRecDepth 100000 in
set_option maxHeartbeats 1000000 in
theorem s_mix_shell (b o bv ov cap r0 x y:Nat) (w:World) (hk:w.cell? ⟨b,o,none⟩ = some (.int .i64 16))
  (hs:w.cell? ⟨b,o + 3,none⟩ = some (.slice (some ⟨bv,ov,none⟩) 1 cap)) (h0:w.cell? ⟨bv,ov,none⟩ = some (F1 r0)) :
  Calls Tryz.prog 231 #[.pointer (some ⟨b,o,none⟩),F1 x,F1 y] w (Ret .f32 (B .sub (sizeS (cn .f32 x)) (cn .f32 r0)) w):=by
 have hb:b < w.heap.size:=some_lt (a:=⟨b,o,none⟩) (by rw [hk];rfl)
 have hbv:bv < w.heap.size:=some_lt (a:=⟨bv,ov,none⟩) (by rw [h0];rfl)
 go_enter Tryz.func231,Tryz.ntmps231
 go_wp2_with fail
 refine Qr.wp_below_all (by kernel_rfl) (by kernel_rfl) PhiS ?_
 repeat (first | (refine Qr.walk_plain rfl fun K hK => ?_;refine one_bin _ _ _ _ _ rfl _ _ _ rfl rfl rfl (fun r hr => ?_);go_simp;refine hK _ ?_;clear hK K) | (refine Qr.walk_plain rfl fun K hK => ?_;apply Qr.one_det;(focus (intro w' hw';have HL:=lift hw';go_simp;first | done | rfl));go_simp;refine hK _ ?_;clear hK K) | (refine Qr.walk_plain rfl fun K hK => ?_;apply Qr.one_call;(focus (intro w' hw';go_simp;first | done | exact ⟨rfl,rfl⟩));(focus (intro w' hw'; go_at_call 88;refine (s_size_any _ _).mono ?_;rintro _ w2 ⟨r1,rfl,hr1,hb1⟩ ;exact ⟨_,rfl,by constructor <;> assumption,below_step hw' (by assumption),by assumption⟩));intro v hv;cases hv;go_simp;refine hK _ ?_;clear hK K) | (refine Qr.walk_plain rfl fun K hK => ?_;apply Qr.one_call;(focus (intro w' hw';go_simp;first | done | exact ⟨rfl,rfl⟩));(focus (intro w' hw'; go_at_call 197;refine (s_lesser_any _ _ _).mono ?_;rintro _ w2 ⟨r1,rfl,hr1,hb1⟩ ;exact ⟨_,rfl,by constructor <;> assumption,below_step hw' (by assumption),by assumption⟩));intro v hv;cases hv;go_simp;refine hK _ ?_;clear hK K) | (refine Qr.walk_plain rfl fun K hK => ?_;apply Qr.one_call;(focus (intro w' hw';go_simp;first | done | exact ⟨rfl,rfl⟩));(focus (intro w' hw'; go_at_call 198;refine (s_greater_any _ _ _).mono ?_;rintro _ w2 ⟨r1,rfl,hr1,hb1⟩ ;exact ⟨_,rfl,by constructor <;> assumption,below_step hw' (by assumption),by assumption⟩));intro v hv;cases hv;go_simp;refine hK _ ?_;clear hK K))
 refine Qr.walk_nil fun w3 hw3 => ?_
 go_wp2_with fail
 go_ret
 exact ⟨_,rfl,by simp only [*],(by repeat' (first | exact Below.refl _ _ | exact Nat.le_refl _ | refine below_drewN ?_ _ | refine Below.alloc ?_ (by simp <;> omega) _ | refine Below.setCell ?_ (by simp <;> omega) _ | refine below_step ?_ (by assumption)))⟩

set_option maxRecDepth 100000 in
set_option maxHeartbeats 1000000 in
theorem s_mix_move (b o  x y:Nat) (w:World) (hk:w.cell? ⟨b,o,none⟩ = some (.int .i64 9)) :
  Calls Tryz.prog 231 #[.pointer (some ⟨b,o,none⟩),F1 x,F1 y] w (Ret .f32 (cn .f32 x) w):=by
 have hb:b < w.heap.size:=some_lt (a:=⟨b,o,none⟩) (by rw [hk];rfl)
 go_enter Tryz.func231,Tryz.ntmps231
 go_wp2_with fail
 go_ret
 exact ⟨_,rfl,rfl,(by repeat' (first | exact Below.refl _ _ | exact Nat.le_refl _ | refine below_drewN ?_ _ | refine Below.alloc ?_ (by simp <;> omega) _ | refine Below.setCell ?_ (by simp <;> omega) _ | refine below_step ?_ (by assumption)))⟩

set_option maxRecDepth 100000 in
set_option maxHeartbeats 1000000 in
theorem s_mix_stretch (b o  x y:Nat) (w:World) (hk:w.cell? ⟨b,o,none⟩ = some (.int .i64 11)) :
  Calls Tryz.prog 231 #[.pointer (some ⟨b,o,none⟩),F1 x,F1 y] w (Ret .f32 (cn .f32 x) w):=by
 have hb:b < w.heap.size:=some_lt (a:=⟨b,o,none⟩) (by rw [hk];rfl)
 go_enter Tryz.func231,Tryz.ntmps231
 go_wp2_with fail
 go_ret
 exact ⟨_,rfl,rfl,(by repeat' (first | exact Below.refl _ _ | exact Nat.le_refl _ | refine below_drewN ?_ _ | refine Below.alloc ?_ (by simp <;> omega) _ | refine Below.setCell ?_ (by simp <;> omega) _ | refine below_step ?_ (by assumption)))⟩

set_option maxRecDepth 100000 in
set_option maxHeartbeats 1000000 in
theorem s_mix_turn (b o  x y:Nat) (w:World) (hk:w.cell? ⟨b,o,none⟩ = some (.int .i64 12)) :
  Calls Tryz.prog 231 #[.pointer (some ⟨b,o,none⟩),F1 x,F1 y] w (Ret .f32 (cn .f32 x) w):=by
 have hb:b < w.heap.size:=some_lt (a:=⟨b,o,none⟩) (by rw [hk];rfl)
 go_enter Tryz.func231,Tryz.ntmps231
 go_wp2_with fail
 go_ret
 exact ⟨_,rfl,rfl,(by repeat' (first | exact Below.refl _ _ | exact Nat.le_refl _ | refine below_drewN ?_ _ | refine Below.alloc ?_ (by simp <;> omega) _ | refine Below.setCell ?_ (by simp <;> omega) _ | refine below_step ?_ (by assumption)))⟩

set_option maxRecDepth 100000 in
set_option maxHeartbeats 1000000 in
theorem s_mix_mirror (b o  x y:Nat) (w:World) (hk:w.cell? ⟨b,o,none⟩ = some (.int .i64 13)) :
  Calls Tryz.prog 231 #[.pointer (some ⟨b,o,none⟩),F1 x,F1 y] w (Ret .f32 (cn .f32 x) w):=by
 have hb:b < w.heap.size:=some_lt (a:=⟨b,o,none⟩) (by rw [hk];rfl)
 go_enter Tryz.func231,Tryz.ntmps231
 go_wp2_with fail
 go_ret
 exact ⟨_,rfl,rfl,(by repeat' (first | exact Below.refl _ _ | exact Nat.le_refl _ | refine below_drewN ?_ _ | refine Below.alloc ?_ (by simp <;> omega) _ | refine Below.setCell ?_ (by simp <;> omega) _ | refine below_step ?_ (by assumption)))⟩

set_option maxRecDepth 100000 in
set_option maxHeartbeats 1000000 in
theorem s_mix_fold (b o  x y:Nat) (w:World) (hk:w.cell? ⟨b,o,none⟩ = some (.int .i64 14)) :
  Calls Tryz.prog 231 #[.pointer (some ⟨b,o,none⟩),F1 x,F1 y] w (Ret .f32 (cn .f32 x) w):=by
 have hb:b < w.heap.size:=some_lt (a:=⟨b,o,none⟩) (by rw [hk];rfl)
 go_enter Tryz.func231,Tryz.ntmps231
 go_wp2_with fail
 go_ret
 exact ⟨_,rfl,rfl,(by repeat' (first | exact Below.refl _ _ | exact Nat.le_refl _ | refine below_drewN ?_ _ | refine Below.alloc ?_ (by simp <;> omega) _ | refine Below.setCell ?_ (by simp <;> omega) _ | refine below_step ?_ (by assumption)))⟩

set_option maxRecDepth 100000 in
set_option maxHeartbeats 1000000 in
theorem s_mix_smooth (b o bv ov cap r0 x y:Nat) (w:World) (hk:w.cell? ⟨b,o,none⟩ = some (.int .i64 8))
  (hs:w.cell? ⟨b,o + 3,none⟩ = some (.slice (some ⟨bv,ov,none⟩) 1 cap)) (h0:w.cell? ⟨bv,ov,none⟩ = some (F1 r0)) :
  Calls Tryz.prog 231 #[.pointer (some ⟨b,o,none⟩),F1 x,F1 y] w (Ret .f32 (smoothS (cn .f32 x) (cn .f32 y) (cn .f32 r0)) w):=by
 have hb:b < w.heap.size:=some_lt (a:=⟨b,o,none⟩) (by rw [hk];rfl)
 have hbv:bv < w.heap.size:=some_lt (a:=⟨bv,ov,none⟩) (by rw [h0];rfl)
 go_enter Tryz.func231,Tryz.ntmps231
 go_wp2_with (first | (go_at_call 88;refine (s_size_any _ _).mono ?_;rintro _ w2 ⟨r1,rfl,hr1,hb1⟩;have HL:=lift hb1;have HF:=liftF hb1) | (go_at_call 197;refine (s_lesser_any _ _ _).mono ?_;rintro _ w2 ⟨r1,rfl,hr1,hb1⟩;have HL:=lift hb1;have HF:=liftF hb1) | (go_at_call 198;refine (s_greater_any _ _ _).mono ?_;rintro _ w2 ⟨r1,rfl,hr1,hb1⟩;have HL:=lift hb1;have HF:=liftF hb1) | (refine wp_bin rfl _ _ _ _ _ rfl _ _ _ rfl rfl rfl ?_;intro r n hr))
 ·have hg:=gtk_of ‹(FloatKind.f32.format.order _ 0 == some .gt) = true›
  go_ret
  simp only [*] at hg
  exact ⟨_,rfl,by simp only [smoothS,B,hg,if_true,cn_c8, *],(by repeat' (first | exact Below.refl _ _ | exact Nat.le_refl _ | refine below_drewN ?_ _ | refine Below.alloc ?_ (by simp <;> omega) _ | refine Below.setCell ?_ (by simp <;> omega) _ | refine below_step ?_ (by assumption)))⟩
 ·have hg:=gtk_of ‹(FloatKind.f32.format.order _ 0 == some .gt) = false›
  go_ret
  simp only [*] at hg
  exact ⟨_,rfl,by simp only [smoothS,B,hg];simp only [*];rfl,(by repeat' (first | exact Below.refl _ _ | exact Nat.le_refl _ | refine below_drewN ?_ _ | refine Below.alloc ?_ (by simp <;> omega) _ | refine Below.setCell ?_ (by simp <;> omega) _ | refine below_step ?_ (by assumption)))⟩
end Go.Proofs.YtbiacfkiakddiaaGreat

namespace Go.Proofs.YtbiacfkiakddiaaGreat
open Go.RowKit Go.Fl
def finP (x:Nat):Bool:=eqk .f32 (B .sub (cn .f32 x) (cn .f32 x)) 0

theorem finc_any (a:Nat) (w:World) :
  Calls Tryz.prog 256 #[.float .f32 a] w (fun e w' => e = .returned (.bool (!finP a)) ∧ Below w.heap.size w w'):=by
 go_enter Tryz.func256,Tryz.ntmps256
 go_wp2_with (go_at_call 150;refine (fin_any _ _).mono ?_;rintro _ w2 ⟨rfl,hb1⟩)
 go_ret
 exact ⟨rfl,hb1⟩

theorem any_take_succ (p:Nat → Bool) (xs:List Nat) (m:Nat) (h:m < xs.length) (h0:(xs.take m).any p = false) (h1:p xs[m] = false):(xs.take (m + 1)).any p = false:=by
 rw [List.take_succ_eq_append_getElem h,List.any_append,h0]
 simp [h1]

set_option maxRecDepth 100000 in
set_option maxHeartbeats 1000000 in
theorem index_fin (p:Nat → Bool) (xs:List Nat) (bp:Option Addr) (bv ov cap:Nat) (w:World) (h1:xs ≠ [] → bp = some ⟨bv,ov,none⟩) (h2:∀ i (h:i < xs.length),w.cell? ⟨bv,ov + i,none⟩ = some (.float .f32 xs[i])) (hl:xs.length < 10000000)
  (hcall:∀ x w',Below w.heap.size w w' → Calls Tryz.prog 256 #[.float .f32 x] w' (fun e w'' => e = .returned (.bool (p x)) ∧ Below w'.heap.size w' w'')) :
  Calls Tryz.prog 257 #[.slice bp xs.length cap,.func (.func 256) #[] #[]] w (fun e w' => ∃ r:Int,e = .returned (.int .i64 r) ∧ decide (0 ≤ r) = xs.any p ∧ Below w.heap.size w w'):=by
 go_enter Tryz.func257,Tryz.ntmps257
 go_wp2_with fail
 go_loopw [8] (fun i wr => ∃ m:Nat,m ≤ xs.length ∧ i = .int .i64 (m:Int) ∧ (xs.take m).any p = false ∧ Below w.heap.size w wr) (fun i _ => xs.length - (intOf i).toNat)
 case atStart => exact ⟨0,by omega,rfl,rfl,(by repeat' (first | exact Below.refl _ _ | exact Nat.le_refl _ | refine below_drewN ?_ _ | refine Below.alloc ?_ (by simp <;> omega) _ | refine Below.setCell ?_ (by simp <;> omega) _ | refine below_step ?_ (by assumption)))⟩
 case round =>
  obtain ⟨m,hm,rfl,hany,hwr⟩:=hrel
  by_cases hlt:m < xs.length
  ·have hne:xs ≠ []:=by intro h;rw [h] at hlt;simp at hlt
   have hc:=h2 m hlt
   have hlt':(m:Int) < (xs.length:Int):=by omega
   have h0:(0:Int) ≤ (m:Int):=by omega
   have hc':wr.cell? ⟨bv,ov + m,none⟩ = some (.float .f32 xs[m]):=by rw [lift hwr _ (by rw [hc];rfl)];exact hc
   have hbp:=h1 hne
   subst hbp
   clear h1 h2 hc
   go_wp2_with fail
   refine (hcall _ _ hwr).mono ?_
   rintro _ w2 ⟨rfl,hb2⟩
   have hwr2:=below_step hwr hb2
   cases hp:p xs[m]
   ·go_wp2_with fail
    refine ⟨⟨m + 1,by omega,by simp,any_take_succ p xs m hlt hany hp,hwr2⟩,by simp [intOf];omega⟩
   ·go_wp2_with fail
    go_ret
    refine ⟨_,rfl,?_,hwr2⟩
    rw [show xs.any p = true from List.any_eq_true.2 ⟨xs[m],List.getElem_mem _,hp⟩]
    simp
  ·obtain rfl:m = xs.length:=by omega
   go_wp2_with fail
   go_ret
   exact ⟨_,rfl,by rw [List.take_length] at hany;rw [hany];rfl,hwr⟩
set_option maxRecDepth 100000 in
set_option maxHeartbeats 1000000 in
theorem index_sign (ra:Addr) (p:Nat → Bool) (xs:List Nat) (bp:Option Addr) (bv ov cap:Nat) (w:World) (h1:xs ≠ [] → bp = some ⟨bv,ov,none⟩) (h2:∀ i (h:i < xs.length),w.cell? ⟨bv,ov + i,none⟩ = some (.float .f32 xs[i])) (hl:xs.length < 10000000)
  (hcall:∀ x w',Below w.heap.size w w' → Calls Tryz.prog 206 #[.float .f32 x,.pointer (some ra)] w' (fun e w'' => e = .returned (.bool (p x)) ∧ Below w'.heap.size w' w'')) :
  Calls Tryz.prog 257 #[.slice bp xs.length cap,.func (.func 206) #[] #[.pointer (some ra)]] w (fun e w' => ∃ r:Int,e = .returned (.int .i64 r) ∧ decide (0 ≤ r) = xs.any p ∧ Below w.heap.size w w'):=by
 go_enter Tryz.func257,Tryz.ntmps257
 go_wp2_with fail
 go_loopw [8] (fun i wr => ∃ m:Nat,m ≤ xs.length ∧ i = .int .i64 (m:Int) ∧ (xs.take m).any p = false ∧ Below w.heap.size w wr) (fun i _ => xs.length - (intOf i).toNat)
 case atStart => exact ⟨0,by omega,rfl,rfl,(by repeat' (first | exact Below.refl _ _ | exact Nat.le_refl _ | refine below_drewN ?_ _ | refine Below.alloc ?_ (by simp <;> omega) _ | refine Below.setCell ?_ (by simp <;> omega) _ | refine below_step ?_ (by assumption)))⟩
 case round =>
  obtain ⟨m,hm,rfl,hany,hwr⟩:=hrel
  by_cases hlt:m < xs.length
  ·have hne:xs ≠ []:=by intro h;rw [h] at hlt;simp at hlt
   have hc:=h2 m hlt
   have hlt':(m:Int) < (xs.length:Int):=by omega
   have h0:(0:Int) ≤ (m:Int):=by omega
   have hc':wr.cell? ⟨bv,ov + m,none⟩ = some (.float .f32 xs[m]):=by rw [lift hwr _ (by rw [hc];rfl)];exact hc
   have hbp:=h1 hne
   subst hbp
   clear h1 h2 hc
   go_wp2_with fail
   refine (hcall _ _ hwr).mono ?_
   rintro _ w2 ⟨rfl,hb2⟩
   have hwr2:=below_step hwr hb2
   cases hp:p xs[m]
   ·go_wp2_with fail
    refine ⟨⟨m + 1,by omega,by simp,any_take_succ p xs m hlt hany hp,hwr2⟩,by simp [intOf];omega⟩
   ·go_wp2_with fail
    go_ret
    refine ⟨_,rfl,?_,hwr2⟩
    rw [show xs.any p = true from List.any_eq_true.2 ⟨xs[m],List.getElem_mem _,hp⟩]
    simp
  ·obtain rfl:m = xs.length:=by omega
   go_wp2_with fail
   go_ret
   exact ⟨_,rfl,by rw [List.take_length] at hany;rw [hany];rfl,hwr⟩
set_option maxRecDepth 100000 in
set_option maxHeartbeats 1000000 in
theorem contains_fin (p:Nat → Bool) (xs:List Nat) (bp:Option Addr) (bv ov cap:Nat) (w:World) (h1:xs ≠ [] → bp = some ⟨bv,ov,none⟩) (h2:∀ i (h:i < xs.length),w.cell? ⟨bv,ov + i,none⟩ = some (.float .f32 xs[i])) (hl:xs.length < 10000000)
  (hcall:∀ x w',Below w.heap.size w w' → Calls Tryz.prog 256 #[.float .f32 x] w' (fun e w'' => e = .returned (.bool (p x)) ∧ Below w'.heap.size w' w'')) :
  Calls Tryz.prog 205 #[.slice bp xs.length cap,.func (.func 256) #[] #[]] w (fun e w' => e = .returned (.bool (xs.any p)) ∧ Below w.heap.size w w'):=by
 have hi:=index_fin p xs bp bv ov cap w h1 h2 hl hcall
 clear h1 h2 hcall
 go_enter Tryz.func205,Tryz.ntmps205
 go_wp2_with fail
 refine hi.mono ?_
 rintro _ w2 ⟨r,rfl,hr,hb2⟩
 cases ha:xs.any p
 ·rw [ha] at hr
  have hr':r < 0:=by simpa using hr
  go_wp2_with fail
  go_ret
  exact ⟨by rw [ha];rfl,hb2⟩
 ·rw [ha] at hr
  have hr':0 ≤ r:=by simpa using hr
  go_wp2_with fail
  go_ret
  exact ⟨by rw [ha];rfl,hb2⟩

set_option maxRecDepth 100000 in
set_option maxHeartbeats 1000000 in
theorem contains_sign (ra:Addr) (p:Nat → Bool) (xs:List Nat) (bp:Option Addr) (bv ov cap:Nat) (w:World) (h1:xs ≠ [] → bp = some ⟨bv,ov,none⟩) (h2:∀ i (h:i < xs.length),w.cell? ⟨bv,ov + i,none⟩ = some (.float .f32 xs[i])) (hl:xs.length < 10000000)
  (hcall:∀ x w',Below w.heap.size w w' → Calls Tryz.prog 206 #[.float .f32 x,.pointer (some ra)] w' (fun e w'' => e = .returned (.bool (p x)) ∧ Below w'.heap.size w' w'')) :
  Calls Tryz.prog 205 #[.slice bp xs.length cap,.func (.func 206) #[] #[.pointer (some ra)]] w (fun e w' => e = .returned (.bool (xs.any p)) ∧ Below w.heap.size w w'):=by
 have hi:=index_sign ra p xs bp bv ov cap w h1 h2 hl hcall
 clear h1 h2 hcall
 go_enter Tryz.func205,Tryz.ntmps205
 go_wp2_with fail
 refine hi.mono ?_
 rintro _ w2 ⟨r,rfl,hr,hb2⟩
 cases ha:xs.any p
 ·rw [ha] at hr
  have hr':r < 0:=by simpa using hr
  go_wp2_with fail
  go_ret
  exact ⟨by rw [ha];rfl,hb2⟩
 ·rw [ha] at hr
  have hr':0 ≤ r:=by simpa using hr
  go_wp2_with fail
  go_ret
  exact ⟨by rw [ha];rfl,hb2⟩

theorem finite_any (xs:List Nat) (bp:Option Addr) (bv ov cap:Nat) (w:World) (h1:xs ≠ [] → bp = some ⟨bv,ov,none⟩) (h2:∀ i (h:i < xs.length),w.cell? ⟨bv,ov + i,none⟩ = some (.float .f32 xs[i])) (hl:xs.length < 10000000) :
  Calls Tryz.prog 204 #[.slice bp xs.length cap] w (fun e w' => e = .returned (.bool (!xs.any (fun x => !finP x))) ∧ Below w.heap.size w w'):=by
 have hi:=contains_fin (fun x => !finP x) xs bp bv ov cap w h1 h2 hl (fun x w' _ => finc_any x w')
 clear h1 h2
 go_enter Tryz.func204,Tryz.ntmps204
 go_wp2_with fail
 refine hi.mono ?_
 rintro _ w2 ⟨rfl,hb2⟩
 go_wp2_with fail
 go_ret
 exact ⟨rfl,hb2⟩

def signBad (s:Nat) (x:Nat):Bool:=(s == 1 && ltk .f32 (cn .f32 x) 0) || (s == 2 && lek .f32 (cn .f32 x) 0)

set_option maxRecDepth 100000 in
set_option maxHeartbeats 1000000 in
theorem signc_any (s:Nat) (hs:s ≤ 2) (a rb ro:Nat) (w:World) (h:w.cell? ⟨rb,ro + 3,none⟩ = some (.int .i64 (s:Int))) :
  Calls Tryz.prog 206 #[.float .f32 a,.pointer (some ⟨rb,ro,none⟩)] w (fun e w' => e = .returned (.bool (signBad s a)) ∧ Below w.heap.size w w'):=by
 have:s = 0 ∨ s = 1 ∨ s = 2:=by omega
 rcases this with h | h | h <;> subst h
 all_goals
  go_enter Tryz.func206,Tryz.ntmps206
  go_wp2_with fail
  all_goals
   go_ret
   refine ⟨congrArg (fun b => Ending.returned (.bool b)) (?_:_ = _),Below.refl _ _⟩
   simp [signBad,ltk,lek,ord_r0, *]
end Go.Proofs.YtbiacfkiakddiaaGreat
