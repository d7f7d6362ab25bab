/-
 Lemmas: W3.
-/
import Derived.Test.YtbiacfkiakddiaaGreatOal
set_option linter.unusedVariables false
set_option linter.unusedSimpArgs false
namespace Go.Proofs.YtbiacfkiakddiaaGreat
open Go.RowKit Go.Fl
set_option maxRecDepth 100000 in
set_option maxHeartbeats 1000000 in
theorem mix_union (b o  x y:Nat) (w:World) (hk:w.cell? ⟨b,o,none⟩ = some (.int .i64 5)) :
  Calls Tryz.prog 234 #[.pointer (some ⟨b,o,none⟩),F1 x,F1 y] w (Ret .f32 (lesserF (cn .f32 x) (cn .f32 y)) w):=by
 have hb:b < w.heap.size:=some_lt (a:=⟨b,o,none⟩) (by rw [hk];rfl)
 go_enter Tryz.func234,Tryz.ntmps234
 go_wp2_with (first | (go_at_call 90;refine (size_any _ _).mono ?_;rintro _ w2 ⟨r1,rfl,hr1,hb1⟩;have HL:=lift hb1;have HF:=liftF hb1) | (go_at_call 221;refine (lesser_any _ _ _).mono ?_;rintro _ w2 ⟨r1,rfl,hr1,hb1⟩;have HL:=lift hb1;have HF:=liftF hb1) | (go_at_call 222;refine (greater_any _ _ _).mono ?_;rintro _ w2 ⟨r1,rfl,hr1,hb1⟩;have HL:=lift hb1;have HF:=liftF hb1) | (go_at_call 224;refine (bulge_any _ _ _).mono ?_;rintro _ w2 ⟨r1,rfl,hr1,hb1⟩;have HL:=lift hb1;have HF:=liftF hb1) | (refine wp_bin rfl _ _ _ _ _ rfl _ _ _ rfl rfl rfl ?_;intro r n hr))
 go_ret
 exact ⟨_,rfl,by simp only [cn_zero,negc_cn, *],(by repeat' (first | exact Below.refl _ _ | exact Nat.le_refl _ | refine below_drewN ?_ _ | refine Below.alloc ?_ (by simp <;> omega) _ | refine Below.setCell ?_ (by simp <;> omega) _ | refine below_step ?_ (by assumption)))⟩

set_option maxRecDepth 100000 in
set_option maxHeartbeats 1000000 in
theorem mix_cut (b o  x y:Nat) (w:World) (hk:w.cell? ⟨b,o,none⟩ = some (.int .i64 6)) :
  Calls Tryz.prog 234 #[.pointer (some ⟨b,o,none⟩),F1 x,F1 y] w (Ret .f32 (greaterF (cn .f32 x) (cn .f32 y)) w):=by
 have hb:b < w.heap.size:=some_lt (a:=⟨b,o,none⟩) (by rw [hk];rfl)
 go_enter Tryz.func234,Tryz.ntmps234
 go_wp2_with (first | (go_at_call 90;refine (size_any _ _).mono ?_;rintro _ w2 ⟨r1,rfl,hr1,hb1⟩;have HL:=lift hb1;have HF:=liftF hb1) | (go_at_call 221;refine (lesser_any _ _ _).mono ?_;rintro _ w2 ⟨r1,rfl,hr1,hb1⟩;have HL:=lift hb1;have HF:=liftF hb1) | (go_at_call 222;refine (greater_any _ _ _).mono ?_;rintro _ w2 ⟨r1,rfl,hr1,hb1⟩;have HL:=lift hb1;have HF:=liftF hb1) | (go_at_call 224;refine (bulge_any _ _ _).mono ?_;rintro _ w2 ⟨r1,rfl,hr1,hb1⟩;have HL:=lift hb1;have HF:=liftF hb1) | (refine wp_bin rfl _ _ _ _ _ rfl _ _ _ rfl rfl rfl ?_;intro r n hr))
 go_ret
 exact ⟨_,rfl,by simp only [cn_zero,negc_cn, *],(by repeat' (first | exact Below.refl _ _ | exact Nat.le_refl _ | refine below_drewN ?_ _ | refine Below.alloc ?_ (by simp <;> omega) _ | refine Below.setCell ?_ (by simp <;> omega) _ | refine below_step ?_ (by assumption)))⟩

set_option maxRecDepth 100000 in
set_option maxHeartbeats 1000000 in
theorem mix_less (b o  x y:Nat) (w:World) (hk:w.cell? ⟨b,o,none⟩ = some (.int .i64 7)) :
  Calls Tryz.prog 234 #[.pointer (some ⟨b,o,none⟩),F1 x,F1 y] w (Ret .f32 (greaterF (cn .f32 x) (negc .f32 (cn .f32 y))) w):=by
 have hb:b < w.heap.size:=some_lt (a:=⟨b,o,none⟩) (by rw [hk];rfl)
 go_enter Tryz.func234,Tryz.ntmps234
 go_wp2_with (first | (go_at_call 90;refine (size_any _ _).mono ?_;rintro _ w2 ⟨r1,rfl,hr1,hb1⟩;have HL:=lift hb1;have HF:=liftF hb1) | (go_at_call 221;refine (lesser_any _ _ _).mono ?_;rintro _ w2 ⟨r1,rfl,hr1,hb1⟩;have HL:=lift hb1;have HF:=liftF hb1) | (go_at_call 222;refine (greater_any _ _ _).mono ?_;rintro _ w2 ⟨r1,rfl,hr1,hb1⟩;have HL:=lift hb1;have HF:=liftF hb1) | (go_at_call 224;refine (bulge_any _ _ _).mono ?_;rintro _ w2 ⟨r1,rfl,hr1,hb1⟩;have HL:=lift hb1;have HF:=liftF hb1) | (refine wp_bin rfl _ _ _ _ _ rfl _ _ _ rfl rfl rfl ?_;intro r n hr))
 go_ret
 exact ⟨_,rfl,by simp only [cn_zero,negc_cn, *],(by repeat' (first | exact Below.refl _ _ | exact Nat.le_refl _ | refine below_drewN ?_ _ | refine Below.alloc ?_ (by simp <;> omega) _ | refine Below.setCell ?_ (by simp <;> omega) _ | refine below_step ?_ (by assumption)))⟩

set_option maxRecDepth 100000 in
set_option maxHeartbeats 1000000 in
theorem mix_scale (b o bv ov cap r0 x y:Nat) (w:World) (hk:w.cell? ⟨b,o,none⟩ = some (.int .i64 10))
  (hs:w.cell? ⟨b,o + 3,none⟩ = some (.slice (some ⟨bv,ov,none⟩) 1 cap)) (h0:w.cell? ⟨bv,ov,none⟩ = some (F1 r0)) :
  Calls Tryz.prog 234 #[.pointer (some ⟨b,o,none⟩),F1 x,F1 y] w (Ret .f32 (B .mul (cn .f32 x) (cn .f32 r0)) w):=by
 have hb:b < w.heap.size:=some_lt (a:=⟨b,o,none⟩) (by rw [hk];rfl)
 have hbv:bv < w.heap.size:=some_lt (a:=⟨bv,ov,none⟩) (by rw [h0];rfl)
 go_enter Tryz.func234,Tryz.ntmps234
 go_wp2_with (first | (go_at_call 90;refine (size_any _ _).mono ?_;rintro _ w2 ⟨r1,rfl,hr1,hb1⟩;have HL:=lift hb1;have HF:=liftF hb1) | (go_at_call 221;refine (lesser_any _ _ _).mono ?_;rintro _ w2 ⟨r1,rfl,hr1,hb1⟩;have HL:=lift hb1;have HF:=liftF hb1) | (go_at_call 222;refine (greater_any _ _ _).mono ?_;rintro _ w2 ⟨r1,rfl,hr1,hb1⟩;have HL:=lift hb1;have HF:=liftF hb1) | (go_at_call 224;refine (bulge_any _ _ _).mono ?_;rintro _ w2 ⟨r1,rfl,hr1,hb1⟩;have HL:=lift hb1;have HF:=liftF hb1) | (refine wp_bin rfl _ _ _ _ _ rfl _ _ _ rfl rfl rfl ?_;intro r n hr))
 go_ret
 exact ⟨_,rfl,by simp only [cn_zero,negc_cn, *],(by repeat' (first | exact Below.refl _ _ | exact Nat.le_refl _ | refine below_drewN ?_ _ | refine Below.alloc ?_ (by simp <;> omega) _ | refine Below.setCell ?_ (by simp <;> omega) _ | refine below_step ?_ (by assumption)))⟩

set_option maxRecDepth 100000 in
set_option maxHeartbeats 1000000 in
theorem mix_round (b o bv ov cap r0 x y:Nat) (w:World) (hk:w.cell? ⟨b,o,none⟩ = some (.int .i64 15))
  (hs:w.cell? ⟨b,o + 3,none⟩ = some (.slice (some ⟨bv,ov,none⟩) 1 cap)) (h0:w.cell? ⟨bv,ov,none⟩ = some (F1 r0)) :
  Calls Tryz.prog 234 #[.pointer (some ⟨b,o,none⟩),F1 x,F1 y] w (Ret .f32 (B .sub (cn .f32 x) (cn .f32 r0)) w):=by
 have hb:b < w.heap.size:=some_lt (a:=⟨b,o,none⟩) (by rw [hk];rfl)
 have hbv:bv < w.heap.size:=some_lt (a:=⟨bv,ov,none⟩) (by rw [h0];rfl)
 go_enter Tryz.func234,Tryz.ntmps234
 go_wp2_with (first | (go_at_call 90;refine (size_any _ _).mono ?_;rintro _ w2 ⟨r1,rfl,hr1,hb1⟩;have HL:=lift hb1;have HF:=liftF hb1) | (go_at_call 221;refine (lesser_any _ _ _).mono ?_;rintro _ w2 ⟨r1,rfl,hr1,hb1⟩;have HL:=lift hb1;have HF:=liftF hb1) | (go_at_call 222;refine (greater_any _ _ _).mono ?_;rintro _ w2 ⟨r1,rfl,hr1,hb1⟩;have HL:=lift hb1;have HF:=liftF hb1) | (go_at_call 224;refine (bulge_any _ _ _).mono ?_;rintro _ w2 ⟨r1,rfl,hr1,hb1⟩;have HL:=lift hb1;have HF:=liftF hb1) | (refine wp_bin rfl _ _ _ _ _ rfl _ _ _ rfl rfl rfl ?_;intro r n hr))
 go_ret
 exact ⟨_,rfl,by simp only [cn_zero,negc_cn, *],(by repeat' (first | exact Below.refl _ _ | exact Nat.le_refl _ | refine below_drewN ?_ _ | refine Below.alloc ?_ (by simp <;> omega) _ | refine Below.setCell ?_ (by simp <;> omega) _ | refine below_step ?_ (by assumption)))⟩

set_option maxRecDepth 100000 in
set_option maxHeartbeats 1000000 in
theorem mix_shell (b o bv ov cap r0 x y:Nat) (w:World) (hk:w.cell? ⟨b,o,none⟩ = some (.int .i64 16))
  (hs:w.cell? ⟨b,o + 3,none⟩ = some (.slice (some ⟨bv,ov,none⟩) 1 cap)) (h0:w.cell? ⟨bv,ov,none⟩ = some (F1 r0)) :
  Calls Tryz.prog 234 #[.pointer (some ⟨b,o,none⟩),F1 x,F1 y] w (Ret .f32 (B .sub (sizeF (cn .f32 x)) (cn .f32 r0)) w):=by
 have hb:b < w.heap.size:=some_lt (a:=⟨b,o,none⟩) (by rw [hk];rfl)
 have hbv:bv < w.heap.size:=some_lt (a:=⟨bv,ov,none⟩) (by rw [h0];rfl)
 go_enter Tryz.func234,Tryz.ntmps234
 go_wp2_with fail
 refine Qr.wp_below_all (by kernel_rfl) (by kernel_rfl) PhiF ?_
 repeat (first | (refine Qr.walk_plain rfl fun K hK => ?_;refine one_bin _ _ _ _ _ rfl _ _ _ rfl rfl rfl (fun r hr => ?_);go_simp;refine hK _ ?_;clear hK K) | (refine Qr.walk_plain rfl fun K hK => ?_;apply Qr.one_det;(focus (intro w' hw';have HL:=lift hw';go_simp;first | done | rfl));go_simp;refine hK _ ?_;clear hK K) | (refine Qr.walk_plain rfl fun K hK => ?_;apply Qr.one_call;(focus (intro w' hw';go_simp;first | done | exact ⟨rfl,rfl⟩));(focus (intro w' hw'; go_at_call 90;refine (size_any _ _).mono ?_;rintro _ w2 ⟨r1,rfl,hr1,hb1⟩ ;exact ⟨_,rfl,by constructor <;> assumption,below_step hw' (by assumption),by assumption⟩));intro v hv;cases hv;go_simp;refine hK _ ?_;clear hK K) | (refine Qr.walk_plain rfl fun K hK => ?_;apply Qr.one_call;(focus (intro w' hw';go_simp;first | done | exact ⟨rfl,rfl⟩));(focus (intro w' hw'; go_at_call 221;refine (lesser_any _ _ _).mono ?_;rintro _ w2 ⟨r1,rfl,hr1,hb1⟩ ;exact ⟨_,rfl,by constructor <;> assumption,below_step hw' (by assumption),by assumption⟩));intro v hv;cases hv;go_simp;refine hK _ ?_;clear hK K) | (refine Qr.walk_plain rfl fun K hK => ?_;apply Qr.one_call;(focus (intro w' hw';go_simp;first | done | exact ⟨rfl,rfl⟩));(focus (intro w' hw'; go_at_call 222;refine (greater_any _ _ _).mono ?_;rintro _ w2 ⟨r1,rfl,hr1,hb1⟩ ;exact ⟨_,rfl,by constructor <;> assumption,below_step hw' (by assumption),by assumption⟩));intro v hv;cases hv;go_simp;refine hK _ ?_;clear hK K) | (refine Qr.walk_plain rfl fun K hK => ?_;apply Qr.one_call;(focus (intro w' hw';go_simp;first | done | exact ⟨rfl,rfl⟩));(focus (intro w' hw'; go_at_call 224;refine (bulge_any _ _ _).mono ?_;rintro _ w2 ⟨r1,rfl,hr1,hb1⟩ ;exact ⟨_,rfl,by constructor <;> assumption,below_step hw' (by assumption),by assumption⟩));intro v hv;cases hv;go_simp;refine hK _ ?_;clear hK K))
 refine Qr.walk_nil fun w3 hw3 => ?_
 go_wp2_with fail
 go_ret
 exact ⟨_,rfl,by simp only [*],(by repeat' (first | exact Below.refl _ _ | exact Nat.le_refl _ | refine below_drewN ?_ _ | refine Below.alloc ?_ (by simp <;> omega) _ | refine Below.setCell ?_ (by simp <;> omega) _ | refine below_step ?_ (by assumption)))⟩

set_option maxRecDepth 100000 in
set_option maxHeartbeats 1000000 in
theorem mix_move (b o  x y:Nat) (w:World) (hk:w.cell? ⟨b,o,none⟩ = some (.int .i64 9)) :
  Calls Tryz.prog 234 #[.pointer (some ⟨b,o,none⟩),F1 x,F1 y] w (Ret .f32 (cn .f32 x) w):=by
 have hb:b < w.heap.size:=some_lt (a:=⟨b,o,none⟩) (by rw [hk];rfl)
 go_enter Tryz.func234,Tryz.ntmps234
 go_wp2_with fail
 go_ret
 exact ⟨_,rfl,rfl,(by repeat' (first | exact Below.refl _ _ | exact Nat.le_refl _ | refine below_drewN ?_ _ | refine Below.alloc ?_ (by simp <;> omega) _ | refine Below.setCell ?_ (by simp <;> omega) _ | refine below_step ?_ (by assumption)))⟩

set_option maxRecDepth 100000 in
set_option maxHeartbeats 1000000 in
theorem mix_stretch (b o  x y:Nat) (w:World) (hk:w.cell? ⟨b,o,none⟩ = some (.int .i64 11)) :
  Calls Tryz.prog 234 #[.pointer (some ⟨b,o,none⟩),F1 x,F1 y] w (Ret .f32 (cn .f32 x) w):=by
 have hb:b < w.heap.size:=some_lt (a:=⟨b,o,none⟩) (by rw [hk];rfl)
 go_enter Tryz.func234,Tryz.ntmps234
 go_wp2_with fail
 go_ret
 exact ⟨_,rfl,rfl,(by repeat' (first | exact Below.refl _ _ | exact Nat.le_refl _ | refine below_drewN ?_ _ | refine Below.alloc ?_ (by simp <;> omega) _ | refine Below.setCell ?_ (by simp <;> omega) _ | refine below_step ?_ (by assumption)))⟩

set_option maxRecDepth 100000 in
set_option maxHeartbeats 1000000 in
theorem mix_turn (b o  x y:Nat) (w:World) (hk:w.cell? ⟨b,o,none⟩ = some (.int .i64 12)) :
  Calls Tryz.prog 234 #[.pointer (some ⟨b,o,none⟩),F1 x,F1 y] w (Ret .f32 (cn .f32 x) w):=by
 have hb:b < w.heap.size:=some_lt (a:=⟨b,o,none⟩) (by rw [hk];rfl)
 go_enter Tryz.func234,Tryz.ntmps234
 go_wp2_with fail
 go_ret
 exact ⟨_,rfl,rfl,(by repeat' (first | exact Below.refl _ _ | exact Nat.le_refl _ | refine below_drewN ?_ _ | refine Below.alloc ?_ (by simp <;> omega) _ | refine Below.setCell ?_ (by simp <;> omega) _ | refine below_step ?_ (by assumption)))⟩

set_option maxRecDepth 100000 in
set_option maxHeartbeats 1000000 in
theorem mix_mirror (b o  x y:Nat) (w:World) (hk:w.cell? ⟨b,o,none⟩ = some (.int .i64 13)) :
  Calls Tryz.prog 234 #[.pointer (some ⟨b,o,none⟩),F1 x,F1 y] w (Ret .f32 (cn .f32 x) w):=by
 have hb:b < w.heap.size:=some_lt (a:=⟨b,o,none⟩) (by rw [hk];rfl)
 go_enter Tryz.func234,Tryz.ntmps234
 go_wp2_with fail
 go_ret
 exact ⟨_,rfl,rfl,(by repeat' (first | exact Below.refl _ _ | exact Nat.le_refl _ | refine below_drewN ?_ _ | refine Below.alloc ?_ (by simp <;> omega) _ | refine Below.setCell ?_ (by simp <;> omega) _ | refine below_step ?_ (by assumption)))⟩

set_option maxRecDepth 100000 in
set_option maxHeartbeats 1000000 in
theorem mix_fold (b o  x y:Nat) (w:World) (hk:w.cell? ⟨b,o,none⟩ = some (.int .i64 14)) :
  Calls Tryz.prog 234 #[.pointer (some ⟨b,o,none⟩),F1 x,F1 y] w (Ret .f32 (cn .f32 x) w):=by
 have hb:b < w.heap.size:=some_lt (a:=⟨b,o,none⟩) (by rw [hk];rfl)
 go_enter Tryz.func234,Tryz.ntmps234
 go_wp2_with fail
 go_ret
 exact ⟨_,rfl,rfl,(by repeat' (first | exact Below.refl _ _ | exact Nat.le_refl _ | refine below_drewN ?_ _ | refine Below.alloc ?_ (by simp <;> omega) _ | refine Below.setCell ?_ (by simp <;> omega) _ | refine below_step ?_ (by assumption)))⟩

set_option maxRecDepth 100000 in
set_option maxHeartbeats 1000000 in
theorem mix_smooth (b o bv ov cap r0 x y:Nat) (w:World) (hk:w.cell? ⟨b,o,none⟩ = some (.int .i64 8))
  (hs:w.cell? ⟨b,o + 3,none⟩ = some (.slice (some ⟨bv,ov,none⟩) 1 cap)) (h0:w.cell? ⟨bv,ov,none⟩ = some (F1 r0)) :
  Calls Tryz.prog 234 #[.pointer (some ⟨b,o,none⟩),F1 x,F1 y] w (Ret .f32 (smoothF (cn .f32 x) (cn .f32 y) (cn .f32 r0)) w):=by
 have hb:b < w.heap.size:=some_lt (a:=⟨b,o,none⟩) (by rw [hk];rfl)
 have hbv:bv < w.heap.size:=some_lt (a:=⟨bv,ov,none⟩) (by rw [h0];rfl)
 go_enter Tryz.func234,Tryz.ntmps234
 go_wp2_with fail
 refine Qr.wp_below_all (by kernel_rfl) (by kernel_rfl) PhiF ?_
 repeat (first | (refine Qr.walk_plain rfl fun K hK => ?_;refine one_bin _ _ _ _ _ rfl _ _ _ rfl rfl rfl (fun r hr => ?_);go_simp;refine hK _ ?_;clear hK K) | (refine Qr.walk_plain rfl fun K hK => ?_;apply Qr.one_det;(focus (intro w' hw';have HL:=lift hw';go_simp;first | done | rfl));go_simp;refine hK _ ?_;clear hK K) | (refine Qr.walk_plain rfl fun K hK => ?_;apply Qr.one_call;(focus (intro w' hw';go_simp;first | done | exact ⟨rfl,rfl⟩));(focus (intro w' hw'; go_at_call 90;refine (size_any _ _).mono ?_;rintro _ w2 ⟨r1,rfl,hr1,hb1⟩ ;exact ⟨_,rfl,by constructor <;> assumption,below_step hw' (by assumption),by assumption⟩));intro v hv;cases hv;go_simp;refine hK _ ?_;clear hK K) | (refine Qr.walk_plain rfl fun K hK => ?_;apply Qr.one_call;(focus (intro w' hw';go_simp;first | done | exact ⟨rfl,rfl⟩));(focus (intro w' hw'; go_at_call 221;refine (lesser_any _ _ _).mono ?_;rintro _ w2 ⟨r1,rfl,hr1,hb1⟩ ;exact ⟨_,rfl,by constructor <;> assumption,below_step hw' (by assumption),by assumption⟩));intro v hv;cases hv;go_simp;refine hK _ ?_;clear hK K) | (refine Qr.walk_plain rfl fun K hK => ?_;apply Qr.one_call;(focus (intro w' hw';go_simp;first | done | exact ⟨rfl,rfl⟩));(focus (intro w' hw'; go_at_call 222;refine (greater_any _ _ _).mono ?_;rintro _ w2 ⟨r1,rfl,hr1,hb1⟩ ;exact ⟨_,rfl,by constructor <;> assumption,below_step hw' (by assumption),by assumption⟩));intro v hv;cases hv;go_simp;refine hK _ ?_;clear hK K) | (refine Qr.walk_plain rfl fun K hK => ?_;apply Qr.one_call;(focus (intro w' hw';go_simp;first | done | exact ⟨rfl,rfl⟩));(focus (intro w' hw'; go_at_call 224;refine (bulge_any _ _ _).mono ?_;rintro _ w2 ⟨r1,rfl,hr1,hb1⟩ ;exact ⟨_,rfl,by constructor <;> assumption,below_step hw' (by assumption),by assumption⟩));intro v hv;cases hv;go_simp;refine hK _ ?_;clear hK K))
 refine Qr.walk_nil fun w3 hw3 => ?_
 have HL3:=lift hw3
 go_wp2_with (first | (go_at_call 90;refine (size_any _ _).mono ?_;rintro _ w2 ⟨r1,rfl,hr1,hb1⟩;have HL:=lift hb1;have HF:=liftF hb1) | (go_at_call 221;refine (lesser_any _ _ _).mono ?_;rintro _ w2 ⟨r1,rfl,hr1,hb1⟩;have HL:=lift hb1;have HF:=liftF hb1) | (go_at_call 222;refine (greater_any _ _ _).mono ?_;rintro _ w2 ⟨r1,rfl,hr1,hb1⟩;have HL:=lift hb1;have HF:=liftF hb1) | (go_at_call 224;refine (bulge_any _ _ _).mono ?_;rintro _ w2 ⟨r1,rfl,hr1,hb1⟩;have HL:=lift hb1;have HF:=liftF hb1) | (refine wp_bin rfl _ _ _ _ _ rfl _ _ _ rfl rfl rfl ?_;intro r n hr))
 ·have hg:=gtk_of ‹(FloatKind.f32.format.order _ 0 == some .gt) = true›
  refine Qr.wp_below_all (by kernel_rfl) (by kernel_rfl) PhiF ?_
  repeat (first | (refine Qr.walk_plain rfl fun K hK => ?_;refine one_bin _ _ _ _ _ rfl _ _ _ rfl rfl rfl (fun r hr => ?_);go_simp;refine hK _ ?_;clear hK K) | (refine Qr.walk_plain rfl fun K hK => ?_;apply Qr.one_det;(focus (intro w' hw';have HL:=lift hw';go_simp;first | done | rfl));go_simp;refine hK _ ?_;clear hK K) | (refine Qr.walk_plain rfl fun K hK => ?_;apply Qr.one_call;(focus (intro w' hw';go_simp;first | done | exact ⟨rfl,rfl⟩));(focus (intro w' hw'; go_at_call 90;refine (size_any _ _).mono ?_;rintro _ w2 ⟨r1,rfl,hr1,hb1⟩ ;exact ⟨_,rfl,by constructor <;> assumption,below_step hw' (by assumption),by assumption⟩));intro v hv;cases hv;go_simp;refine hK _ ?_;clear hK K) | (refine Qr.walk_plain rfl fun K hK => ?_;apply Qr.one_call;(focus (intro w' hw';go_simp;first | done | exact ⟨rfl,rfl⟩));(focus (intro w' hw'; go_at_call 221;refine (lesser_any _ _ _).mono ?_;rintro _ w2 ⟨r1,rfl,hr1,hb1⟩ ;exact ⟨_,rfl,by constructor <;> assumption,below_step hw' (by assumption),by assumption⟩));intro v hv;cases hv;go_simp;refine hK _ ?_;clear hK K) | (refine Qr.walk_plain rfl fun K hK => ?_;apply Qr.one_call;(focus (intro w' hw';go_simp;first | done | exact ⟨rfl,rfl⟩));(focus (intro w' hw'; go_at_call 222;refine (greater_any _ _ _).mono ?_;rintro _ w2 ⟨r1,rfl,hr1,hb1⟩ ;exact ⟨_,rfl,by constructor <;> assumption,below_step hw' (by assumption),by assumption⟩));intro v hv;cases hv;go_simp;refine hK _ ?_;clear hK K) | (refine Qr.walk_plain rfl fun K hK => ?_;apply Qr.one_call;(focus (intro w' hw';go_simp;first | done | exact ⟨rfl,rfl⟩));(focus (intro w' hw'; go_at_call 224;refine (bulge_any _ _ _).mono ?_;rintro _ w2 ⟨r1,rfl,hr1,hb1⟩ ;exact ⟨_,rfl,by constructor <;> assumption,below_step hw' (by assumption),by assumption⟩));intro v hv;cases hv;go_simp;refine hK _ ?_;clear hK K))
  refine Qr.walk_nil fun w4 hw4 => ?_
  go_wp2_with fail
  go_ret
  simp only [*] at hg
  exact ⟨_,rfl,by simp only [smoothF,B,hg,if_true, *],(by repeat' (first | exact Below.refl _ _ | exact Nat.le_refl _ | refine below_drewN ?_ _ | refine Below.alloc ?_ (by simp <;> omega) _ | refine Below.setCell ?_ (by simp <;> omega) _ | refine below_step ?_ (by assumption)))⟩
 ·have hg:=gtk_of ‹(FloatKind.f32.format.order _ 0 == some .gt) = false›
  go_ret
  simp only [*] at hg
  exact ⟨_,rfl,by simp only [smoothF,B,hg];simp only [*];rfl,(by repeat' (first | exact Below.refl _ _ | exact Nat.le_refl _ | refine below_drewN ?_ _ | refine Below.alloc ?_ (by simp <;> omega) _ | refine Below.setCell ?_ (by simp <;> omega) _ | refine below_step ?_ (by assumption)))⟩
end Go.Proofs.YtbiacfkiakddiaaGreat
