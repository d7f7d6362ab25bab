/-
 Lemmas: S12.
-/
import Derived.Test.YtbiacfkiakddiaaGreatOao
set_option linter.unusedVariables false
set_option linter.unusedSimpArgs false
namespace Go.Proofs.YtbiacfkiakddiaaGreat
open Go.RowKit Go.Fl
set_option maxRecDepth 100000 in
set_option maxHeartbeats 2000000 in
theorem s_point_mirror0 {b o x y z:Nat} {w:World} (hkept:Kept [(⟨b,o,none⟩,.int .i64 13),(⟨b,o + 2,none⟩,.int .i64 0)] [] w) :
  Calls Tryz.prog 263 #[.pointer (some ⟨b,o,none⟩),V3 x y z] w (RetV (sizeS (cn .f32 x)) (cn .f32 y) (cn .f32 z) w):=by
 have hK:=hkept
 simp only [Kept,ka,kb,kc,kd,ke,kfa,kga] at hK
 have hb:b < w.heap.size:=some_lt (a:=⟨b,o,none⟩) (by rw [hK.1];rfl)
 have hb1:b < w.heap.size + 1:=by omega
 go_enter Tryz.func263,Tryz.ntmps263
 go_upto_region 11 with (fail)
 have Wb:Below w.heap.size w ((w.alloc (.cells #[F1 x,F1 y,F1 z] 38)).alloc (.cells #[F1 0,F1 0,F1 0] 38)):=(by repeat' (first | exact Below.refl _ _ | exact Nat.le_refl _ | refine below_drewN ?_ _ | refine Below.alloc ?_ (by simp <;> omega) _ | refine Below.setCell ?_ (by simp <;> omega) _ | refine below_step ?_ (by assumption)))

 have hkept:=kept_app (keep hkept Wb) (show Kept [(⟨w.heap.size,0,none⟩,F1 x),(⟨w.heap.size,1,none⟩,F1 y),(⟨w.heap.size,2,none⟩,F1 z),(⟨w.heap.size + 1,0,none⟩,F1 0),(⟨w.heap.size + 1,1,none⟩,F1 0),(⟨w.heap.size + 1,2,none⟩,F1 0)] [⟨w.heap.size + 1,0,none⟩,⟨w.heap.size + 1,1,none⟩,⟨w.heap.size + 1,2,none⟩] ((w.alloc (.cells #[F1 x,F1 y,F1 z] 38)).alloc (.cells #[F1 0,F1 0,F1 0] 38)) by
  simp only [Kept,ka,kb,kc,kd,ke,kfa,kga];simp)
 generalize (w.alloc (.cells #[F1 x,F1 y,F1 z] 38)).alloc (.cells #[F1 0,F1 0,F1 0] 38) = W1 at Wb hkept ⊢
 refine Qr.wp_below 13 (by kernel_rfl) (by kernel_rfl) PhiP ?_
 repeat (first | (refine Qr.walk_plain rfl fun K hK => ?_;refine one_bin _ _ _ _ _ rfl _ _ _ rfl rfl rfl (fun r hr => ?_);go_simp;refine hK _ ?_;clear hK K) | (refine Qr.walk_plain rfl fun K hK => ?_;apply Qr.one_det;(focus (intro w' hw';have HK:=keep hkept hw';simp only [Kept,ka,kb,kc,kd,ke,kfa,kga] at HK;go_simp;first | done | rfl));go_simp;refine hK _ ?_;clear hK K) | (refine Qr.walk_plain rfl fun K hK => ?_;apply Qr.one_call;(focus (intro w' hw';go_simp;first | done | exact ⟨rfl,rfl⟩));(focus (intro w' hw'; go_at_call 167;refine (s_less_any _ _ _ _ _ _ _).mono ?_;rintro _ w2 ⟨x1,y1,z1,rfl,hx1,hy1,hz1,hb1⟩ ;exact ⟨_,rfl,by constructor <;> assumption,below_step hw' (by assumption),by assumption⟩));intro v hv;cases hv;go_simp;refine hK _ ?_;clear hK K) | (refine Qr.walk_plain rfl fun K hK => ?_;apply Qr.one_call;(focus (intro w' hw';go_simp;first | done | exact ⟨rfl,rfl⟩));(focus (intro w' hw'; go_at_call 142;refine (s_pick_any _ _ _ _ _).mono ?_;rintro _ w2 ⟨rfl,hb1⟩ ;exact ⟨_,rfl,by constructor <;> assumption,below_step hw' (by assumption),by assumption⟩));intro v hv;cases hv;go_simp;refine hK _ ?_;clear hK K) | (refine Qr.walk_plain rfl fun K hK => ?_;apply Qr.one_call;(focus (intro w' hw';go_simp;first | done | exact ⟨rfl,rfl⟩));(focus (intro w' hw'; go_at_call 143;refine (s_set_any _ _ _ _ _ _).mono ?_;rintro _ w2 ⟨rfl,hb1⟩ ;exact ⟨_,rfl,by constructor <;> assumption,below_step hw' (by assumption),by assumption⟩));intro v hv;cases hv;go_simp;refine hK _ ?_;clear hK K) | (refine Qr.walk_plain rfl fun K hK => ?_;apply Qr.one_call;(focus (intro w' hw';go_simp;first | done | exact ⟨rfl,rfl⟩));(focus (intro w' hw'; go_at_call 88;refine (s_size_any _ _).mono ?_;rintro _ w2 ⟨r1,rfl,hr1,hb1⟩ ;exact ⟨_,rfl,by constructor <;> assumption,below_step hw' (by assumption),by assumption⟩));intro v hv;cases hv;go_simp;refine hK _ ?_;clear hK K) | (refine Qr.walk_plain rfl fun K hK => ?_;apply Qr.one_call;(focus (intro w' hw';go_simp;first | done | exact ⟨rfl,rfl⟩));(focus (intro w' hw'; go_at_call 276;refine (s_folded_any _ _ _).mono ?_;rintro _ w2 ⟨r1,rfl,hr1,hb1⟩ ;exact ⟨_,rfl,by constructor <;> assumption,below_step hw' (by assumption),by assumption⟩));intro v hv;cases hv;go_simp;refine hK _ ?_;clear hK K))
 refine Qr.walk_nil fun w6 hw6 => ?_
 have hkept:=keep hkept hw6
 have W6b:=below_step Wb hw6
 clear hK
 have hK:=hkept
 simp only [Kept,ka,kb,kc,kd,ke,kfa,kga] at hK
 go_wp2_with fail
 obtain ⟨hk1,hk2⟩:=hK
 exact bodyPost_ret (v:=.agg #[F1 _,F1 _,F1 _]) (by simp [results,Tryz.results263,go_sem,hk1,hk2];first | done | exact ⟨rfl,rfl,rfl⟩ | exact rfl) rfl ⟨_,_,_,rfl,by first | rfl | assumption | (simp only [setX,setY,setZ,pickF,n20,n21,n10,n01,if_true,if_false, *];done),by first | rfl | assumption | (simp only [setX,setY,setZ,pickF,n20,n21,n10,n01,if_true,if_false, *];done),by first | rfl | assumption | (simp only [setX,setY,setZ,pickF,n20,n21,n10,n01,if_true,if_false, *];done),(W6b.setCell (by exact Nat.le_succ _) _).setCell (by exact Nat.le_succ _) _ |>.setCell (by exact Nat.le_succ _) _⟩

set_option maxRecDepth 100000 in
set_option maxHeartbeats 2000000 in
theorem s_point_mirror1 {b o x y z:Nat} {w:World} (hkept:Kept [(⟨b,o,none⟩,.int .i64 13),(⟨b,o + 2,none⟩,.int .i64 1)] [] w) :
  Calls Tryz.prog 263 #[.pointer (some ⟨b,o,none⟩),V3 x y z] w (RetV (cn .f32 x) (sizeS (cn .f32 y)) (cn .f32 z) w):=by
 have hK:=hkept
 simp only [Kept,ka,kb,kc,kd,ke,kfa,kga] at hK
 have hb:b < w.heap.size:=some_lt (a:=⟨b,o,none⟩) (by rw [hK.1];rfl)
 have hb1:b < w.heap.size + 1:=by omega
 go_enter Tryz.func263,Tryz.ntmps263
 go_upto_region 11 with (fail)
 have Wb:Below w.heap.size w ((w.alloc (.cells #[F1 x,F1 y,F1 z] 38)).alloc (.cells #[F1 0,F1 0,F1 0] 38)):=(by repeat' (first | exact Below.refl _ _ | exact Nat.le_refl _ | refine below_drewN ?_ _ | refine Below.alloc ?_ (by simp <;> omega) _ | refine Below.setCell ?_ (by simp <;> omega) _ | refine below_step ?_ (by assumption)))

 have hkept:=kept_app (keep hkept Wb) (show Kept [(⟨w.heap.size,0,none⟩,F1 x),(⟨w.heap.size,1,none⟩,F1 y),(⟨w.heap.size,2,none⟩,F1 z),(⟨w.heap.size + 1,0,none⟩,F1 0),(⟨w.heap.size + 1,1,none⟩,F1 0),(⟨w.heap.size + 1,2,none⟩,F1 0)] [⟨w.heap.size + 1,0,none⟩,⟨w.heap.size + 1,1,none⟩,⟨w.heap.size + 1,2,none⟩] ((w.alloc (.cells #[F1 x,F1 y,F1 z] 38)).alloc (.cells #[F1 0,F1 0,F1 0] 38)) by
  simp only [Kept,ka,kb,kc,kd,ke,kfa,kga];simp)
 generalize (w.alloc (.cells #[F1 x,F1 y,F1 z] 38)).alloc (.cells #[F1 0,F1 0,F1 0] 38) = W1 at Wb hkept ⊢
 refine Qr.wp_below 13 (by kernel_rfl) (by kernel_rfl) PhiP ?_
 repeat (first | (refine Qr.walk_plain rfl fun K hK => ?_;refine one_bin _ _ _ _ _ rfl _ _ _ rfl rfl rfl (fun r hr => ?_);go_simp;refine hK _ ?_;clear hK K) | (refine Qr.walk_plain rfl fun K hK => ?_;apply Qr.one_det;(focus (intro w' hw';have HK:=keep hkept hw';simp only [Kept,ka,kb,kc,kd,ke,kfa,kga] at HK;go_simp;first | done | rfl));go_simp;refine hK _ ?_;clear hK K) | (refine Qr.walk_plain rfl fun K hK => ?_;apply Qr.one_call;(focus (intro w' hw';go_simp;first | done | exact ⟨rfl,rfl⟩));(focus (intro w' hw'; go_at_call 167;refine (s_less_any _ _ _ _ _ _ _).mono ?_;rintro _ w2 ⟨x1,y1,z1,rfl,hx1,hy1,hz1,hb1⟩ ;exact ⟨_,rfl,by constructor <;> assumption,below_step hw' (by assumption),by assumption⟩));intro v hv;cases hv;go_simp;refine hK _ ?_;clear hK K) | (refine Qr.walk_plain rfl fun K hK => ?_;apply Qr.one_call;(focus (intro w' hw';go_simp;first | done | exact ⟨rfl,rfl⟩));(focus (intro w' hw'; go_at_call 142;refine (s_pick_any _ _ _ _ _).mono ?_;rintro _ w2 ⟨rfl,hb1⟩ ;exact ⟨_,rfl,by constructor <;> assumption,below_step hw' (by assumption),by assumption⟩));intro v hv;cases hv;go_simp;refine hK _ ?_;clear hK K) | (refine Qr.walk_plain rfl fun K hK => ?_;apply Qr.one_call;(focus (intro w' hw';go_simp;first | done | exact ⟨rfl,rfl⟩));(focus (intro w' hw'; go_at_call 143;refine (s_set_any _ _ _ _ _ _).mono ?_;rintro _ w2 ⟨rfl,hb1⟩ ;exact ⟨_,rfl,by constructor <;> assumption,below_step hw' (by assumption),by assumption⟩));intro v hv;cases hv;go_simp;refine hK _ ?_;clear hK K) | (refine Qr.walk_plain rfl fun K hK => ?_;apply Qr.one_call;(focus (intro w' hw';go_simp;first | done | exact ⟨rfl,rfl⟩));(focus (intro w' hw'; go_at_call 88;refine (s_size_any _ _).mono ?_;rintro _ w2 ⟨r1,rfl,hr1,hb1⟩ ;exact ⟨_,rfl,by constructor <;> assumption,below_step hw' (by assumption),by assumption⟩));intro v hv;cases hv;go_simp;refine hK _ ?_;clear hK K) | (refine Qr.walk_plain rfl fun K hK => ?_;apply Qr.one_call;(focus (intro w' hw';go_simp;first | done | exact ⟨rfl,rfl⟩));(focus (intro w' hw'; go_at_call 276;refine (s_folded_any _ _ _).mono ?_;rintro _ w2 ⟨r1,rfl,hr1,hb1⟩ ;exact ⟨_,rfl,by constructor <;> assumption,below_step hw' (by assumption),by assumption⟩));intro v hv;cases hv;go_simp;refine hK _ ?_;clear hK K))
 refine Qr.walk_nil fun w6 hw6 => ?_
 have hkept:=keep hkept hw6
 have W6b:=below_step Wb hw6
 clear hK
 have hK:=hkept
 simp only [Kept,ka,kb,kc,kd,ke,kfa,kga] at hK
 go_wp2_with fail
 obtain ⟨hk1,hk2⟩:=hK
 exact bodyPost_ret (v:=.agg #[F1 _,F1 _,F1 _]) (by simp [results,Tryz.results263,go_sem,hk1,hk2];first | done | exact ⟨rfl,rfl,rfl⟩ | exact rfl) rfl ⟨_,_,_,rfl,by first | rfl | assumption | (simp only [setX,setY,setZ,pickF,n20,n21,n10,n01,if_true,if_false, *];done),by first | rfl | assumption | (simp only [setX,setY,setZ,pickF,n20,n21,n10,n01,if_true,if_false, *];done),by first | rfl | assumption | (simp only [setX,setY,setZ,pickF,n20,n21,n10,n01,if_true,if_false, *];done),(W6b.setCell (by exact Nat.le_succ _) _).setCell (by exact Nat.le_succ _) _ |>.setCell (by exact Nat.le_succ _) _⟩

set_option maxRecDepth 100000 in
set_option maxHeartbeats 2000000 in
theorem s_point_mirror2 {b o x y z:Nat} {w:World} (hkept:Kept [(⟨b,o,none⟩,.int .i64 13),(⟨b,o + 2,none⟩,.int .i64 2)] [] w) :
  Calls Tryz.prog 263 #[.pointer (some ⟨b,o,none⟩),V3 x y z] w (RetV (cn .f32 x) (cn .f32 y) (sizeS (cn .f32 z)) w):=by
 have hK:=hkept
 simp only [Kept,ka,kb,kc,kd,ke,kfa,kga] at hK
 have hb:b < w.heap.size:=some_lt (a:=⟨b,o,none⟩) (by rw [hK.1];rfl)
 have hb1:b < w.heap.size + 1:=by omega
 go_enter Tryz.func263,Tryz.ntmps263
 go_upto_region 11 with (fail)
 have Wb:Below w.heap.size w ((w.alloc (.cells #[F1 x,F1 y,F1 z] 38)).alloc (.cells #[F1 0,F1 0,F1 0] 38)):=(by repeat' (first | exact Below.refl _ _ | exact Nat.le_refl _ | refine below_drewN ?_ _ | refine Below.alloc ?_ (by simp <;> omega) _ | refine Below.setCell ?_ (by simp <;> omega) _ | refine below_step ?_ (by assumption)))

 have hkept:=kept_app (keep hkept Wb) (show Kept [(⟨w.heap.size,0,none⟩,F1 x),(⟨w.heap.size,1,none⟩,F1 y),(⟨w.heap.size,2,none⟩,F1 z),(⟨w.heap.size + 1,0,none⟩,F1 0),(⟨w.heap.size + 1,1,none⟩,F1 0),(⟨w.heap.size + 1,2,none⟩,F1 0)] [⟨w.heap.size + 1,0,none⟩,⟨w.heap.size + 1,1,none⟩,⟨w.heap.size + 1,2,none⟩] ((w.alloc (.cells #[F1 x,F1 y,F1 z] 38)).alloc (.cells #[F1 0,F1 0,F1 0] 38)) by
  simp only [Kept,ka,kb,kc,kd,ke,kfa,kga];simp)
 generalize (w.alloc (.cells #[F1 x,F1 y,F1 z] 38)).alloc (.cells #[F1 0,F1 0,F1 0] 38) = W1 at Wb hkept ⊢
 refine Qr.wp_below 13 (by kernel_rfl) (by kernel_rfl) PhiP ?_
 repeat (first | (refine Qr.walk_plain rfl fun K hK => ?_;refine one_bin _ _ _ _ _ rfl _ _ _ rfl rfl rfl (fun r hr => ?_);go_simp;refine hK _ ?_;clear hK K) | (refine Qr.walk_plain rfl fun K hK => ?_;apply Qr.one_det;(focus (intro w' hw';have HK:=keep hkept hw';simp only [Kept,ka,kb,kc,kd,ke,kfa,kga] at HK;go_simp;first | done | rfl));go_simp;refine hK _ ?_;clear hK K) | (refine Qr.walk_plain rfl fun K hK => ?_;apply Qr.one_call;(focus (intro w' hw';go_simp;first | done | exact ⟨rfl,rfl⟩));(focus (intro w' hw'; go_at_call 167;refine (s_less_any _ _ _ _ _ _ _).mono ?_;rintro _ w2 ⟨x1,y1,z1,rfl,hx1,hy1,hz1,hb1⟩ ;exact ⟨_,rfl,by constructor <;> assumption,below_step hw' (by assumption),by assumption⟩));intro v hv;cases hv;go_simp;refine hK _ ?_;clear hK K) | (refine Qr.walk_plain rfl fun K hK => ?_;apply Qr.one_call;(focus (intro w' hw';go_simp;first | done | exact ⟨rfl,rfl⟩));(focus (intro w' hw'; go_at_call 142;refine (s_pick_any _ _ _ _ _).mono ?_;rintro _ w2 ⟨rfl,hb1⟩ ;exact ⟨_,rfl,by constructor <;> assumption,below_step hw' (by assumption),by assumption⟩));intro v hv;cases hv;go_simp;refine hK _ ?_;clear hK K) | (refine Qr.walk_plain rfl fun K hK => ?_;apply Qr.one_call;(focus (intro w' hw';go_simp;first | done | exact ⟨rfl,rfl⟩));(focus (intro w' hw'; go_at_call 143;refine (s_set_any _ _ _ _ _ _).mono ?_;rintro _ w2 ⟨rfl,hb1⟩ ;exact ⟨_,rfl,by constructor <;> assumption,below_step hw' (by assumption),by assumption⟩));intro v hv;cases hv;go_simp;refine hK _ ?_;clear hK K) | (refine Qr.walk_plain rfl fun K hK => ?_;apply Qr.one_call;(focus (intro w' hw';go_simp;first | done | exact ⟨rfl,rfl⟩));(focus (intro w' hw'; go_at_call 88;refine (s_size_any _ _).mono ?_;rintro _ w2 ⟨r1,rfl,hr1,hb1⟩ ;exact ⟨_,rfl,by constructor <;> assumption,below_step hw' (by assumption),by assumption⟩));intro v hv;cases hv;go_simp;refine hK _ ?_;clear hK K) | (refine Qr.walk_plain rfl fun K hK => ?_;apply Qr.one_call;(focus (intro w' hw';go_simp;first | done | exact ⟨rfl,rfl⟩));(focus (intro w' hw'; go_at_call 276;refine (s_folded_any _ _ _).mono ?_;rintro _ w2 ⟨r1,rfl,hr1,hb1⟩ ;exact ⟨_,rfl,by constructor <;> assumption,below_step hw' (by assumption),by assumption⟩));intro v hv;cases hv;go_simp;refine hK _ ?_;clear hK K))
 refine Qr.walk_nil fun w6 hw6 => ?_
 have hkept:=keep hkept hw6
 have W6b:=below_step Wb hw6
 clear hK
 have hK:=hkept
 simp only [Kept,ka,kb,kc,kd,ke,kfa,kga] at hK
 go_wp2_with fail
 obtain ⟨hk1,hk2⟩:=hK
 exact bodyPost_ret (v:=.agg #[F1 _,F1 _,F1 _]) (by simp [results,Tryz.results263,go_sem,hk1,hk2];first | done | exact ⟨rfl,rfl,rfl⟩ | exact rfl) rfl ⟨_,_,_,rfl,by first | rfl | assumption | (simp only [setX,setY,setZ,pickF,n20,n21,n10,n01,if_true,if_false, *];done),by first | rfl | assumption | (simp only [setX,setY,setZ,pickF,n20,n21,n10,n01,if_true,if_false, *];done),by first | rfl | assumption | (simp only [setX,setY,setZ,pickF,n20,n21,n10,n01,if_true,if_false, *];done),(W6b.setCell (by exact Nat.le_succ _) _).setCell (by exact Nat.le_succ _) _ |>.setCell (by exact Nat.le_succ _) _⟩

set_option maxRecDepth 100000 in
set_option maxHeartbeats 2000000 in
theorem s_point_fold0 {b o bv ov r0 cap x y z:Nat} {w:World} (hkept:Kept [(⟨b,o,none⟩,.int .i64 14),(⟨b,o + 2,none⟩,.int .i64 0),(⟨b,o + 3,none⟩,.slice (some ⟨bv,ov,none⟩) 1 cap),(⟨bv,ov,none⟩,F1 r0)] [] w) :
  Calls Tryz.prog 263 #[.pointer (some ⟨b,o,none⟩),V3 x y z] w (RetV (foldedS (cn .f32 x) (cn .f32 r0)) (cn .f32 y) (cn .f32 z) w):=by
 have hK:=hkept
 simp only [Kept,ka,kb,kc,kd,ke,kfa,kga] at hK
 have hb:b < w.heap.size:=some_lt (a:=⟨b,o,none⟩) (by rw [hK.1];rfl)
 have hb1:b < w.heap.size + 1:=by omega
 go_enter Tryz.func263,Tryz.ntmps263
 go_upto_region 13 with (fail)
 have Wb:Below w.heap.size w ((w.alloc (.cells #[F1 x,F1 y,F1 z] 38)).alloc (.cells #[F1 0,F1 0,F1 0] 38)):=(by repeat' (first | exact Below.refl _ _ | exact Nat.le_refl _ | refine below_drewN ?_ _ | refine Below.alloc ?_ (by simp <;> omega) _ | refine Below.setCell ?_ (by simp <;> omega) _ | refine below_step ?_ (by assumption)))

 have hkept:=kept_app (keep hkept Wb) (show Kept [(⟨w.heap.size,0,none⟩,F1 x),(⟨w.heap.size,1,none⟩,F1 y),(⟨w.heap.size,2,none⟩,F1 z),(⟨w.heap.size + 1,0,none⟩,F1 0),(⟨w.heap.size + 1,1,none⟩,F1 0),(⟨w.heap.size + 1,2,none⟩,F1 0)] [⟨w.heap.size + 1,0,none⟩,⟨w.heap.size + 1,1,none⟩,⟨w.heap.size + 1,2,none⟩] ((w.alloc (.cells #[F1 x,F1 y,F1 z] 38)).alloc (.cells #[F1 0,F1 0,F1 0] 38)) by
  simp only [Kept,ka,kb,kc,kd,ke,kfa,kga];simp)
 generalize (w.alloc (.cells #[F1 x,F1 y,F1 z] 38)).alloc (.cells #[F1 0,F1 0,F1 0] 38) = W1 at Wb hkept ⊢
 refine Qr.wp_below 19 (by kernel_rfl) (by kernel_rfl) PhiP ?_
 repeat (first | (refine Qr.walk_plain rfl fun K hK => ?_;refine one_bin _ _ _ _ _ rfl _ _ _ rfl rfl rfl (fun r hr => ?_);go_simp;refine hK _ ?_;clear hK K) | (refine Qr.walk_plain rfl fun K hK => ?_;apply Qr.one_det;(focus (intro w' hw';have HK:=keep hkept hw';simp only [Kept,ka,kb,kc,kd,ke,kfa,kga] at HK;go_simp;first | done | rfl));go_simp;refine hK _ ?_;clear hK K) | (refine Qr.walk_plain rfl fun K hK => ?_;apply Qr.one_call;(focus (intro w' hw';go_simp;first | done | exact ⟨rfl,rfl⟩));(focus (intro w' hw'; go_at_call 167;refine (s_less_any _ _ _ _ _ _ _).mono ?_;rintro _ w2 ⟨x1,y1,z1,rfl,hx1,hy1,hz1,hb1⟩ ;exact ⟨_,rfl,by constructor <;> assumption,below_step hw' (by assumption),by assumption⟩));intro v hv;cases hv;go_simp;refine hK _ ?_;clear hK K) | (refine Qr.walk_plain rfl fun K hK => ?_;apply Qr.one_call;(focus (intro w' hw';go_simp;first | done | exact ⟨rfl,rfl⟩));(focus (intro w' hw'; go_at_call 142;refine (s_pick_any _ _ _ _ _).mono ?_;rintro _ w2 ⟨rfl,hb1⟩ ;exact ⟨_,rfl,by constructor <;> assumption,below_step hw' (by assumption),by assumption⟩));intro v hv;cases hv;go_simp;refine hK _ ?_;clear hK K) | (refine Qr.walk_plain rfl fun K hK => ?_;apply Qr.one_call;(focus (intro w' hw';go_simp;first | done | exact ⟨rfl,rfl⟩));(focus (intro w' hw'; go_at_call 143;refine (s_set_any _ _ _ _ _ _).mono ?_;rintro _ w2 ⟨rfl,hb1⟩ ;exact ⟨_,rfl,by constructor <;> assumption,below_step hw' (by assumption),by assumption⟩));intro v hv;cases hv;go_simp;refine hK _ ?_;clear hK K) | (refine Qr.walk_plain rfl fun K hK => ?_;apply Qr.one_call;(focus (intro w' hw';go_simp;first | done | exact ⟨rfl,rfl⟩));(focus (intro w' hw'; go_at_call 88;refine (s_size_any _ _).mono ?_;rintro _ w2 ⟨r1,rfl,hr1,hb1⟩ ;exact ⟨_,rfl,by constructor <;> assumption,below_step hw' (by assumption),by assumption⟩));intro v hv;cases hv;go_simp;refine hK _ ?_;clear hK K) | (refine Qr.walk_plain rfl fun K hK => ?_;apply Qr.one_call;(focus (intro w' hw';go_simp;first | done | exact ⟨rfl,rfl⟩));(focus (intro w' hw'; go_at_call 276;refine (s_folded_any _ _ _).mono ?_;rintro _ w2 ⟨r1,rfl,hr1,hb1⟩ ;exact ⟨_,rfl,by constructor <;> assumption,below_step hw' (by assumption),by assumption⟩));intro v hv;cases hv;go_simp;refine hK _ ?_;clear hK K))
 refine Qr.walk_nil fun w6 hw6 => ?_
 have hkept:=keep hkept hw6
 have W6b:=below_step Wb hw6
 clear hK
 have hK:=hkept
 simp only [Kept,ka,kb,kc,kd,ke,kfa,kga] at hK
 go_wp2_with fail
 obtain ⟨hk1,hk2⟩:=hK
 exact bodyPost_ret (v:=.agg #[F1 _,F1 _,F1 _]) (by simp [results,Tryz.results263,go_sem,hk1,hk2];first | done | exact ⟨rfl,rfl,rfl⟩ | exact rfl) rfl ⟨_,_,_,rfl,by first | rfl | assumption | (simp only [setX,setY,setZ,pickF,n20,n21,n10,n01,if_true,if_false, *];done),by first | rfl | assumption | (simp only [setX,setY,setZ,pickF,n20,n21,n10,n01,if_true,if_false, *];done),by first | rfl | assumption | (simp only [setX,setY,setZ,pickF,n20,n21,n10,n01,if_true,if_false, *];done),(W6b.setCell (by exact Nat.le_succ _) _).setCell (by exact Nat.le_succ _) _ |>.setCell (by exact Nat.le_succ _) _⟩

set_option maxRecDepth 100000 in
set_option maxHeartbeats 2000000 in
theorem s_point_fold1 {b o bv ov r0 cap x y z:Nat} {w:World} (hkept:Kept [(⟨b,o,none⟩,.int .i64 14),(⟨b,o + 2,none⟩,.int .i64 1),(⟨b,o + 3,none⟩,.slice (some ⟨bv,ov,none⟩) 1 cap),(⟨bv,ov,none⟩,F1 r0)] [] w) :
  Calls Tryz.prog 263 #[.pointer (some ⟨b,o,none⟩),V3 x y z] w (RetV (cn .f32 x) (foldedS (cn .f32 y) (cn .f32 r0)) (cn .f32 z) w):=by
 have hK:=hkept
 simp only [Kept,ka,kb,kc,kd,ke,kfa,kga] at hK
 have hb:b < w.heap.size:=some_lt (a:=⟨b,o,none⟩) (by rw [hK.1];rfl)
 have hb1:b < w.heap.size + 1:=by omega
 go_enter Tryz.func263,Tryz.ntmps263
 go_upto_region 13 with (fail)
 have Wb:Below w.heap.size w ((w.alloc (.cells #[F1 x,F1 y,F1 z] 38)).alloc (.cells #[F1 0,F1 0,F1 0] 38)):=(by repeat' (first | exact Below.refl _ _ | exact Nat.le_refl _ | refine below_drewN ?_ _ | refine Below.alloc ?_ (by simp <;> omega) _ | refine Below.setCell ?_ (by simp <;> omega) _ | refine below_step ?_ (by assumption)))

 have hkept:=kept_app (keep hkept Wb) (show Kept [(⟨w.heap.size,0,none⟩,F1 x),(⟨w.heap.size,1,none⟩,F1 y),(⟨w.heap.size,2,none⟩,F1 z),(⟨w.heap.size + 1,0,none⟩,F1 0),(⟨w.heap.size + 1,1,none⟩,F1 0),(⟨w.heap.size + 1,2,none⟩,F1 0)] [⟨w.heap.size + 1,0,none⟩,⟨w.heap.size + 1,1,none⟩,⟨w.heap.size + 1,2,none⟩] ((w.alloc (.cells #[F1 x,F1 y,F1 z] 38)).alloc (.cells #[F1 0,F1 0,F1 0] 38)) by
  simp only [Kept,ka,kb,kc,kd,ke,kfa,kga];simp)
 generalize (w.alloc (.cells #[F1 x,F1 y,F1 z] 38)).alloc (.cells #[F1 0,F1 0,F1 0] 38) = W1 at Wb hkept ⊢
 refine Qr.wp_below 19 (by kernel_rfl) (by kernel_rfl) PhiP ?_
 repeat (first | (refine Qr.walk_plain rfl fun K hK => ?_;refine one_bin _ _ _ _ _ rfl _ _ _ rfl rfl rfl (fun r hr => ?_);go_simp;refine hK _ ?_;clear hK K) | (refine Qr.walk_plain rfl fun K hK => ?_;apply Qr.one_det;(focus (intro w' hw';have HK:=keep hkept hw';simp only [Kept,ka,kb,kc,kd,ke,kfa,kga] at HK;go_simp;first | done | rfl));go_simp;refine hK _ ?_;clear hK K) | (refine Qr.walk_plain rfl fun K hK => ?_;apply Qr.one_call;(focus (intro w' hw';go_simp;first | done | exact ⟨rfl,rfl⟩));(focus (intro w' hw'; go_at_call 167;refine (s_less_any _ _ _ _ _ _ _).mono ?_;rintro _ w2 ⟨x1,y1,z1,rfl,hx1,hy1,hz1,hb1⟩ ;exact ⟨_,rfl,by constructor <;> assumption,below_step hw' (by assumption),by assumption⟩));intro v hv;cases hv;go_simp;refine hK _ ?_;clear hK K) | (refine Qr.walk_plain rfl fun K hK => ?_;apply Qr.one_call;(focus (intro w' hw';go_simp;first | done | exact ⟨rfl,rfl⟩));(focus (intro w' hw'; go_at_call 142;refine (s_pick_any _ _ _ _ _).mono ?_;rintro _ w2 ⟨rfl,hb1⟩ ;exact ⟨_,rfl,by constructor <;> assumption,below_step hw' (by assumption),by assumption⟩));intro v hv;cases hv;go_simp;refine hK _ ?_;clear hK K) | (refine Qr.walk_plain rfl fun K hK => ?_;apply Qr.one_call;(focus (intro w' hw';go_simp;first | done | exact ⟨rfl,rfl⟩));(focus (intro w' hw'; go_at_call 143;refine (s_set_any _ _ _ _ _ _).mono ?_;rintro _ w2 ⟨rfl,hb1⟩ ;exact ⟨_,rfl,by constructor <;> assumption,below_step hw' (by assumption),by assumption⟩));intro v hv;cases hv;go_simp;refine hK _ ?_;clear hK K) | (refine Qr.walk_plain rfl fun K hK => ?_;apply Qr.one_call;(focus (intro w' hw';go_simp;first | done | exact ⟨rfl,rfl⟩));(focus (intro w' hw'; go_at_call 88;refine (s_size_any _ _).mono ?_;rintro _ w2 ⟨r1,rfl,hr1,hb1⟩ ;exact ⟨_,rfl,by constructor <;> assumption,below_step hw' (by assumption),by assumption⟩));intro v hv;cases hv;go_simp;refine hK _ ?_;clear hK K) | (refine Qr.walk_plain rfl fun K hK => ?_;apply Qr.one_call;(focus (intro w' hw';go_simp;first | done | exact ⟨rfl,rfl⟩));(focus (intro w' hw'; go_at_call 276;refine (s_folded_any _ _ _).mono ?_;rintro _ w2 ⟨r1,rfl,hr1,hb1⟩ ;exact ⟨_,rfl,by constructor <;> assumption,below_step hw' (by assumption),by assumption⟩));intro v hv;cases hv;go_simp;refine hK _ ?_;clear hK K))
 refine Qr.walk_nil fun w6 hw6 => ?_
 have hkept:=keep hkept hw6
 have W6b:=below_step Wb hw6
 clear hK
 have hK:=hkept
 simp only [Kept,ka,kb,kc,kd,ke,kfa,kga] at hK
 go_wp2_with fail
 obtain ⟨hk1,hk2⟩:=hK
 exact bodyPost_ret (v:=.agg #[F1 _,F1 _,F1 _]) (by simp [results,Tryz.results263,go_sem,hk1,hk2];first | done | exact ⟨rfl,rfl,rfl⟩ | exact rfl) rfl ⟨_,_,_,rfl,by first | rfl | assumption | (simp only [setX,setY,setZ,pickF,n20,n21,n10,n01,if_true,if_false, *];done),by first | rfl | assumption | (simp only [setX,setY,setZ,pickF,n20,n21,n10,n01,if_true,if_false, *];done),by first | rfl | assumption | (simp only [setX,setY,setZ,pickF,n20,n21,n10,n01,if_true,if_false, *];done),(W6b.setCell (by exact Nat.le_succ _) _).setCell (by exact Nat.le_succ _) _ |>.setCell (by exact Nat.le_succ _) _⟩

set_option maxRecDepth 100000 in
set_option maxHeartbeats 2000000 in
theorem s_point_fold2 {b o bv ov r0 cap x y z:Nat} {w:World} (hkept:Kept [(⟨b,o,none⟩,.int .i64 14),(⟨b,o + 2,none⟩,.int .i64 2),(⟨b,o + 3,none⟩,.slice (some ⟨bv,ov,none⟩) 1 cap),(⟨bv,ov,none⟩,F1 r0)] [] w) :
  Calls Tryz.prog 263 #[.pointer (some ⟨b,o,none⟩),V3 x y z] w (RetV (cn .f32 x) (cn .f32 y) (foldedS (cn .f32 z) (cn .f32 r0)) w):=by
 have hK:=hkept
 simp only [Kept,ka,kb,kc,kd,ke,kfa,kga] at hK
 have hb:b < w.heap.size:=some_lt (a:=⟨b,o,none⟩) (by rw [hK.1];rfl)
 have hb1:b < w.heap.size + 1:=by omega
 go_enter Tryz.func263,Tryz.ntmps263
 go_upto_region 13 with (fail)
 have Wb:Below w.heap.size w ((w.alloc (.cells #[F1 x,F1 y,F1 z] 38)).alloc (.cells #[F1 0,F1 0,F1 0] 38)):=(by repeat' (first | exact Below.refl _ _ | exact Nat.le_refl _ | refine below_drewN ?_ _ | refine Below.alloc ?_ (by simp <;> omega) _ | refine Below.setCell ?_ (by simp <;> omega) _ | refine below_step ?_ (by assumption)))

 have hkept:=kept_app (keep hkept Wb) (show Kept [(⟨w.heap.size,0,none⟩,F1 x),(⟨w.heap.size,1,none⟩,F1 y),(⟨w.heap.size,2,none⟩,F1 z),(⟨w.heap.size + 1,0,none⟩,F1 0),(⟨w.heap.size + 1,1,none⟩,F1 0),(⟨w.heap.size + 1,2,none⟩,F1 0)] [⟨w.heap.size + 1,0,none⟩,⟨w.heap.size + 1,1,none⟩,⟨w.heap.size + 1,2,none⟩] ((w.alloc (.cells #[F1 x,F1 y,F1 z] 38)).alloc (.cells #[F1 0,F1 0,F1 0] 38)) by
  simp only [Kept,ka,kb,kc,kd,ke,kfa,kga];simp)
 generalize (w.alloc (.cells #[F1 x,F1 y,F1 z] 38)).alloc (.cells #[F1 0,F1 0,F1 0] 38) = W1 at Wb hkept ⊢
 refine Qr.wp_below 19 (by kernel_rfl) (by kernel_rfl) PhiP ?_
 repeat (first | (refine Qr.walk_plain rfl fun K hK => ?_;refine one_bin _ _ _ _ _ rfl _ _ _ rfl rfl rfl (fun r hr => ?_);go_simp;refine hK _ ?_;clear hK K) | (refine Qr.walk_plain rfl fun K hK => ?_;apply Qr.one_det;(focus (intro w' hw';have HK:=keep hkept hw';simp only [Kept,ka,kb,kc,kd,ke,kfa,kga] at HK;go_simp;first | done | rfl));go_simp;refine hK _ ?_;clear hK K) | (refine Qr.walk_plain rfl fun K hK => ?_;apply Qr.one_call;(focus (intro w' hw';go_simp;first | done | exact ⟨rfl,rfl⟩));(focus (intro w' hw'; go_at_call 167;refine (s_less_any _ _ _ _ _ _ _).mono ?_;rintro _ w2 ⟨x1,y1,z1,rfl,hx1,hy1,hz1,hb1⟩ ;exact ⟨_,rfl,by constructor <;> assumption,below_step hw' (by assumption),by assumption⟩));intro v hv;cases hv;go_simp;refine hK _ ?_;clear hK K) | (refine Qr.walk_plain rfl fun K hK => ?_;apply Qr.one_call;(focus (intro w' hw';go_simp;first | done | exact ⟨rfl,rfl⟩));(focus (intro w' hw'; go_at_call 142;refine (s_pick_any _ _ _ _ _).mono ?_;rintro _ w2 ⟨rfl,hb1⟩ ;exact ⟨_,rfl,by constructor <;> assumption,below_step hw' (by assumption),by assumption⟩));intro v hv;cases hv;go_simp;refine hK _ ?_;clear hK K) | (refine Qr.walk_plain rfl fun K hK => ?_;apply Qr.one_call;(focus (intro w' hw';go_simp;first | done | exact ⟨rfl,rfl⟩));(focus (intro w' hw'; go_at_call 143;refine (s_set_any _ _ _ _ _ _).mono ?_;rintro _ w2 ⟨rfl,hb1⟩ ;exact ⟨_,rfl,by constructor <;> assumption,below_step hw' (by assumption),by assumption⟩));intro v hv;cases hv;go_simp;refine hK _ ?_;clear hK K) | (refine Qr.walk_plain rfl fun K hK => ?_;apply Qr.one_call;(focus (intro w' hw';go_simp;first | done | exact ⟨rfl,rfl⟩));(focus (intro w' hw'; go_at_call 88;refine (s_size_any _ _).mono ?_;rintro _ w2 ⟨r1,rfl,hr1,hb1⟩ ;exact ⟨_,rfl,by constructor <;> assumption,below_step hw' (by assumption),by assumption⟩));intro v hv;cases hv;go_simp;refine hK _ ?_;clear hK K) | (refine Qr.walk_plain rfl fun K hK => ?_;apply Qr.one_call;(focus (intro w' hw';go_simp;first | done | exact ⟨rfl,rfl⟩));(focus (intro w' hw'; go_at_call 276;refine (s_folded_any _ _ _).mono ?_;rintro _ w2 ⟨r1,rfl,hr1,hb1⟩ ;exact ⟨_,rfl,by constructor <;> assumption,below_step hw' (by assumption),by assumption⟩));intro v hv;cases hv;go_simp;refine hK _ ?_;clear hK K))
 refine Qr.walk_nil fun w6 hw6 => ?_
 have hkept:=keep hkept hw6
 have W6b:=below_step Wb hw6
 clear hK
 have hK:=hkept
 simp only [Kept,ka,kb,kc,kd,ke,kfa,kga] at hK
 go_wp2_with fail
 obtain ⟨hk1,hk2⟩:=hK
 exact bodyPost_ret (v:=.agg #[F1 _,F1 _,F1 _]) (by simp [results,Tryz.results263,go_sem,hk1,hk2];first | done | exact ⟨rfl,rfl,rfl⟩ | exact rfl) rfl ⟨_,_,_,rfl,by first | rfl | assumption | (simp only [setX,setY,setZ,pickF,n20,n21,n10,n01,if_true,if_false, *];done),by first | rfl | assumption | (simp only [setX,setY,setZ,pickF,n20,n21,n10,n01,if_true,if_false, *];done),by first | rfl | assumption | (simp only [setX,setY,setZ,pickF,n20,n21,n10,n01,if_true,if_false, *];done),(W6b.setCell (by exact Nat.le_succ _) _).setCell (by exact Nat.le_succ _) _ |>.setCell (by exact Nat.le_succ _) _⟩

set_option maxRecDepth 100000 in
set_option maxHeartbeats 2000000 in
theorem s_point_same (k:Int) (hk:k = 5 ∨ k = 6 ∨ k = 7 ∨ k = 8 ∨ k = 15 ∨ k = 16) {b o x y z:Nat} {w:World} (hkept:Kept [(⟨b,o,none⟩,.int .i64 k)] [] w) :
  Calls Tryz.prog 263 #[.pointer (some ⟨b,o,none⟩),V3 x y z] w (RetV (cn .f32 x) (cn .f32 y) (cn .f32 z) w):=by
 rcases hk with h | h | h | h | h | h
 all_goals
  subst h
  have hK:=hkept
  simp only [Kept,ka,kb,kc,kd,ke,kfa,kga] at hK
  have hb:b < w.heap.size:=some_lt (a:=⟨b,o,none⟩) (by rw [hK];rfl)
  have hb1:b < w.heap.size + 1:=by omega
  go_enter Tryz.func263,Tryz.ntmps263
  go_wp2_with fail
  exact bodyPost_ret (v:=.agg #[F1 _,F1 _,F1 _]) (by simp [results,Tryz.results263,go_sem];first | done | exact ⟨rfl,rfl,rfl⟩ | exact rfl) rfl ⟨_,_,_,rfl,rfl,rfl,rfl,(by repeat' (first | exact Below.refl _ _ | exact Nat.le_refl _ | refine below_drewN ?_ _ | refine Below.alloc ?_ (by simp <;> omega) _ | refine Below.setCell ?_ (by simp <;> omega) _ | refine below_step ?_ (by assumption)))⟩
end Go.Proofs.YtbiacfkiakddiaaGreat
