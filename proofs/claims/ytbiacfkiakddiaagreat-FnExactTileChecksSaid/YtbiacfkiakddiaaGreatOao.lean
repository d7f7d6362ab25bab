/-
 Lemmas: S11.
-/
import Derived.Test.YtbiacfkiakddiaaGreatOam
set_option linter.unusedVariables false
set_option linter.unusedSimpArgs false
namespace Go.Proofs.YtbiacfkiakddiaaGreat
open Go.RowKit Go.Fl
inductive PhiP:FuncId → Array Value → Value → Prop
 | less (a b c d e f x y z:Nat) (h1:cn .f32 x = B .sub (cn .f32 a) (cn .f32 d)) (h2:cn .f32 y = B .sub (cn .f32 b) (cn .f32 e)) (h3:cn .f32 z = B .sub (cn .f32 c) (cn .f32 f)):PhiP 167 #[V3 a b c,V3 d e f] (V3 x y z)
 | turn0 (x y z t a b c:Nat) (h1:cn .f32 a = cn .f32 x) (h2:cn .f32 b = turn1 (cn .f32 t) (cn .f32 y) (cn .f32 z)) (h3:cn .f32 c = turn2 (cn .f32 t) (cn .f32 y) (cn .f32 z)):PhiP 275 #[V3 x y z,.int .i64 0,F1 t] (V3 a b c)
 | turn1 (x y z t a b c:Nat) (h1:cn .f32 a = turn2 (cn .f32 t) (cn .f32 z) (cn .f32 x)) (h2:cn .f32 b = cn .f32 y) (h3:cn .f32 c = turn1 (cn .f32 t) (cn .f32 z) (cn .f32 x)):PhiP 275 #[V3 x y z,.int .i64 1,F1 t] (V3 a b c)
 | turn2 (x y z t a b c:Nat) (h1:cn .f32 a = turn1 (cn .f32 t) (cn .f32 x) (cn .f32 y)) (h2:cn .f32 b = turn2 (cn .f32 t) (cn .f32 x) (cn .f32 y)) (h3:cn .f32 c = cn .f32 z):PhiP 275 #[V3 x y z,.int .i64 2,F1 t] (V3 a b c)
 | pick (x y z:Nat) (i:Int):PhiP 142 #[V3 x y z,.int .i64 i] (F1 (pickF x y z i))
 | set (x y z:Nat) (i:Int) (v:Nat):PhiP 143 #[V3 x y z,.int .i64 i,F1 v] (V3 (setX x i v) (setY y i v) (setZ z i v))
 | size (a r:Nat) (h:cn .f32 r = sizeS (cn .f32 a)):PhiP 88 #[F1 a] (F1 r)
 | folded (a b r:Nat) (h:cn .f32 r = foldedS (cn .f32 a) (cn .f32 b)):PhiP 276 #[F1 a,F1 b] (F1 r)


set_option maxRecDepth 100000 in
set_option maxHeartbeats 2000000 in
theorem s_point_move {b o bv ov r0 r1 r2 cap x y z:Nat} {w:World} (hkept:Kept [(⟨b,o,none⟩,.int .i64 9),(⟨b,o + 2,none⟩,.int .i64 0),(⟨b,o + 3,none⟩,.slice (some ⟨bv,ov,none⟩) 3 cap),(⟨bv,ov,none⟩,F1 r0),(⟨bv,ov + 1,none⟩,F1 r1),(⟨bv,ov + 2,none⟩,F1 r2)] [] w) :
  Calls Tryz.prog 263 #[.pointer (some ⟨b,o,none⟩),V3 x y z] w (RetV (B .sub (cn .f32 x) (cn .f32 r0)) (B .sub (cn .f32 y) (cn .f32 r1)) (B .sub (cn .f32 z) (cn .f32 r2)) w):=by
 have hK:=hkept
 simp only [Kept,ka,kb,kc,kd,ke,kfa,kga] at hK
 have hb:b < w.heap.size:=some_lt (a:=⟨b,o,none⟩) (by rw [hK.1];rfl)
 have hb1:b < w.heap.size + 1:=by omega
 go_enter Tryz.func263,Tryz.ntmps263
 go_upto_region 3 with (fail)
 have Wb:Below w.heap.size w ((w.alloc (.cells #[F1 x,F1 y,F1 z] 38)).alloc (.cells #[F1 0,F1 0,F1 0] 38)):=(by repeat' (first | exact Below.refl _ _ | exact Nat.le_refl _ | refine below_drewN ?_ _ | refine Below.alloc ?_ (by simp <;> omega) _ | refine Below.setCell ?_ (by simp <;> omega) _ | refine below_step ?_ (by assumption)))

 have hkept:=kept_app (keep hkept Wb) (show Kept [(⟨w.heap.size,0,none⟩,F1 x),(⟨w.heap.size,1,none⟩,F1 y),(⟨w.heap.size,2,none⟩,F1 z),(⟨w.heap.size + 1,0,none⟩,F1 0),(⟨w.heap.size + 1,1,none⟩,F1 0),(⟨w.heap.size + 1,2,none⟩,F1 0)] [⟨w.heap.size + 1,0,none⟩,⟨w.heap.size + 1,1,none⟩,⟨w.heap.size + 1,2,none⟩] ((w.alloc (.cells #[F1 x,F1 y,F1 z] 38)).alloc (.cells #[F1 0,F1 0,F1 0] 38)) by
  simp only [Kept,ka,kb,kc,kd,ke,kfa,kga];simp)
 generalize (w.alloc (.cells #[F1 x,F1 y,F1 z] 38)).alloc (.cells #[F1 0,F1 0,F1 0] 38) = W1 at Wb hkept ⊢
 refine Qr.wp_below 21 (by kernel_rfl) (by kernel_rfl) PhiP ?_
 repeat (first | (refine Qr.walk_plain rfl fun K hK => ?_;refine one_bin _ _ _ _ _ rfl _ _ _ rfl rfl rfl (fun r hr => ?_);go_simp;refine hK _ ?_;clear hK K) | (refine Qr.walk_plain rfl fun K hK => ?_;apply Qr.one_det;(focus (intro w' hw';have HK:=keep hkept hw';simp only [Kept,ka,kb,kc,kd,ke,kfa,kga] at HK;go_simp;first | done | rfl));go_simp;refine hK _ ?_;clear hK K) | (refine Qr.walk_plain rfl fun K hK => ?_;apply Qr.one_call;(focus (intro w' hw';go_simp;first | done | exact ⟨rfl,rfl⟩));(focus (intro w' hw'; go_at_call 167;refine (s_less_any _ _ _ _ _ _ _).mono ?_;rintro _ w2 ⟨x1,y1,z1,rfl,hx1,hy1,hz1,hb1⟩ ;exact ⟨_,rfl,by constructor <;> assumption,below_step hw' (by assumption),by assumption⟩));intro v hv;cases hv;go_simp;refine hK _ ?_;clear hK K) | (refine Qr.walk_plain rfl fun K hK => ?_;apply Qr.one_call;(focus (intro w' hw';go_simp;first | done | exact ⟨rfl,rfl⟩));(focus (intro w' hw'; go_at_call 142;refine (s_pick_any _ _ _ _ _).mono ?_;rintro _ w2 ⟨rfl,hb1⟩ ;exact ⟨_,rfl,by constructor <;> assumption,below_step hw' (by assumption),by assumption⟩));intro v hv;cases hv;go_simp;refine hK _ ?_;clear hK K) | (refine Qr.walk_plain rfl fun K hK => ?_;apply Qr.one_call;(focus (intro w' hw';go_simp;first | done | exact ⟨rfl,rfl⟩));(focus (intro w' hw'; go_at_call 143;refine (s_set_any _ _ _ _ _ _).mono ?_;rintro _ w2 ⟨rfl,hb1⟩ ;exact ⟨_,rfl,by constructor <;> assumption,below_step hw' (by assumption),by assumption⟩));intro v hv;cases hv;go_simp;refine hK _ ?_;clear hK K) | (refine Qr.walk_plain rfl fun K hK => ?_;apply Qr.one_call;(focus (intro w' hw';go_simp;first | done | exact ⟨rfl,rfl⟩));(focus (intro w' hw'; go_at_call 88;refine (s_size_any _ _).mono ?_;rintro _ w2 ⟨r1,rfl,hr1,hb1⟩ ;exact ⟨_,rfl,by constructor <;> assumption,below_step hw' (by assumption),by assumption⟩));intro v hv;cases hv;go_simp;refine hK _ ?_;clear hK K) | (refine Qr.walk_plain rfl fun K hK => ?_;apply Qr.one_call;(focus (intro w' hw';go_simp;first | done | exact ⟨rfl,rfl⟩));(focus (intro w' hw'; go_at_call 276;refine (s_folded_any _ _ _).mono ?_;rintro _ w2 ⟨r1,rfl,hr1,hb1⟩ ;exact ⟨_,rfl,by constructor <;> assumption,below_step hw' (by assumption),by assumption⟩));intro v hv;cases hv;go_simp;refine hK _ ?_;clear hK K))
 refine Qr.walk_nil fun w6 hw6 => ?_
 have hkept:=keep hkept hw6
 have W6b:=below_step Wb hw6
 clear hK
 have hK:=hkept
 simp only [Kept,ka,kb,kc,kd,ke,kfa,kga] at hK
 go_wp2_with fail
 obtain ⟨hk1,hk2⟩:=hK
 exact bodyPost_ret (v:=.agg #[F1 _,F1 _,F1 _]) (by simp [results,Tryz.results263,go_sem,hk1,hk2];first | done | exact ⟨rfl,rfl,rfl⟩ | exact rfl) rfl ⟨_,_,_,rfl,by first | rfl | assumption | (simp only [setX,setY,setZ,pickF,n20,n21,n10,n01,if_true,if_false, *];done),by first | rfl | assumption | (simp only [setX,setY,setZ,pickF,n20,n21,n10,n01,if_true,if_false, *];done),by first | rfl | assumption | (simp only [setX,setY,setZ,pickF,n20,n21,n10,n01,if_true,if_false, *];done),(W6b.setCell (by exact Nat.le_succ _) _).setCell (by exact Nat.le_succ _) _ |>.setCell (by exact Nat.le_succ _) _⟩

set_option maxRecDepth 100000 in
set_option maxHeartbeats 2000000 in
theorem s_point_scale {b o bv ov r0 cap x y z:Nat} {w:World} (hkept:Kept [(⟨b,o,none⟩,.int .i64 10),(⟨b,o + 2,none⟩,.int .i64 0),(⟨b,o + 3,none⟩,.slice (some ⟨bv,ov,none⟩) 1 cap),(⟨bv,ov,none⟩,F1 r0)] [] w) :
  Calls Tryz.prog 263 #[.pointer (some ⟨b,o,none⟩),V3 x y z] w (RetV (B .quo (cn .f32 x) (cn .f32 r0)) (B .quo (cn .f32 y) (cn .f32 r0)) (B .quo (cn .f32 z) (cn .f32 r0)) w):=by
 have hK:=hkept
 simp only [Kept,ka,kb,kc,kd,ke,kfa,kga] at hK
 have hb:b < w.heap.size:=some_lt (a:=⟨b,o,none⟩) (by rw [hK.1];rfl)
 have hb1:b < w.heap.size + 1:=by omega
 go_enter Tryz.func263,Tryz.ntmps263
 go_upto_region 5 with (fail)
 have Wb:Below w.heap.size w ((w.alloc (.cells #[F1 x,F1 y,F1 z] 38)).alloc (.cells #[F1 0,F1 0,F1 0] 38)):=(by repeat' (first | exact Below.refl _ _ | exact Nat.le_refl _ | refine below_drewN ?_ _ | refine Below.alloc ?_ (by simp <;> omega) _ | refine Below.setCell ?_ (by simp <;> omega) _ | refine below_step ?_ (by assumption)))

 have hkept:=kept_app (keep hkept Wb) (show Kept [(⟨w.heap.size,0,none⟩,F1 x),(⟨w.heap.size,1,none⟩,F1 y),(⟨w.heap.size,2,none⟩,F1 z),(⟨w.heap.size + 1,0,none⟩,F1 0),(⟨w.heap.size + 1,1,none⟩,F1 0),(⟨w.heap.size + 1,2,none⟩,F1 0)] [⟨w.heap.size + 1,0,none⟩,⟨w.heap.size + 1,1,none⟩,⟨w.heap.size + 1,2,none⟩] ((w.alloc (.cells #[F1 x,F1 y,F1 z] 38)).alloc (.cells #[F1 0,F1 0,F1 0] 38)) by
  simp only [Kept,ka,kb,kc,kd,ke,kfa,kga];simp)
 generalize (w.alloc (.cells #[F1 x,F1 y,F1 z] 38)).alloc (.cells #[F1 0,F1 0,F1 0] 38) = W1 at Wb hkept ⊢
 refine Qr.wp_below 28 (by kernel_rfl) (by kernel_rfl) PhiP ?_
 repeat (first | (refine Qr.walk_plain rfl fun K hK => ?_;refine one_bin _ _ _ _ _ rfl _ _ _ rfl rfl rfl (fun r hr => ?_);go_simp;refine hK _ ?_;clear hK K) | (refine Qr.walk_plain rfl fun K hK => ?_;apply Qr.one_det;(focus (intro w' hw';have HK:=keep hkept hw';simp only [Kept,ka,kb,kc,kd,ke,kfa,kga] at HK;go_simp;first | done | rfl));go_simp;refine hK _ ?_;clear hK K) | (refine Qr.walk_plain rfl fun K hK => ?_;apply Qr.one_call;(focus (intro w' hw';go_simp;first | done | exact ⟨rfl,rfl⟩));(focus (intro w' hw'; go_at_call 167;refine (s_less_any _ _ _ _ _ _ _).mono ?_;rintro _ w2 ⟨x1,y1,z1,rfl,hx1,hy1,hz1,hb1⟩ ;exact ⟨_,rfl,by constructor <;> assumption,below_step hw' (by assumption),by assumption⟩));intro v hv;cases hv;go_simp;refine hK _ ?_;clear hK K) | (refine Qr.walk_plain rfl fun K hK => ?_;apply Qr.one_call;(focus (intro w' hw';go_simp;first | done | exact ⟨rfl,rfl⟩));(focus (intro w' hw'; go_at_call 142;refine (s_pick_any _ _ _ _ _).mono ?_;rintro _ w2 ⟨rfl,hb1⟩ ;exact ⟨_,rfl,by constructor <;> assumption,below_step hw' (by assumption),by assumption⟩));intro v hv;cases hv;go_simp;refine hK _ ?_;clear hK K) | (refine Qr.walk_plain rfl fun K hK => ?_;apply Qr.one_call;(focus (intro w' hw';go_simp;first | done | exact ⟨rfl,rfl⟩));(focus (intro w' hw'; go_at_call 143;refine (s_set_any _ _ _ _ _ _).mono ?_;rintro _ w2 ⟨rfl,hb1⟩ ;exact ⟨_,rfl,by constructor <;> assumption,below_step hw' (by assumption),by assumption⟩));intro v hv;cases hv;go_simp;refine hK _ ?_;clear hK K) | (refine Qr.walk_plain rfl fun K hK => ?_;apply Qr.one_call;(focus (intro w' hw';go_simp;first | done | exact ⟨rfl,rfl⟩));(focus (intro w' hw'; go_at_call 88;refine (s_size_any _ _).mono ?_;rintro _ w2 ⟨r1,rfl,hr1,hb1⟩ ;exact ⟨_,rfl,by constructor <;> assumption,below_step hw' (by assumption),by assumption⟩));intro v hv;cases hv;go_simp;refine hK _ ?_;clear hK K) | (refine Qr.walk_plain rfl fun K hK => ?_;apply Qr.one_call;(focus (intro w' hw';go_simp;first | done | exact ⟨rfl,rfl⟩));(focus (intro w' hw'; go_at_call 276;refine (s_folded_any _ _ _).mono ?_;rintro _ w2 ⟨r1,rfl,hr1,hb1⟩ ;exact ⟨_,rfl,by constructor <;> assumption,below_step hw' (by assumption),by assumption⟩));intro v hv;cases hv;go_simp;refine hK _ ?_;clear hK K))
 refine Qr.walk_nil fun w6 hw6 => ?_
 have hkept:=keep hkept hw6
 have W6b:=below_step Wb hw6
 clear hK
 have hK:=hkept
 simp only [Kept,ka,kb,kc,kd,ke,kfa,kga] at hK
 go_wp2_with fail
 obtain ⟨hk1,hk2⟩:=hK
 exact bodyPost_ret (v:=.agg #[F1 _,F1 _,F1 _]) (by simp [results,Tryz.results263,go_sem,hk1,hk2];first | done | exact ⟨rfl,rfl,rfl⟩ | exact rfl) rfl ⟨_,_,_,rfl,by first | rfl | assumption | (simp only [setX,setY,setZ,pickF,n20,n21,n10,n01,if_true,if_false, *];done),by first | rfl | assumption | (simp only [setX,setY,setZ,pickF,n20,n21,n10,n01,if_true,if_false, *];done),by first | rfl | assumption | (simp only [setX,setY,setZ,pickF,n20,n21,n10,n01,if_true,if_false, *];done),(W6b.setCell (by exact Nat.le_succ _) _).setCell (by exact Nat.le_succ _) _ |>.setCell (by exact Nat.le_succ _) _⟩

set_option maxRecDepth 100000 in
set_option maxHeartbeats 2000000 in
theorem s_point_stretch {b o bv ov r0 r1 r2 cap x y z:Nat} {w:World} (hkept:Kept [(⟨b,o,none⟩,.int .i64 11),(⟨b,o + 2,none⟩,.int .i64 0),(⟨b,o + 3,none⟩,.slice (some ⟨bv,ov,none⟩) 3 cap),(⟨bv,ov,none⟩,F1 r0),(⟨bv,ov + 1,none⟩,F1 r1),(⟨bv,ov + 2,none⟩,F1 r2)] [] w) :
  Calls Tryz.prog 263 #[.pointer (some ⟨b,o,none⟩),V3 x y z] w (RetV (B .quo (cn .f32 x) (cn .f32 r0)) (B .quo (cn .f32 y) (cn .f32 r1)) (B .quo (cn .f32 z) (cn .f32 r2)) w):=by
 have hK:=hkept
 simp only [Kept,ka,kb,kc,kd,ke,kfa,kga] at hK
 have hb:b < w.heap.size:=some_lt (a:=⟨b,o,none⟩) (by rw [hK.1];rfl)
 have hb1:b < w.heap.size + 1:=by omega
 go_enter Tryz.func263,Tryz.ntmps263
 go_upto_region 7 with (fail)
 have Wb:Below w.heap.size w ((w.alloc (.cells #[F1 x,F1 y,F1 z] 38)).alloc (.cells #[F1 0,F1 0,F1 0] 38)):=(by repeat' (first | exact Below.refl _ _ | exact Nat.le_refl _ | refine below_drewN ?_ _ | refine Below.alloc ?_ (by simp <;> omega) _ | refine Below.setCell ?_ (by simp <;> omega) _ | refine below_step ?_ (by assumption)))

 have hkept:=kept_app (keep hkept Wb) (show Kept [(⟨w.heap.size,0,none⟩,F1 x),(⟨w.heap.size,1,none⟩,F1 y),(⟨w.heap.size,2,none⟩,F1 z),(⟨w.heap.size + 1,0,none⟩,F1 0),(⟨w.heap.size + 1,1,none⟩,F1 0),(⟨w.heap.size + 1,2,none⟩,F1 0)] [⟨w.heap.size + 1,0,none⟩,⟨w.heap.size + 1,1,none⟩,⟨w.heap.size + 1,2,none⟩] ((w.alloc (.cells #[F1 x,F1 y,F1 z] 38)).alloc (.cells #[F1 0,F1 0,F1 0] 38)) by
  simp only [Kept,ka,kb,kc,kd,ke,kfa,kga];simp)
 generalize (w.alloc (.cells #[F1 x,F1 y,F1 z] 38)).alloc (.cells #[F1 0,F1 0,F1 0] 38) = W1 at Wb hkept ⊢
 refine Qr.wp_below 28 (by kernel_rfl) (by kernel_rfl) PhiP ?_
 repeat (first | (refine Qr.walk_plain rfl fun K hK => ?_;refine one_bin _ _ _ _ _ rfl _ _ _ rfl rfl rfl (fun r hr => ?_);go_simp;refine hK _ ?_;clear hK K) | (refine Qr.walk_plain rfl fun K hK => ?_;apply Qr.one_det;(focus (intro w' hw';have HK:=keep hkept hw';simp only [Kept,ka,kb,kc,kd,ke,kfa,kga] at HK;go_simp;first | done | rfl));go_simp;refine hK _ ?_;clear hK K) | (refine Qr.walk_plain rfl fun K hK => ?_;apply Qr.one_call;(focus (intro w' hw';go_simp;first | done | exact ⟨rfl,rfl⟩));(focus (intro w' hw'; go_at_call 167;refine (s_less_any _ _ _ _ _ _ _).mono ?_;rintro _ w2 ⟨x1,y1,z1,rfl,hx1,hy1,hz1,hb1⟩ ;exact ⟨_,rfl,by constructor <;> assumption,below_step hw' (by assumption),by assumption⟩));intro v hv;cases hv;go_simp;refine hK _ ?_;clear hK K) | (refine Qr.walk_plain rfl fun K hK => ?_;apply Qr.one_call;(focus (intro w' hw';go_simp;first | done | exact ⟨rfl,rfl⟩));(focus (intro w' hw'; go_at_call 142;refine (s_pick_any _ _ _ _ _).mono ?_;rintro _ w2 ⟨rfl,hb1⟩ ;exact ⟨_,rfl,by constructor <;> assumption,below_step hw' (by assumption),by assumption⟩));intro v hv;cases hv;go_simp;refine hK _ ?_;clear hK K) | (refine Qr.walk_plain rfl fun K hK => ?_;apply Qr.one_call;(focus (intro w' hw';go_simp;first | done | exact ⟨rfl,rfl⟩));(focus (intro w' hw'; go_at_call 143;refine (s_set_any _ _ _ _ _ _).mono ?_;rintro _ w2 ⟨rfl,hb1⟩ ;exact ⟨_,rfl,by constructor <;> assumption,below_step hw' (by assumption),by assumption⟩));intro v hv;cases hv;go_simp;refine hK _ ?_;clear hK K) | (refine Qr.walk_plain rfl fun K hK => ?_;apply Qr.one_call;(focus (intro w' hw';go_simp;first | done | exact ⟨rfl,rfl⟩));(focus (intro w' hw'; go_at_call 88;refine (s_size_any _ _).mono ?_;rintro _ w2 ⟨r1,rfl,hr1,hb1⟩ ;exact ⟨_,rfl,by constructor <;> assumption,below_step hw' (by assumption),by assumption⟩));intro v hv;cases hv;go_simp;refine hK _ ?_;clear hK K) | (refine Qr.walk_plain rfl fun K hK => ?_;apply Qr.one_call;(focus (intro w' hw';go_simp;first | done | exact ⟨rfl,rfl⟩));(focus (intro w' hw'; go_at_call 276;refine (s_folded_any _ _ _).mono ?_;rintro _ w2 ⟨r1,rfl,hr1,hb1⟩ ;exact ⟨_,rfl,by constructor <;> assumption,below_step hw' (by assumption),by assumption⟩));intro v hv;cases hv;go_simp;refine hK _ ?_;clear hK K))
 refine Qr.walk_nil fun w6 hw6 => ?_
 have hkept:=keep hkept hw6
 have W6b:=below_step Wb hw6
 clear hK
 have hK:=hkept
 simp only [Kept,ka,kb,kc,kd,ke,kfa,kga] at hK
 go_wp2_with fail
 obtain ⟨hk1,hk2⟩:=hK
 exact bodyPost_ret (v:=.agg #[F1 _,F1 _,F1 _]) (by simp [results,Tryz.results263,go_sem,hk1,hk2];first | done | exact ⟨rfl,rfl,rfl⟩ | exact rfl) rfl ⟨_,_,_,rfl,by first | rfl | assumption | (simp only [setX,setY,setZ,pickF,n20,n21,n10,n01,if_true,if_false, *];done),by first | rfl | assumption | (simp only [setX,setY,setZ,pickF,n20,n21,n10,n01,if_true,if_false, *];done),by first | rfl | assumption | (simp only [setX,setY,setZ,pickF,n20,n21,n10,n01,if_true,if_false, *];done),(W6b.setCell (by exact Nat.le_succ _) _).setCell (by exact Nat.le_succ _) _ |>.setCell (by exact Nat.le_succ _) _⟩

set_option maxRecDepth 100000 in
set_option maxHeartbeats 2000000 in
theorem s_point_turn0 {b o bv ov r0 cap x y z:Nat} {w:World} (hkept:Kept [(⟨b,o,none⟩,.int .i64 12),(⟨b,o + 2,none⟩,.int .i64 0),(⟨b,o + 3,none⟩,.slice (some ⟨bv,ov,none⟩) 1 cap),(⟨bv,ov,none⟩,F1 r0)] [] w) :
  Calls Tryz.prog 263 #[.pointer (some ⟨b,o,none⟩),V3 x y z] w (RetV (cn .f32 x) (turn1 (cn .f32 r0) (cn .f32 y) (cn .f32 z)) (turn2 (cn .f32 r0) (cn .f32 y) (cn .f32 z)) w):=by
 have hK:=hkept
 simp only [Kept,ka,kb,kc,kd,ke,kfa,kga] at hK
 have hb:b < w.heap.size:=some_lt (a:=⟨b,o,none⟩) (by rw [hK.1];rfl)
 have hb1:b < w.heap.size + 1:=by omega
 go_enter Tryz.func263,Tryz.ntmps263
 go_upto_region 9 with (fail)
 have Wb:Below w.heap.size w ((w.alloc (.cells #[F1 x,F1 y,F1 z] 38)).alloc (.cells #[F1 0,F1 0,F1 0] 38)):=(by repeat' (first | exact Below.refl _ _ | exact Nat.le_refl _ | refine below_drewN ?_ _ | refine Below.alloc ?_ (by simp <;> omega) _ | refine Below.setCell ?_ (by simp <;> omega) _ | refine below_step ?_ (by assumption)))

 have hkept:=kept_app (keep hkept Wb) (show Kept [(⟨w.heap.size,0,none⟩,F1 x),(⟨w.heap.size,1,none⟩,F1 y),(⟨w.heap.size,2,none⟩,F1 z),(⟨w.heap.size + 1,0,none⟩,F1 0),(⟨w.heap.size + 1,1,none⟩,F1 0),(⟨w.heap.size + 1,2,none⟩,F1 0)] [⟨w.heap.size + 1,0,none⟩,⟨w.heap.size + 1,1,none⟩,⟨w.heap.size + 1,2,none⟩] ((w.alloc (.cells #[F1 x,F1 y,F1 z] 38)).alloc (.cells #[F1 0,F1 0,F1 0] 38)) by
  simp only [Kept,ka,kb,kc,kd,ke,kfa,kga];simp)
 generalize (w.alloc (.cells #[F1 x,F1 y,F1 z] 38)).alloc (.cells #[F1 0,F1 0,F1 0] 38) = W1 at Wb hkept ⊢
 refine Qr.wp_below 12 (by kernel_rfl) (by kernel_rfl) PhiP ?_
 repeat (first | (refine Qr.walk_plain rfl fun K hK => ?_;refine one_bin _ _ _ _ _ rfl _ _ _ rfl rfl rfl (fun r hr => ?_);go_simp;refine hK _ ?_;clear hK K) | (refine Qr.walk_plain rfl fun K hK => ?_;apply Qr.one_det;(focus (intro w' hw';have HK:=keep hkept hw';simp only [Kept,ka,kb,kc,kd,ke,kfa,kga] at HK;go_simp;first | done | rfl));go_simp;refine hK _ ?_;clear hK K) | (refine Qr.walk_plain rfl fun K hK => ?_;apply Qr.one_call;(focus (intro w' hw';go_simp;first | done | exact ⟨rfl,rfl⟩));(focus (intro w' hw'; go_at_call 275;refine (s_turned_0 _ _ _ _ _).mono ?_;rintro _ w2 ⟨x1,y1,z1,rfl,hx1,hy1,hz1,hb1⟩ ;exact ⟨_,rfl,by constructor <;> assumption,below_step hw' (by assumption),by assumption⟩));intro v hv;cases hv;go_simp;refine hK _ ?_;clear hK K))
 refine Qr.walk_nil fun w6 hw6 => ?_
 have hkept:=keep hkept hw6
 have W6b:=below_step Wb hw6
 clear hK
 have hK:=hkept
 simp only [Kept,ka,kb,kc,kd,ke,kfa,kga] at hK
 go_wp2_with fail
 obtain ⟨hk1,hk2⟩:=hK
 exact bodyPost_ret (v:=.agg #[F1 _,F1 _,F1 _]) (by simp [results,Tryz.results263,go_sem,hk1,hk2];first | done | exact ⟨rfl,rfl,rfl⟩ | exact rfl) rfl ⟨_,_,_,rfl,by first | rfl | assumption | (simp only [setX,setY,setZ,pickF,n20,n21,n10,n01,if_true,if_false, *];done),by first | rfl | assumption | (simp only [setX,setY,setZ,pickF,n20,n21,n10,n01,if_true,if_false, *];done),by first | rfl | assumption | (simp only [setX,setY,setZ,pickF,n20,n21,n10,n01,if_true,if_false, *];done),(W6b.setCell (by exact Nat.le_succ _) _).setCell (by exact Nat.le_succ _) _ |>.setCell (by exact Nat.le_succ _) _⟩

set_option maxRecDepth 100000 in
set_option maxHeartbeats 2000000 in
theorem s_point_turn1 {b o bv ov r0 cap x y z:Nat} {w:World} (hkept:Kept [(⟨b,o,none⟩,.int .i64 12),(⟨b,o + 2,none⟩,.int .i64 1),(⟨b,o + 3,none⟩,.slice (some ⟨bv,ov,none⟩) 1 cap),(⟨bv,ov,none⟩,F1 r0)] [] w) :
  Calls Tryz.prog 263 #[.pointer (some ⟨b,o,none⟩),V3 x y z] w (RetV (turn2 (cn .f32 r0) (cn .f32 z) (cn .f32 x)) (cn .f32 y) (turn1 (cn .f32 r0) (cn .f32 z) (cn .f32 x)) w):=by
 have hK:=hkept
 simp only [Kept,ka,kb,kc,kd,ke,kfa,kga] at hK
 have hb:b < w.heap.size:=some_lt (a:=⟨b,o,none⟩) (by rw [hK.1];rfl)
 have hb1:b < w.heap.size + 1:=by omega
 go_enter Tryz.func263,Tryz.ntmps263
 go_upto_region 9 with (fail)
 have Wb:Below w.heap.size w ((w.alloc (.cells #[F1 x,F1 y,F1 z] 38)).alloc (.cells #[F1 0,F1 0,F1 0] 38)):=(by repeat' (first | exact Below.refl _ _ | exact Nat.le_refl _ | refine below_drewN ?_ _ | refine Below.alloc ?_ (by simp <;> omega) _ | refine Below.setCell ?_ (by simp <;> omega) _ | refine below_step ?_ (by assumption)))

 have hkept:=kept_app (keep hkept Wb) (show Kept [(⟨w.heap.size,0,none⟩,F1 x),(⟨w.heap.size,1,none⟩,F1 y),(⟨w.heap.size,2,none⟩,F1 z),(⟨w.heap.size + 1,0,none⟩,F1 0),(⟨w.heap.size + 1,1,none⟩,F1 0),(⟨w.heap.size + 1,2,none⟩,F1 0)] [⟨w.heap.size + 1,0,none⟩,⟨w.heap.size + 1,1,none⟩,⟨w.heap.size + 1,2,none⟩] ((w.alloc (.cells #[F1 x,F1 y,F1 z] 38)).alloc (.cells #[F1 0,F1 0,F1 0] 38)) by
  simp only [Kept,ka,kb,kc,kd,ke,kfa,kga];simp)
 generalize (w.alloc (.cells #[F1 x,F1 y,F1 z] 38)).alloc (.cells #[F1 0,F1 0,F1 0] 38) = W1 at Wb hkept ⊢
 refine Qr.wp_below 12 (by kernel_rfl) (by kernel_rfl) PhiP ?_
 repeat (first | (refine Qr.walk_plain rfl fun K hK => ?_;refine one_bin _ _ _ _ _ rfl _ _ _ rfl rfl rfl (fun r hr => ?_);go_simp;refine hK _ ?_;clear hK K) | (refine Qr.walk_plain rfl fun K hK => ?_;apply Qr.one_det;(focus (intro w' hw';have HK:=keep hkept hw';simp only [Kept,ka,kb,kc,kd,ke,kfa,kga] at HK;go_simp;first | done | rfl));go_simp;refine hK _ ?_;clear hK K) | (refine Qr.walk_plain rfl fun K hK => ?_;apply Qr.one_call;(focus (intro w' hw';go_simp;first | done | exact ⟨rfl,rfl⟩));(focus (intro w' hw'; go_at_call 275;refine (s_turned_1 _ _ _ _ _).mono ?_;rintro _ w2 ⟨x1,y1,z1,rfl,hx1,hy1,hz1,hb1⟩ ;exact ⟨_,rfl,by constructor <;> assumption,below_step hw' (by assumption),by assumption⟩));intro v hv;cases hv;go_simp;refine hK _ ?_;clear hK K))
 refine Qr.walk_nil fun w6 hw6 => ?_
 have hkept:=keep hkept hw6
 have W6b:=below_step Wb hw6
 clear hK
 have hK:=hkept
 simp only [Kept,ka,kb,kc,kd,ke,kfa,kga] at hK
 go_wp2_with fail
 obtain ⟨hk1,hk2⟩:=hK
 exact bodyPost_ret (v:=.agg #[F1 _,F1 _,F1 _]) (by simp [results,Tryz.results263,go_sem,hk1,hk2];first | done | exact ⟨rfl,rfl,rfl⟩ | exact rfl) rfl ⟨_,_,_,rfl,by first | rfl | assumption | (simp only [setX,setY,setZ,pickF,n20,n21,n10,n01,if_true,if_false, *];done),by first | rfl | assumption | (simp only [setX,setY,setZ,pickF,n20,n21,n10,n01,if_true,if_false, *];done),by first | rfl | assumption | (simp only [setX,setY,setZ,pickF,n20,n21,n10,n01,if_true,if_false, *];done),(W6b.setCell (by exact Nat.le_succ _) _).setCell (by exact Nat.le_succ _) _ |>.setCell (by exact Nat.le_succ _) _⟩

set_option maxRecDepth 100000 in
set_option maxHeartbeats 2000000 in
theorem s_point_turn2 {b o bv ov r0 cap x y z:Nat} {w:World} (hkept:Kept [(⟨b,o,none⟩,.int .i64 12),(⟨b,o + 2,none⟩,.int .i64 2),(⟨b,o + 3,none⟩,.slice (some ⟨bv,ov,none⟩) 1 cap),(⟨bv,ov,none⟩,F1 r0)] [] w) :
  Calls Tryz.prog 263 #[.pointer (some ⟨b,o,none⟩),V3 x y z] w (RetV (turn1 (cn .f32 r0) (cn .f32 x) (cn .f32 y)) (turn2 (cn .f32 r0) (cn .f32 x) (cn .f32 y)) (cn .f32 z) w):=by
 have hK:=hkept
 simp only [Kept,ka,kb,kc,kd,ke,kfa,kga] at hK
 have hb:b < w.heap.size:=some_lt (a:=⟨b,o,none⟩) (by rw [hK.1];rfl)
 have hb1:b < w.heap.size + 1:=by omega
 go_enter Tryz.func263,Tryz.ntmps263
 go_upto_region 9 with (fail)
 have Wb:Below w.heap.size w ((w.alloc (.cells #[F1 x,F1 y,F1 z] 38)).alloc (.cells #[F1 0,F1 0,F1 0] 38)):=(by repeat' (first | exact Below.refl _ _ | exact Nat.le_refl _ | refine below_drewN ?_ _ | refine Below.alloc ?_ (by simp <;> omega) _ | refine Below.setCell ?_ (by simp <;> omega) _ | refine below_step ?_ (by assumption)))

 have hkept:=kept_app (keep hkept Wb) (show Kept [(⟨w.heap.size,0,none⟩,F1 x),(⟨w.heap.size,1,none⟩,F1 y),(⟨w.heap.size,2,none⟩,F1 z),(⟨w.heap.size + 1,0,none⟩,F1 0),(⟨w.heap.size + 1,1,none⟩,F1 0),(⟨w.heap.size + 1,2,none⟩,F1 0)] [⟨w.heap.size + 1,0,none⟩,⟨w.heap.size + 1,1,none⟩,⟨w.heap.size + 1,2,none⟩] ((w.alloc (.cells #[F1 x,F1 y,F1 z] 38)).alloc (.cells #[F1 0,F1 0,F1 0] 38)) by
  simp only [Kept,ka,kb,kc,kd,ke,kfa,kga];simp)
 generalize (w.alloc (.cells #[F1 x,F1 y,F1 z] 38)).alloc (.cells #[F1 0,F1 0,F1 0] 38) = W1 at Wb hkept ⊢
 refine Qr.wp_below 12 (by kernel_rfl) (by kernel_rfl) PhiP ?_
 repeat (first | (refine Qr.walk_plain rfl fun K hK => ?_;refine one_bin _ _ _ _ _ rfl _ _ _ rfl rfl rfl (fun r hr => ?_);go_simp;refine hK _ ?_;clear hK K) | (refine Qr.walk_plain rfl fun K hK => ?_;apply Qr.one_det;(focus (intro w' hw';have HK:=keep hkept hw';simp only [Kept,ka,kb,kc,kd,ke,kfa,kga] at HK;go_simp;first | done | rfl));go_simp;refine hK _ ?_;clear hK K) | (refine Qr.walk_plain rfl fun K hK => ?_;apply Qr.one_call;(focus (intro w' hw';go_simp;first | done | exact ⟨rfl,rfl⟩));(focus (intro w' hw'; go_at_call 275;refine (s_turned_2 _ _ _ _ _).mono ?_;rintro _ w2 ⟨x1,y1,z1,rfl,hx1,hy1,hz1,hb1⟩ ;exact ⟨_,rfl,by constructor <;> assumption,below_step hw' (by assumption),by assumption⟩));intro v hv;cases hv;go_simp;refine hK _ ?_;clear hK K))
 refine Qr.walk_nil fun w6 hw6 => ?_
 have hkept:=keep hkept hw6
 have W6b:=below_step Wb hw6
 clear hK
 have hK:=hkept
 simp only [Kept,ka,kb,kc,kd,ke,kfa,kga] at hK
 go_wp2_with fail
 obtain ⟨hk1,hk2⟩:=hK
 exact bodyPost_ret (v:=.agg #[F1 _,F1 _,F1 _]) (by simp [results,Tryz.results263,go_sem,hk1,hk2];first | done | exact ⟨rfl,rfl,rfl⟩ | exact rfl) rfl ⟨_,_,_,rfl,by first | rfl | assumption | (simp only [setX,setY,setZ,pickF,n20,n21,n10,n01,if_true,if_false, *];done),by first | rfl | assumption | (simp only [setX,setY,setZ,pickF,n20,n21,n10,n01,if_true,if_false, *];done),by first | rfl | assumption | (simp only [setX,setY,setZ,pickF,n20,n21,n10,n01,if_true,if_false, *];done),(W6b.setCell (by exact Nat.le_succ _) _).setCell (by exact Nat.le_succ _) _ |>.setCell (by exact Nat.le_succ _) _⟩

end Go.Proofs.YtbiacfkiakddiaaGreat
