/-
 Lemmas: V19.
-/
import Derived.Test.YtbiacfkiakddiaaGreatMac
import Derived.Test.YtbiacfkiakddiaaGreatMad
import Derived.Test.YtbiacfkiakddiaaGreatMbn
set_option linter.unusedVariables false
set_option linter.unusedSimpArgs false
namespace Go.Proofs.YtbiacfkiakddiaaGreat
open Go.RowKit Go.Fl
inductive PhiPt:FuncId → Array Value → Value → Prop
 | sine (a r:Nat) (h:cn .f32 r = sineF (cn .f32 a)):PhiPt 211 #[F1 a] (F1 r)
 | times (a b v l h:Nat) (e:(cn .f32 l,cn .f32 h) = timesR (cn .f32 a,cn .f32 b) (cn .f32 v)):PhiPt 212 #[RgV a b,F1 v] (RgV l h)
 | plus (a b c d l h:Nat) (e:(cn .f32 l,cn .f32 h) = plusR (cn .f32 a,cn .f32 b) (cn .f32 c,cn .f32 d)):PhiPt 213 #[RgV a b,RgV c d] (RgV l h)
 | less (a b c d l h:Nat) (e:(cn .f32 l,cn .f32 h) = lessR (cn .f32 a,cn .f32 b) (cn .f32 c,cn .f32 d)):PhiPt 214 #[RgV a b,RgV c d] (RgV l h)


set_option maxRecDepth 100000 in
set_option maxHeartbeats 2000000 in
theorem place_turn0 {b o bv ov cap r0 x0 x1 y0 y1 z0 z1:Nat} {bp:Option Addr} {w:World} (hN:Kept [(⟨b,o,none⟩,.int .i64 12),(⟨b,o + 2,none⟩,.int .i64 0),(⟨b,o + 3,none⟩,.slice (some ⟨bv,ov,none⟩) 1 cap),(⟨bv,ov,none⟩,F1 r0)] [] w) :
  Calls Tryz.prog 134 #[.pointer (some ⟨b,o,none⟩),Rg3 x0 x1 y0 y1 z0 z1] w (RetPl ((cn .f32 x0,cn .f32 x1),tuR1 (cn .f32 r0) (cn .f32 y0,cn .f32 y1) (cn .f32 z0,cn .f32 z1),tuR2 (cn .f32 r0) (cn .f32 y0,cn .f32 y1) (cn .f32 z0,cn .f32 z1)) w):=by
 have hK:=hN
 simp only [Kept,ka,kb,kc,kd,ke,kf,kg] at hK
 have hb:b < w.heap.size:=some_lt (a:=⟨b,o,none⟩) (by rw [hK.1];rfl)
 go_enter Tryz.func134,Tryz.ntmps134
 go_upto_region 1 with fail
 clear hK
 generalize hW:(w.alloc (.cells #[F1 x0,F1 x1,F1 y0,F1 y1,F1 z0,F1 z1] 197)).alloc (.cells #[F1 0,F1 0,F1 0,F1 0,F1 0,F1 0] 197) = W1 at *
 have W1b:Below w.heap.size w W1:=by subst hW;exact (by repeat' (first | exact Below.refl _ _ | exact Nat.le_refl _ | refine below_drewN ?_ _ | refine Below.alloc ?_ (by simp <;> omega) _ | refine Below.setCell ?_ (by simp <;> omega) _ | refine below_step ?_ (by assumption)))
 have hkept:Kept [(⟨w.heap.size,0,none⟩,F1 x0),(⟨w.heap.size,1,none⟩,F1 x1),(⟨w.heap.size,2,none⟩,F1 y0),(⟨w.heap.size,3,none⟩,F1 y1),(⟨w.heap.size,4,none⟩,F1 z0),(⟨w.heap.size,5,none⟩,F1 z1),(⟨w.heap.size + 1,0,none⟩,F1 0),(⟨w.heap.size + 1,1,none⟩,F1 0),(⟨w.heap.size + 1,2,none⟩,F1 0),(⟨w.heap.size + 1,3,none⟩,F1 0),(⟨w.heap.size + 1,4,none⟩,F1 0),(⟨w.heap.size + 1,5,none⟩,F1 0)] [⟨w.heap.size,0,none⟩,⟨w.heap.size,1,none⟩,⟨w.heap.size,2,none⟩,⟨w.heap.size,3,none⟩,⟨w.heap.size,4,none⟩,⟨w.heap.size,5,none⟩,⟨w.heap.size + 1,0,none⟩,⟨w.heap.size + 1,1,none⟩,⟨w.heap.size + 1,2,none⟩,⟨w.heap.size + 1,3,none⟩,⟨w.heap.size + 1,4,none⟩,⟨w.heap.size + 1,5,none⟩] W1:=by
  subst hW;simp only [Kept,ka,kb,kc,kd,ke,kf,kg];(first | (go_simp;done) | (simp [World.cell?,World.frozen?,World.alloc,Array.getElem?_push];done))
 clear hW
 have hkept:=kept_app (keep hN W1b) hkept
 clear hN
 have hK:=hkept;simp only [Kept,ka,kb,kc,kd,ke,kf,kg] at hK
 have hb1:b < W1.heap.size:=Nat.lt_of_lt_of_le hb W1b.size
 go_upto_region 2 with fail
 refine Qr.wp_below_all (by kernel_rfl) (by kernel_rfl) PhiPt ?_
 repeat (first | (refine Qr.walk_plain rfl fun K hK => ?_;refine one_bin _ _ _ _ _ rfl _ _ _ rfl rfl rfl (fun r hr => ?_);go_simp;refine hK _ ?_;clear hK K) | (refine Qr.walk_plain rfl fun K hK => ?_;apply Qr.one_det;(focus (intro w' hw';have HK:=keep hkept hw';simp only [Kept,ka,kb,kc,kd,ke,kf,kg] at HK;go_simp;first | done | rfl));go_simp;refine hK _ ?_;clear hK K))
 refine Qr.walk_nil fun w6 hw6 => ?_
 have hkept:=keep hkept hw6
 have W6b:=below_step W1b hw6
 clear hK
 have hK:=hkept
 simp only [Kept,ka,kb,kc,kd,ke,kf,kg] at hK
 rw [show (IntKind.i64.wrap 1).tmod 3 = 1 by decide,show (IntKind.i64.wrap 2).tmod 3 = 2 by decide]
 go_upto_region 15 with fail
 refine Qr.wp_below_all (by kernel_rfl) (by kernel_rfl) PhiPt ?_
 repeat (first | (refine Qr.walk_plain rfl fun K hK => ?_;refine one_bin _ _ _ _ _ rfl _ _ _ rfl rfl rfl (fun r hr => ?_);go_simp;refine hK _ ?_;clear hK K) | (refine Qr.walk_plain rfl fun K hK => ?_;apply Qr.one_det;(focus (intro w' hw';have HK:=keep hkept hw';simp only [Kept,ka,kb,kc,kd,ke,kf,kg] at HK;go_simp;first | done | rfl));go_simp;refine hK _ ?_;clear hK K) | (refine Qr.walk_plain rfl fun K hK => ?_;apply Qr.one_call;(focus (intro w' hw';go_simp;first | done | exact ⟨rfl,rfl⟩));(focus (intro w' hw'; go_at_call 211;refine (sine_any _ _).mono ?_;rintro _ w2 ⟨r1,rfl,hr1,hb1⟩ ;exact ⟨_,rfl,by constructor <;> assumption,below_step hw' (by assumption),by assumption⟩));intro v hv;cases hv;go_simp;refine hK _ ?_;clear hK K) | (refine Qr.walk_plain rfl fun K hK => ?_;apply Qr.one_call;(focus (intro w' hw';go_simp;first | done | exact ⟨rfl,rfl⟩));(focus (intro w' hw'; go_at_call 212;refine (times_any _ _ _ _).mono ?_;rintro _ w2 ⟨l1,u1,rfl,hr1,hb1⟩ ;exact ⟨_,rfl,by constructor <;> assumption,below_step hw' (by assumption),by assumption⟩));intro v hv;cases hv;go_simp;refine hK _ ?_;clear hK K) | (refine Qr.walk_plain rfl fun K hK => ?_;apply Qr.one_call;(focus (intro w' hw';go_simp;first | done | exact ⟨rfl,rfl⟩));(focus (intro w' hw'; go_at_call 213;refine (plus_any _ _ _ _ _).mono ?_;rintro _ w2 ⟨l1,u1,rfl,hr1,hb1⟩ ;exact ⟨_,rfl,by constructor <;> assumption,below_step hw' (by assumption),by assumption⟩));intro v hv;cases hv;go_simp;refine hK _ ?_;clear hK K) | (refine Qr.walk_plain rfl fun K hK => ?_;apply Qr.one_call;(focus (intro w' hw';go_simp;first | done | exact ⟨rfl,rfl⟩));(focus (intro w' hw'; go_at_call 214;refine (rless_any _ _ _ _ _).mono ?_;rintro _ w2 ⟨l1,u1,rfl,hr1,hb1⟩ ;exact ⟨_,rfl,by constructor <;> assumption,below_step hw' (by assumption),by assumption⟩));intro v hv;cases hv;go_simp;refine hK _ ?_;clear hK K))
 rename_i sa hsa sb hsb sc hsc
 refine Qr.walk_nil fun w7 hw7 => ?_
 have hkept:=keep hkept hw7
 have W7b:=below_step W6b hw7
 clear hK hw7
 have hK:=hkept
 simp only [Kept,ka,kb,kc,kd,ke,kf,kg] at hK
 go_upto_region 16 with fail
 clear hK
 refine Qu.wp_regionL 25 (by kernel_rfl) (by kernel_rfl) (fun w' => Below w7.heap.size w7 w') (fun w' => ∃ l u,(cn .f32 l,cn .f32 u) = tuR1 (cn .f32 r0) (cn .f32 y0,cn .f32 y1) (cn .f32 z0,cn .f32 z1) ∧ Kept [(⟨w.heap.size,0,none⟩,F1 x0),(⟨w.heap.size,1,none⟩,F1 x1),(⟨w.heap.size,2,none⟩,F1 l),(⟨w.heap.size,3,none⟩,F1 u),(⟨w.heap.size,4,none⟩,F1 z0),(⟨w.heap.size,5,none⟩,F1 z1),(⟨w.heap.size + 1,0,none⟩,F1 0),(⟨w.heap.size + 1,1,none⟩,F1 0),(⟨w.heap.size + 1,2,none⟩,F1 0),(⟨w.heap.size + 1,3,none⟩,F1 0),(⟨w.heap.size + 1,4,none⟩,F1 0),(⟨w.heap.size + 1,5,none⟩,F1 0)] [⟨w.heap.size,4,none⟩,⟨w.heap.size,5,none⟩,⟨w.heap.size + 1,0,none⟩,⟨w.heap.size + 1,1,none⟩,⟨w.heap.size + 1,2,none⟩,⟨w.heap.size + 1,3,none⟩,⟨w.heap.size + 1,4,none⟩,⟨w.heap.size + 1,5,none⟩] w' ∧ Below w.heap.size w w') PhiPt ((Below.refl _ _).drew) (by kernel_rfl) ?_
 repeat (first | (refine Qu.walkL_any (by kernel_rfl) fun K bl hK => ?_;apply Qu.oneL_det;(focus (intro w';go_simp;first | done | rfl));go_simp;refine hK _ ?_;clear hK K bl) | (refine Qu.walkL_step (by kernel_rfl) (b:=false) (by decide +kernel) fun K hK => ?_;refine Qu.oneL_early ?_;apply Qr.one_det;(focus (intro w' hw';have HK:=keep hkept hw';simp only [Kept,ka,kb,kc,kd,ke,kf,kg] at HK;go_simp;first | done | rfl));go_simp;refine hK _ ?_;clear hK K) | (refine Qu.walkL_step (by kernel_rfl) (b:=false) (by decide +kernel) fun K hK => ?_;refine Qu.oneL_early ?_;apply Qr.one_call;(focus (intro w' hw';go_simp;first | done | exact ⟨rfl,rfl⟩));(focus (intro w' hw';go_at_call 212;refine (times_any _ _ _ _).mono ?_;rintro _ w2 ⟨l1,u1,rfl,hr1,hb1⟩ ;exact ⟨_,rfl,by constructor <;> assumption,below_step hw' (by assumption),by assumption⟩));intro v hv;cases hv;go_simp;refine hK _ ?_;clear hK K) | (refine Qu.walkL_step (by kernel_rfl) (b:=false) (by decide +kernel) fun K hK => ?_;refine Qu.oneL_early ?_;apply Qr.one_call;(focus (intro w' hw';go_simp;first | done | exact ⟨rfl,rfl⟩));(focus (intro w' hw';go_at_call 213;refine (plus_any _ _ _ _ _).mono ?_;rintro _ w2 ⟨l1,u1,rfl,hr1,hb1⟩ ;exact ⟨_,rfl,by constructor <;> assumption,below_step hw' (by assumption),by assumption⟩));intro v hv;cases hv;go_simp;refine hK _ ?_;clear hK K) | (refine Qu.walkL_step (by kernel_rfl) (b:=false) (by decide +kernel) fun K hK => ?_;refine Qu.oneL_early ?_;apply Qr.one_call;(focus (intro w' hw';go_simp;first | done | exact ⟨rfl,rfl⟩));(focus (intro w' hw';go_at_call 214;refine (rless_any _ _ _ _ _).mono ?_;rintro _ w2 ⟨l1,u1,rfl,hr1,hb1⟩ ;exact ⟨_,rfl,by constructor <;> assumption,below_step hw' (by assumption),by assumption⟩));intro v hv;cases hv;go_simp;refine hK _ ?_;clear hK K))
 rename_i l1 u1 e1 l2 u2 e2 l3 u3 e3 l4 u4 e4 l5 u5 e5 l6 u6 e6
 have ht1:(cn .f32 l3,cn .f32 u3) = tuR1 (cn .f32 r0) (cn .f32 y0,cn .f32 y1) (cn .f32 z0,cn .f32 z1):=by rw [e3,e1,e2,hsb,hsc,hr,cn_c6];rfl
 have ht2:(cn .f32 l6,cn .f32 u6) = tuR2 (cn .f32 r0) (cn .f32 y0,cn .f32 y1) (cn .f32 z0,cn .f32 z1):=by rw [e6,e4,e5,hsb,hsc,hr,cn_c6];rfl
 clear e1 e2 e3 e4 e5 e6 hsb hsc hr hw6
 refine Qu.walkL_store (by kernel_rfl) fun K hK => ?_
 refine ⟨fun w' hw' => ?_,?_⟩
 ·have HK:=keep hkept hw'
  have hbb:=W7b.trans (hw'.mono W7b.size)
  simp only [Kept,ka,kb,kc,kd,ke,kf,kg] at HK
  go_simp
  refine ⟨l3,u3,ht1,?_,(hbb.setCell (by show w.heap.size ≤ w.heap.size;omega) _).setCell (by show w.heap.size ≤ w.heap.size;omega) _⟩
  simp only [Kept,ka,kb,kc,kd,ke,kf,kg]
  simp [HK,World.cell?_setCell_other,World.cell?_setCell_same',World.frozen?_setCell]
 go_simp
 refine hK _ ?_
 clear hK K hkept
 refine Qu.walkL_nil fun w8 hw8 => ?_
 obtain ⟨l,u,hlu,hkept,W8b⟩:=hw8
 have hK:=hkept
 simp only [Kept,ka,kb,kc,kd,ke,kf,kg] at hK
 go_upto_region 21 with fail
 have W9b:=(W8b.setCell (p:=⟨w.heap.size,4,none⟩) (Nat.le_refl _) (F1 l6)).setCell (p:=⟨w.heap.size,5,none⟩) (Nat.le_refl _) (F1 u6)
 have hkept:Kept [(⟨w.heap.size,0,none⟩,F1 x0),(⟨w.heap.size,1,none⟩,F1 x1),(⟨w.heap.size,2,none⟩,F1 l),(⟨w.heap.size,3,none⟩,F1 u),(⟨w.heap.size,4,none⟩,F1 l6),(⟨w.heap.size,5,none⟩,F1 u6),(⟨w.heap.size + 1,0,none⟩,F1 0),(⟨w.heap.size + 1,1,none⟩,F1 0),(⟨w.heap.size + 1,2,none⟩,F1 0),(⟨w.heap.size + 1,3,none⟩,F1 0),(⟨w.heap.size + 1,4,none⟩,F1 0),(⟨w.heap.size + 1,5,none⟩,F1 0)] [⟨w.heap.size + 1,0,none⟩,⟨w.heap.size + 1,1,none⟩,⟨w.heap.size + 1,2,none⟩,⟨w.heap.size + 1,3,none⟩,⟨w.heap.size + 1,4,none⟩,⟨w.heap.size + 1,5,none⟩] ((w8.setCell ⟨w.heap.size,4,none⟩ (F1 l6)).setCell ⟨w.heap.size,5,none⟩ (F1 u6)):=by simp only [Kept,ka,kb,kc,kd,ke,kf,kg];simp [hK,go_sem,World.cell?_setCell_other,World.cell?_setCell_same',World.frozen?_setCell]
 clear hK
 generalize ((w8.setCell ⟨w.heap.size,4,none⟩ (F1 l6)).setCell ⟨w.heap.size,5,none⟩ (F1 u6)) = W9 at *
 have hK:=hkept;simp only [Kept,ka,kb,kc,kd,ke,kf,kg] at hK
 go_wp2_with fail
 exact bodyPost_ret (v:=Rg3 x0 x1 l u l6 u6) (by simp [results,Tryz.results134,go_sem,hK,World.cell?_setCell_other,World.cell?_setCell_same'];first | done | exact ⟨rfl,rfl,rfl,rfl,rfl,rfl⟩) rfl ⟨_,_,_,_,_,_,rfl,rfl,hlu,ht2,bel6 W9b (by omega) ..⟩

set_option maxRecDepth 100000 in
set_option maxHeartbeats 2000000 in
theorem place_turn1 {b o bv ov cap r0 x0 x1 y0 y1 z0 z1:Nat} {bp:Option Addr} {w:World} (hN:Kept [(⟨b,o,none⟩,.int .i64 12),(⟨b,o + 2,none⟩,.int .i64 1),(⟨b,o + 3,none⟩,.slice (some ⟨bv,ov,none⟩) 1 cap),(⟨bv,ov,none⟩,F1 r0)] [] w) :
  Calls Tryz.prog 134 #[.pointer (some ⟨b,o,none⟩),Rg3 x0 x1 y0 y1 z0 z1] w (RetPl (tuR2 (cn .f32 r0) (cn .f32 z0,cn .f32 z1) (cn .f32 x0,cn .f32 x1),(cn .f32 y0,cn .f32 y1),tuR1 (cn .f32 r0) (cn .f32 z0,cn .f32 z1) (cn .f32 x0,cn .f32 x1)) w):=by
 have hK:=hN
 simp only [Kept,ka,kb,kc,kd,ke,kf,kg] at hK
 have hb:b < w.heap.size:=some_lt (a:=⟨b,o,none⟩) (by rw [hK.1];rfl)
 go_enter Tryz.func134,Tryz.ntmps134
 go_upto_region 1 with fail
 clear hK
 generalize hW:(w.alloc (.cells #[F1 x0,F1 x1,F1 y0,F1 y1,F1 z0,F1 z1] 197)).alloc (.cells #[F1 0,F1 0,F1 0,F1 0,F1 0,F1 0] 197) = W1 at *
 have W1b:Below w.heap.size w W1:=by subst hW;exact (by repeat' (first | exact Below.refl _ _ | exact Nat.le_refl _ | refine below_drewN ?_ _ | refine Below.alloc ?_ (by simp <;> omega) _ | refine Below.setCell ?_ (by simp <;> omega) _ | refine below_step ?_ (by assumption)))
 have hkept:Kept [(⟨w.heap.size,0,none⟩,F1 x0),(⟨w.heap.size,1,none⟩,F1 x1),(⟨w.heap.size,2,none⟩,F1 y0),(⟨w.heap.size,3,none⟩,F1 y1),(⟨w.heap.size,4,none⟩,F1 z0),(⟨w.heap.size,5,none⟩,F1 z1),(⟨w.heap.size + 1,0,none⟩,F1 0),(⟨w.heap.size + 1,1,none⟩,F1 0),(⟨w.heap.size + 1,2,none⟩,F1 0),(⟨w.heap.size + 1,3,none⟩,F1 0),(⟨w.heap.size + 1,4,none⟩,F1 0),(⟨w.heap.size + 1,5,none⟩,F1 0)] [⟨w.heap.size,0,none⟩,⟨w.heap.size,1,none⟩,⟨w.heap.size,2,none⟩,⟨w.heap.size,3,none⟩,⟨w.heap.size,4,none⟩,⟨w.heap.size,5,none⟩,⟨w.heap.size + 1,0,none⟩,⟨w.heap.size + 1,1,none⟩,⟨w.heap.size + 1,2,none⟩,⟨w.heap.size + 1,3,none⟩,⟨w.heap.size + 1,4,none⟩,⟨w.heap.size + 1,5,none⟩] W1:=by
  subst hW;simp only [Kept,ka,kb,kc,kd,ke,kf,kg];(first | (go_simp;done) | (simp [World.cell?,World.frozen?,World.alloc,Array.getElem?_push];done))
 clear hW
 have hkept:=kept_app (keep hN W1b) hkept
 clear hN
 have hK:=hkept;simp only [Kept,ka,kb,kc,kd,ke,kf,kg] at hK
 have hb1:b < W1.heap.size:=Nat.lt_of_lt_of_le hb W1b.size
 go_upto_region 2 with fail
 refine Qr.wp_below_all (by kernel_rfl) (by kernel_rfl) PhiPt ?_
 repeat (first | (refine Qr.walk_plain rfl fun K hK => ?_;refine one_bin _ _ _ _ _ rfl _ _ _ rfl rfl rfl (fun r hr => ?_);go_simp;refine hK _ ?_;clear hK K) | (refine Qr.walk_plain rfl fun K hK => ?_;apply Qr.one_det;(focus (intro w' hw';have HK:=keep hkept hw';simp only [Kept,ka,kb,kc,kd,ke,kf,kg] at HK;go_simp;first | done | rfl));go_simp;refine hK _ ?_;clear hK K))
 refine Qr.walk_nil fun w6 hw6 => ?_
 have hkept:=keep hkept hw6
 have W6b:=below_step W1b hw6
 clear hK
 have hK:=hkept
 simp only [Kept,ka,kb,kc,kd,ke,kf,kg] at hK
 rw [show (IntKind.i64.wrap 2).tmod 3 = 2 by decide,show (IntKind.i64.wrap 3).tmod 3 = 0 by decide]
 go_upto_region 15 with fail
 refine Qr.wp_below_all (by kernel_rfl) (by kernel_rfl) PhiPt ?_
 repeat (first | (refine Qr.walk_plain rfl fun K hK => ?_;refine one_bin _ _ _ _ _ rfl _ _ _ rfl rfl rfl (fun r hr => ?_);go_simp;refine hK _ ?_;clear hK K) | (refine Qr.walk_plain rfl fun K hK => ?_;apply Qr.one_det;(focus (intro w' hw';have HK:=keep hkept hw';simp only [Kept,ka,kb,kc,kd,ke,kf,kg] at HK;go_simp;first | done | rfl));go_simp;refine hK _ ?_;clear hK K) | (refine Qr.walk_plain rfl fun K hK => ?_;apply Qr.one_call;(focus (intro w' hw';go_simp;first | done | exact ⟨rfl,rfl⟩));(focus (intro w' hw'; go_at_call 211;refine (sine_any _ _).mono ?_;rintro _ w2 ⟨r1,rfl,hr1,hb1⟩ ;exact ⟨_,rfl,by constructor <;> assumption,below_step hw' (by assumption),by assumption⟩));intro v hv;cases hv;go_simp;refine hK _ ?_;clear hK K) | (refine Qr.walk_plain rfl fun K hK => ?_;apply Qr.one_call;(focus (intro w' hw';go_simp;first | done | exact ⟨rfl,rfl⟩));(focus (intro w' hw'; go_at_call 212;refine (times_any _ _ _ _).mono ?_;rintro _ w2 ⟨l1,u1,rfl,hr1,hb1⟩ ;exact ⟨_,rfl,by constructor <;> assumption,below_step hw' (by assumption),by assumption⟩));intro v hv;cases hv;go_simp;refine hK _ ?_;clear hK K) | (refine Qr.walk_plain rfl fun K hK => ?_;apply Qr.one_call;(focus (intro w' hw';go_simp;first | done | exact ⟨rfl,rfl⟩));(focus (intro w' hw'; go_at_call 213;refine (plus_any _ _ _ _ _).mono ?_;rintro _ w2 ⟨l1,u1,rfl,hr1,hb1⟩ ;exact ⟨_,rfl,by constructor <;> assumption,below_step hw' (by assumption),by assumption⟩));intro v hv;cases hv;go_simp;refine hK _ ?_;clear hK K) | (refine Qr.walk_plain rfl fun K hK => ?_;apply Qr.one_call;(focus (intro w' hw';go_simp;first | done | exact ⟨rfl,rfl⟩));(focus (intro w' hw'; go_at_call 214;refine (rless_any _ _ _ _ _).mono ?_;rintro _ w2 ⟨l1,u1,rfl,hr1,hb1⟩ ;exact ⟨_,rfl,by constructor <;> assumption,below_step hw' (by assumption),by assumption⟩));intro v hv;cases hv;go_simp;refine hK _ ?_;clear hK K))
 rename_i sa hsa sb hsb sc hsc
 refine Qr.walk_nil fun w7 hw7 => ?_
 have hkept:=keep hkept hw7
 have W7b:=below_step W6b hw7
 clear hK hw7
 have hK:=hkept
 simp only [Kept,ka,kb,kc,kd,ke,kf,kg] at hK
 go_upto_region 16 with fail
 clear hK
 refine Qu.wp_regionL 25 (by kernel_rfl) (by kernel_rfl) (fun w' => Below w7.heap.size w7 w') (fun w' => ∃ l u,(cn .f32 l,cn .f32 u) = tuR1 (cn .f32 r0) (cn .f32 z0,cn .f32 z1) (cn .f32 x0,cn .f32 x1) ∧ Kept [(⟨w.heap.size,0,none⟩,F1 x0),(⟨w.heap.size,1,none⟩,F1 x1),(⟨w.heap.size,2,none⟩,F1 y0),(⟨w.heap.size,3,none⟩,F1 y1),(⟨w.heap.size,4,none⟩,F1 l),(⟨w.heap.size,5,none⟩,F1 u),(⟨w.heap.size + 1,0,none⟩,F1 0),(⟨w.heap.size + 1,1,none⟩,F1 0),(⟨w.heap.size + 1,2,none⟩,F1 0),(⟨w.heap.size + 1,3,none⟩,F1 0),(⟨w.heap.size + 1,4,none⟩,F1 0),(⟨w.heap.size + 1,5,none⟩,F1 0)] [⟨w.heap.size,0,none⟩,⟨w.heap.size,1,none⟩,⟨w.heap.size + 1,0,none⟩,⟨w.heap.size + 1,1,none⟩,⟨w.heap.size + 1,2,none⟩,⟨w.heap.size + 1,3,none⟩,⟨w.heap.size + 1,4,none⟩,⟨w.heap.size + 1,5,none⟩] w' ∧ Below w.heap.size w w') PhiPt ((Below.refl _ _).drew) (by kernel_rfl) ?_
 repeat (first | (refine Qu.walkL_any (by kernel_rfl) fun K bl hK => ?_;apply Qu.oneL_det;(focus (intro w';go_simp;first | done | rfl));go_simp;refine hK _ ?_;clear hK K bl) | (refine Qu.walkL_step (by kernel_rfl) (b:=false) (by decide +kernel) fun K hK => ?_;refine Qu.oneL_early ?_;apply Qr.one_det;(focus (intro w' hw';have HK:=keep hkept hw';simp only [Kept,ka,kb,kc,kd,ke,kf,kg] at HK;go_simp;first | done | rfl));go_simp;refine hK _ ?_;clear hK K) | (refine Qu.walkL_step (by kernel_rfl) (b:=false) (by decide +kernel) fun K hK => ?_;refine Qu.oneL_early ?_;apply Qr.one_call;(focus (intro w' hw';go_simp;first | done | exact ⟨rfl,rfl⟩));(focus (intro w' hw';go_at_call 212;refine (times_any _ _ _ _).mono ?_;rintro _ w2 ⟨l1,u1,rfl,hr1,hb1⟩ ;exact ⟨_,rfl,by constructor <;> assumption,below_step hw' (by assumption),by assumption⟩));intro v hv;cases hv;go_simp;refine hK _ ?_;clear hK K) | (refine Qu.walkL_step (by kernel_rfl) (b:=false) (by decide +kernel) fun K hK => ?_;refine Qu.oneL_early ?_;apply Qr.one_call;(focus (intro w' hw';go_simp;first | done | exact ⟨rfl,rfl⟩));(focus (intro w' hw';go_at_call 213;refine (plus_any _ _ _ _ _).mono ?_;rintro _ w2 ⟨l1,u1,rfl,hr1,hb1⟩ ;exact ⟨_,rfl,by constructor <;> assumption,below_step hw' (by assumption),by assumption⟩));intro v hv;cases hv;go_simp;refine hK _ ?_;clear hK K) | (refine Qu.walkL_step (by kernel_rfl) (b:=false) (by decide +kernel) fun K hK => ?_;refine Qu.oneL_early ?_;apply Qr.one_call;(focus (intro w' hw';go_simp;first | done | exact ⟨rfl,rfl⟩));(focus (intro w' hw';go_at_call 214;refine (rless_any _ _ _ _ _).mono ?_;rintro _ w2 ⟨l1,u1,rfl,hr1,hb1⟩ ;exact ⟨_,rfl,by constructor <;> assumption,below_step hw' (by assumption),by assumption⟩));intro v hv;cases hv;go_simp;refine hK _ ?_;clear hK K))
 rename_i l1 u1 e1 l2 u2 e2 l3 u3 e3 l4 u4 e4 l5 u5 e5 l6 u6 e6
 have ht1:(cn .f32 l3,cn .f32 u3) = tuR1 (cn .f32 r0) (cn .f32 z0,cn .f32 z1) (cn .f32 x0,cn .f32 x1):=by rw [e3,e1,e2,hsb,hsc,hr,cn_c6];rfl
 have ht2:(cn .f32 l6,cn .f32 u6) = tuR2 (cn .f32 r0) (cn .f32 z0,cn .f32 z1) (cn .f32 x0,cn .f32 x1):=by rw [e6,e4,e5,hsb,hsc,hr,cn_c6];rfl
 clear e1 e2 e3 e4 e5 e6 hsb hsc hr hw6
 refine Qu.walkL_store (by kernel_rfl) fun K hK => ?_
 refine ⟨fun w' hw' => ?_,?_⟩
 ·have HK:=keep hkept hw'
  have hbb:=W7b.trans (hw'.mono W7b.size)
  simp only [Kept,ka,kb,kc,kd,ke,kf,kg] at HK
  go_simp
  refine ⟨l3,u3,ht1,?_,(hbb.setCell (by show w.heap.size ≤ w.heap.size;omega) _).setCell (by show w.heap.size ≤ w.heap.size;omega) _⟩
  simp only [Kept,ka,kb,kc,kd,ke,kf,kg]
  simp [HK,World.cell?_setCell_other,World.cell?_setCell_same',World.frozen?_setCell]
 go_simp
 refine hK _ ?_
 clear hK K hkept
 refine Qu.walkL_nil fun w8 hw8 => ?_
 obtain ⟨l,u,hlu,hkept,W8b⟩:=hw8
 have hK:=hkept
 simp only [Kept,ka,kb,kc,kd,ke,kf,kg] at hK
 go_upto_region 21 with fail
 have W9b:=(W8b.setCell (p:=⟨w.heap.size,0,none⟩) (Nat.le_refl _) (F1 l6)).setCell (p:=⟨w.heap.size,1,none⟩) (Nat.le_refl _) (F1 u6)
 have hkept:Kept [(⟨w.heap.size,0,none⟩,F1 l6),(⟨w.heap.size,1,none⟩,F1 u6),(⟨w.heap.size,2,none⟩,F1 y0),(⟨w.heap.size,3,none⟩,F1 y1),(⟨w.heap.size,4,none⟩,F1 l),(⟨w.heap.size,5,none⟩,F1 u),(⟨w.heap.size + 1,0,none⟩,F1 0),(⟨w.heap.size + 1,1,none⟩,F1 0),(⟨w.heap.size + 1,2,none⟩,F1 0),(⟨w.heap.size + 1,3,none⟩,F1 0),(⟨w.heap.size + 1,4,none⟩,F1 0),(⟨w.heap.size + 1,5,none⟩,F1 0)] [⟨w.heap.size + 1,0,none⟩,⟨w.heap.size + 1,1,none⟩,⟨w.heap.size + 1,2,none⟩,⟨w.heap.size + 1,3,none⟩,⟨w.heap.size + 1,4,none⟩,⟨w.heap.size + 1,5,none⟩] ((w8.setCell ⟨w.heap.size,0,none⟩ (F1 l6)).setCell ⟨w.heap.size,1,none⟩ (F1 u6)):=by simp only [Kept,ka,kb,kc,kd,ke,kf,kg];simp [hK,go_sem,World.cell?_setCell_other,World.cell?_setCell_same',World.frozen?_setCell]
 clear hK
 generalize ((w8.setCell ⟨w.heap.size,0,none⟩ (F1 l6)).setCell ⟨w.heap.size,1,none⟩ (F1 u6)) = W9 at *
 have hK:=hkept;simp only [Kept,ka,kb,kc,kd,ke,kf,kg] at hK
 go_wp2_with fail
 exact bodyPost_ret (v:=Rg3 l6 u6 y0 y1 l u) (by simp [results,Tryz.results134,go_sem,hK,World.cell?_setCell_other,World.cell?_setCell_same'];first | done | exact ⟨rfl,rfl,rfl,rfl,rfl,rfl⟩) rfl ⟨_,_,_,_,_,_,rfl,ht2,rfl,hlu,bel6 W9b (by omega) ..⟩

set_option maxRecDepth 100000 in
set_option maxHeartbeats 2000000 in
theorem place_turn2 {b o bv ov cap r0 x0 x1 y0 y1 z0 z1:Nat} {bp:Option Addr} {w:World} (hN:Kept [(⟨b,o,none⟩,.int .i64 12),(⟨b,o + 2,none⟩,.int .i64 2),(⟨b,o + 3,none⟩,.slice (some ⟨bv,ov,none⟩) 1 cap),(⟨bv,ov,none⟩,F1 r0)] [] w) :
  Calls Tryz.prog 134 #[.pointer (some ⟨b,o,none⟩),Rg3 x0 x1 y0 y1 z0 z1] w (RetPl (tuR1 (cn .f32 r0) (cn .f32 x0,cn .f32 x1) (cn .f32 y0,cn .f32 y1),tuR2 (cn .f32 r0) (cn .f32 x0,cn .f32 x1) (cn .f32 y0,cn .f32 y1),(cn .f32 z0,cn .f32 z1)) w):=by
 have hK:=hN
 simp only [Kept,ka,kb,kc,kd,ke,kf,kg] at hK
 have hb:b < w.heap.size:=some_lt (a:=⟨b,o,none⟩) (by rw [hK.1];rfl)
 go_enter Tryz.func134,Tryz.ntmps134
 go_upto_region 1 with fail
 clear hK
 generalize hW:(w.alloc (.cells #[F1 x0,F1 x1,F1 y0,F1 y1,F1 z0,F1 z1] 197)).alloc (.cells #[F1 0,F1 0,F1 0,F1 0,F1 0,F1 0] 197) = W1 at *
 have W1b:Below w.heap.size w W1:=by subst hW;exact (by repeat' (first | exact Below.refl _ _ | exact Nat.le_refl _ | refine below_drewN ?_ _ | refine Below.alloc ?_ (by simp <;> omega) _ | refine Below.setCell ?_ (by simp <;> omega) _ | refine below_step ?_ (by assumption)))
 have hkept:Kept [(⟨w.heap.size,0,none⟩,F1 x0),(⟨w.heap.size,1,none⟩,F1 x1),(⟨w.heap.size,2,none⟩,F1 y0),(⟨w.heap.size,3,none⟩,F1 y1),(⟨w.heap.size,4,none⟩,F1 z0),(⟨w.heap.size,5,none⟩,F1 z1),(⟨w.heap.size + 1,0,none⟩,F1 0),(⟨w.heap.size + 1,1,none⟩,F1 0),(⟨w.heap.size + 1,2,none⟩,F1 0),(⟨w.heap.size + 1,3,none⟩,F1 0),(⟨w.heap.size + 1,4,none⟩,F1 0),(⟨w.heap.size + 1,5,none⟩,F1 0)] [⟨w.heap.size,0,none⟩,⟨w.heap.size,1,none⟩,⟨w.heap.size,2,none⟩,⟨w.heap.size,3,none⟩,⟨w.heap.size,4,none⟩,⟨w.heap.size,5,none⟩,⟨w.heap.size + 1,0,none⟩,⟨w.heap.size + 1,1,none⟩,⟨w.heap.size + 1,2,none⟩,⟨w.heap.size + 1,3,none⟩,⟨w.heap.size + 1,4,none⟩,⟨w.heap.size + 1,5,none⟩] W1:=by
  subst hW;simp only [Kept,ka,kb,kc,kd,ke,kf,kg];(first | (go_simp;done) | (simp [World.cell?,World.frozen?,World.alloc,Array.getElem?_push];done))
 clear hW
 have hkept:=kept_app (keep hN W1b) hkept
 clear hN
 have hK:=hkept;simp only [Kept,ka,kb,kc,kd,ke,kf,kg] at hK
 have hb1:b < W1.heap.size:=Nat.lt_of_lt_of_le hb W1b.size
 go_upto_region 2 with fail
 refine Qr.wp_below_all (by kernel_rfl) (by kernel_rfl) PhiPt ?_
 repeat (first | (refine Qr.walk_plain rfl fun K hK => ?_;refine one_bin _ _ _ _ _ rfl _ _ _ rfl rfl rfl (fun r hr => ?_);go_simp;refine hK _ ?_;clear hK K) | (refine Qr.walk_plain rfl fun K hK => ?_;apply Qr.one_det;(focus (intro w' hw';have HK:=keep hkept hw';simp only [Kept,ka,kb,kc,kd,ke,kf,kg] at HK;go_simp;first | done | rfl));go_simp;refine hK _ ?_;clear hK K))
 refine Qr.walk_nil fun w6 hw6 => ?_
 have hkept:=keep hkept hw6
 have W6b:=below_step W1b hw6
 clear hK
 have hK:=hkept
 simp only [Kept,ka,kb,kc,kd,ke,kf,kg] at hK
 rw [show (IntKind.i64.wrap 3).tmod 3 = 0 by decide,show (IntKind.i64.wrap 4).tmod 3 = 1 by decide]
 go_upto_region 15 with fail
 refine Qr.wp_below_all (by kernel_rfl) (by kernel_rfl) PhiPt ?_
 repeat (first | (refine Qr.walk_plain rfl fun K hK => ?_;refine one_bin _ _ _ _ _ rfl _ _ _ rfl rfl rfl (fun r hr => ?_);go_simp;refine hK _ ?_;clear hK K) | (refine Qr.walk_plain rfl fun K hK => ?_;apply Qr.one_det;(focus (intro w' hw';have HK:=keep hkept hw';simp only [Kept,ka,kb,kc,kd,ke,kf,kg] at HK;go_simp;first | done | rfl));go_simp;refine hK _ ?_;clear hK K) | (refine Qr.walk_plain rfl fun K hK => ?_;apply Qr.one_call;(focus (intro w' hw';go_simp;first | done | exact ⟨rfl,rfl⟩));(focus (intro w' hw'; go_at_call 211;refine (sine_any _ _).mono ?_;rintro _ w2 ⟨r1,rfl,hr1,hb1⟩ ;exact ⟨_,rfl,by constructor <;> assumption,below_step hw' (by assumption),by assumption⟩));intro v hv;cases hv;go_simp;refine hK _ ?_;clear hK K) | (refine Qr.walk_plain rfl fun K hK => ?_;apply Qr.one_call;(focus (intro w' hw';go_simp;first | done | exact ⟨rfl,rfl⟩));(focus (intro w' hw'; go_at_call 212;refine (times_any _ _ _ _).mono ?_;rintro _ w2 ⟨l1,u1,rfl,hr1,hb1⟩ ;exact ⟨_,rfl,by constructor <;> assumption,below_step hw' (by assumption),by assumption⟩));intro v hv;cases hv;go_simp;refine hK _ ?_;clear hK K) | (refine Qr.walk_plain rfl fun K hK => ?_;apply Qr.one_call;(focus (intro w' hw';go_simp;first | done | exact ⟨rfl,rfl⟩));(focus (intro w' hw'; go_at_call 213;refine (plus_any _ _ _ _ _).mono ?_;rintro _ w2 ⟨l1,u1,rfl,hr1,hb1⟩ ;exact ⟨_,rfl,by constructor <;> assumption,below_step hw' (by assumption),by assumption⟩));intro v hv;cases hv;go_simp;refine hK _ ?_;clear hK K) | (refine Qr.walk_plain rfl fun K hK => ?_;apply Qr.one_call;(focus (intro w' hw';go_simp;first | done | exact ⟨rfl,rfl⟩));(focus (intro w' hw'; go_at_call 214;refine (rless_any _ _ _ _ _).mono ?_;rintro _ w2 ⟨l1,u1,rfl,hr1,hb1⟩ ;exact ⟨_,rfl,by constructor <;> assumption,below_step hw' (by assumption),by assumption⟩));intro v hv;cases hv;go_simp;refine hK _ ?_;clear hK K))
 rename_i sa hsa sb hsb sc hsc
 refine Qr.walk_nil fun w7 hw7 => ?_
 have hkept:=keep hkept hw7
 have W7b:=below_step W6b hw7
 clear hK hw7
 have hK:=hkept
 simp only [Kept,ka,kb,kc,kd,ke,kf,kg] at hK
 go_upto_region 16 with fail
 clear hK
 refine Qu.wp_regionL 25 (by kernel_rfl) (by kernel_rfl) (fun w' => Below w7.heap.size w7 w') (fun w' => ∃ l u,(cn .f32 l,cn .f32 u) = tuR1 (cn .f32 r0) (cn .f32 x0,cn .f32 x1) (cn .f32 y0,cn .f32 y1) ∧ Kept [(⟨w.heap.size,0,none⟩,F1 l),(⟨w.heap.size,1,none⟩,F1 u),(⟨w.heap.size,2,none⟩,F1 y0),(⟨w.heap.size,3,none⟩,F1 y1),(⟨w.heap.size,4,none⟩,F1 z0),(⟨w.heap.size,5,none⟩,F1 z1),(⟨w.heap.size + 1,0,none⟩,F1 0),(⟨w.heap.size + 1,1,none⟩,F1 0),(⟨w.heap.size + 1,2,none⟩,F1 0),(⟨w.heap.size + 1,3,none⟩,F1 0),(⟨w.heap.size + 1,4,none⟩,F1 0),(⟨w.heap.size + 1,5,none⟩,F1 0)] [⟨w.heap.size,2,none⟩,⟨w.heap.size,3,none⟩,⟨w.heap.size + 1,0,none⟩,⟨w.heap.size + 1,1,none⟩,⟨w.heap.size + 1,2,none⟩,⟨w.heap.size + 1,3,none⟩,⟨w.heap.size + 1,4,none⟩,⟨w.heap.size + 1,5,none⟩] w' ∧ Below w.heap.size w w') PhiPt ((Below.refl _ _).drew) (by kernel_rfl) ?_
 repeat (first | (refine Qu.walkL_any (by kernel_rfl) fun K bl hK => ?_;apply Qu.oneL_det;(focus (intro w';go_simp;first | done | rfl));go_simp;refine hK _ ?_;clear hK K bl) | (refine Qu.walkL_step (by kernel_rfl) (b:=false) (by decide +kernel) fun K hK => ?_;refine Qu.oneL_early ?_;apply Qr.one_det;(focus (intro w' hw';have HK:=keep hkept hw';simp only [Kept,ka,kb,kc,kd,ke,kf,kg] at HK;go_simp;first | done | rfl));go_simp;refine hK _ ?_;clear hK K) | (refine Qu.walkL_step (by kernel_rfl) (b:=false) (by decide +kernel) fun K hK => ?_;refine Qu.oneL_early ?_;apply Qr.one_call;(focus (intro w' hw';go_simp;first | done | exact ⟨rfl,rfl⟩));(focus (intro w' hw';go_at_call 212;refine (times_any _ _ _ _).mono ?_;rintro _ w2 ⟨l1,u1,rfl,hr1,hb1⟩ ;exact ⟨_,rfl,by constructor <;> assumption,below_step hw' (by assumption),by assumption⟩));intro v hv;cases hv;go_simp;refine hK _ ?_;clear hK K) | (refine Qu.walkL_step (by kernel_rfl) (b:=false) (by decide +kernel) fun K hK => ?_;refine Qu.oneL_early ?_;apply Qr.one_call;(focus (intro w' hw';go_simp;first | done | exact ⟨rfl,rfl⟩));(focus (intro w' hw';go_at_call 213;refine (plus_any _ _ _ _ _).mono ?_;rintro _ w2 ⟨l1,u1,rfl,hr1,hb1⟩ ;exact ⟨_,rfl,by constructor <;> assumption,below_step hw' (by assumption),by assumption⟩));intro v hv;cases hv;go_simp;refine hK _ ?_;clear hK K) | (refine Qu.walkL_step (by kernel_rfl) (b:=false) (by decide +kernel) fun K hK => ?_;refine Qu.oneL_early ?_;apply Qr.one_call;(focus (intro w' hw';go_simp;first | done | exact ⟨rfl,rfl⟩));(focus (intro w' hw';go_at_call 214;refine (rless_any _ _ _ _ _).mono ?_;rintro _ w2 ⟨l1,u1,rfl,hr1,hb1⟩ ;exact ⟨_,rfl,by constructor <;> assumption,below_step hw' (by assumption),by assumption⟩));intro v hv;cases hv;go_simp;refine hK _ ?_;clear hK K))
 rename_i l1 u1 e1 l2 u2 e2 l3 u3 e3 l4 u4 e4 l5 u5 e5 l6 u6 e6
 have ht1:(cn .f32 l3,cn .f32 u3) = tuR1 (cn .f32 r0) (cn .f32 x0,cn .f32 x1) (cn .f32 y0,cn .f32 y1):=by rw [e3,e1,e2,hsb,hsc,hr,cn_c6];rfl
 have ht2:(cn .f32 l6,cn .f32 u6) = tuR2 (cn .f32 r0) (cn .f32 x0,cn .f32 x1) (cn .f32 y0,cn .f32 y1):=by rw [e6,e4,e5,hsb,hsc,hr,cn_c6];rfl
 clear e1 e2 e3 e4 e5 e6 hsb hsc hr hw6
 refine Qu.walkL_store (by kernel_rfl) fun K hK => ?_
 refine ⟨fun w' hw' => ?_,?_⟩
 ·have HK:=keep hkept hw'
  have hbb:=W7b.trans (hw'.mono W7b.size)
  simp only [Kept,ka,kb,kc,kd,ke,kf,kg] at HK
  go_simp
  refine ⟨l3,u3,ht1,?_,(hbb.setCell (by show w.heap.size ≤ w.heap.size;omega) _).setCell (by show w.heap.size ≤ w.heap.size;omega) _⟩
  simp only [Kept,ka,kb,kc,kd,ke,kf,kg]
  simp [HK,World.cell?_setCell_other,World.cell?_setCell_same',World.frozen?_setCell]
 go_simp
 refine hK _ ?_
 clear hK K hkept
 refine Qu.walkL_nil fun w8 hw8 => ?_
 obtain ⟨l,u,hlu,hkept,W8b⟩:=hw8
 have hK:=hkept
 simp only [Kept,ka,kb,kc,kd,ke,kf,kg] at hK
 go_upto_region 21 with fail
 have W9b:=(W8b.setCell (p:=⟨w.heap.size,2,none⟩) (Nat.le_refl _) (F1 l6)).setCell (p:=⟨w.heap.size,3,none⟩) (Nat.le_refl _) (F1 u6)
 have hkept:Kept [(⟨w.heap.size,0,none⟩,F1 l),(⟨w.heap.size,1,none⟩,F1 u),(⟨w.heap.size,2,none⟩,F1 l6),(⟨w.heap.size,3,none⟩,F1 u6),(⟨w.heap.size,4,none⟩,F1 z0),(⟨w.heap.size,5,none⟩,F1 z1),(⟨w.heap.size + 1,0,none⟩,F1 0),(⟨w.heap.size + 1,1,none⟩,F1 0),(⟨w.heap.size + 1,2,none⟩,F1 0),(⟨w.heap.size + 1,3,none⟩,F1 0),(⟨w.heap.size + 1,4,none⟩,F1 0),(⟨w.heap.size + 1,5,none⟩,F1 0)] [⟨w.heap.size + 1,0,none⟩,⟨w.heap.size + 1,1,none⟩,⟨w.heap.size + 1,2,none⟩,⟨w.heap.size + 1,3,none⟩,⟨w.heap.size + 1,4,none⟩,⟨w.heap.size + 1,5,none⟩] ((w8.setCell ⟨w.heap.size,2,none⟩ (F1 l6)).setCell ⟨w.heap.size,3,none⟩ (F1 u6)):=by simp only [Kept,ka,kb,kc,kd,ke,kf,kg];simp [hK,go_sem,World.cell?_setCell_other,World.cell?_setCell_same',World.frozen?_setCell]
 clear hK
 generalize ((w8.setCell ⟨w.heap.size,2,none⟩ (F1 l6)).setCell ⟨w.heap.size,3,none⟩ (F1 u6)) = W9 at *
 have hK:=hkept;simp only [Kept,ka,kb,kc,kd,ke,kf,kg] at hK
 go_wp2_with fail
 exact bodyPost_ret (v:=Rg3 l u l6 u6 z0 z1) (by simp [results,Tryz.results134,go_sem,hK,World.cell?_setCell_other,World.cell?_setCell_same'];first | done | exact ⟨rfl,rfl,rfl,rfl,rfl,rfl⟩) rfl ⟨_,_,_,_,_,_,rfl,hlu,ht2,rfl,bel6 W9b (by omega) ..⟩

end Go.Proofs.YtbiacfkiakddiaaGreat
