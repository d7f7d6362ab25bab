/-
 Lemmas: V30.
-/
import Derived.Test.YtbiacfkiakddiaaGreatMbn
set_option linter.unusedVariables false
set_option linter.unusedSimpArgs false
namespace Go.Proofs.YtbiacfkiakddiaaGreat
open Go.RowKit Go.Fl
set_option maxRecDepth 100000 in
set_option maxHeartbeats 2000000 in
theorem under_turn0 {b o bv ov cap r0 x0 x1 y0 y1 z0 z1:Nat} {bp:Option Addr} {w:World} (hN:Kept [(⟨b,o,none⟩,.int .i64 12),(⟨b,o + 2,none⟩,.int .i64 0),(⟨b,o + 3,none⟩,.slice (some ⟨bv,ov,none⟩) 1 cap),(⟨bv,ov,none⟩,F1 r0)] [] w) :
  Calls Tryz.prog 122 #[.pointer (some ⟨b,o,none⟩),Rg3 x0 x1 y0 y1 z0 z1] w (RetPl ((cn .f32 x0,cn .f32 x1),tuR1 (cn .f32 r0) (cn .f32 y0,cn .f32 y1) (cn .f32 z0,cn .f32 z1),tuR2 (cn .f32 r0) (cn .f32 y0,cn .f32 y1) (cn .f32 z0,cn .f32 z1)) w):=by
 have hK:=hN
 simp only [Kept,ka,kb,kc,kd,ke,kf,kg] at hK
 have hb:b < w.heap.size:=some_lt (a:=⟨b,o,none⟩) (by first | (rw [hK.1];rfl) | (rw [hK];rfl))
 go_enter Tryz.func122,Tryz.ntmps122
 go_upto_region 1 with fail
 clear hK
 generalize hW:(w.alloc (.cells #[F1 x0,F1 x1,F1 y0,F1 y1,F1 z0,F1 z1] 180)).alloc (.cells #[F1 0,F1 0,F1 0,F1 0,F1 0,F1 0] 180) = W1 at *
 have W1b:Below w.heap.size w W1:=by subst hW;exact (by repeat' (first | exact Below.refl _ _ | exact Nat.le_refl _ | refine below_drewN ?_ _ | refine Below.alloc ?_ (by simp <;> omega) _ | refine Below.setCell ?_ (by simp <;> omega) _ | refine below_step ?_ (by assumption)))
 have hkept:Kept [(⟨w.heap.size,0,none⟩,F1 x0),(⟨w.heap.size,1,none⟩,F1 x1),(⟨w.heap.size,2,none⟩,F1 y0),(⟨w.heap.size,3,none⟩,F1 y1),(⟨w.heap.size,4,none⟩,F1 z0),(⟨w.heap.size,5,none⟩,F1 z1),(⟨w.heap.size + 1,0,none⟩,F1 0),(⟨w.heap.size + 1,1,none⟩,F1 0),(⟨w.heap.size + 1,2,none⟩,F1 0),(⟨w.heap.size + 1,3,none⟩,F1 0),(⟨w.heap.size + 1,4,none⟩,F1 0),(⟨w.heap.size + 1,5,none⟩,F1 0)] [⟨w.heap.size,0,none⟩,⟨w.heap.size,1,none⟩,⟨w.heap.size,2,none⟩,⟨w.heap.size,3,none⟩,⟨w.heap.size,4,none⟩,⟨w.heap.size,5,none⟩,⟨w.heap.size + 1,0,none⟩,⟨w.heap.size + 1,1,none⟩,⟨w.heap.size + 1,2,none⟩,⟨w.heap.size + 1,3,none⟩,⟨w.heap.size + 1,4,none⟩,⟨w.heap.size + 1,5,none⟩] W1:=by
  subst hW;simp only [Kept,ka,kb,kc,kd,ke,kf,kg];(first | (go_simp;done) | (simp [World.cell?,World.frozen?,World.alloc,Array.getElem?_push];done))
 clear hW
 have hkept:=kept_app (keep hN W1b) hkept
 have hK:=hkept;simp only [Kept,ka,kb,kc,kd,ke,kf,kg] at hK
 have hb1:b < W1.heap.size:=Nat.lt_of_lt_of_le hb W1b.size
 go_upto_region 19 with (first | (refine wp_bin rfl _ _ _ _ _ rfl _ _ _ rfl rfl rfl ?_;intro r n hr) | (go_at_call 189;refine (s_sine_any _ _).mono ?_;rintro _ w2 ⟨r1,rfl,hr1,hb1⟩;have W1b:=below_step (by first | exact W1b | exact below_drewN W1b _) hb1;have hkept:=keepT hkept hb1 rfl;clear hK;have hK:=hkept;simp only [Kept,ka,kb,kc,kd,ke,kf,kg] at hK))
 have hsa:=‹cn .f32 _ = sineF (cn .f32 r)›
 revert r1;intro sb hsb
 go_upto_region 20 with (go_at_call 190;refine (s_rpick1 (x0:=y0) (x1:=y1) (by simp only [Kept,ka,kb,kc,kd,ke,kf,kg];simp [hK])).mono ?_;rintro _ w3 ⟨rfl,hb1⟩;have W3b:=below_step W1b hb1;have hkept:=keepT hkept hb1 rfl;clear hK;have hK:=hkept;simp only [Kept,ka,kb,kc,kd,ke,kf,kg] at hK)
 have hbA:Below w3.heap.size w3 (w3.alloc (.cells #[F1 y0,F1 y1] 118)):=(Below.refl _ _).alloc (Nat.le_refl _) _
 have hltgi:w.heap.size < w3.heap.size:=some_lt (a:=⟨w.heap.size,0,none⟩) (by simp [hK])
 have hkept:=kept_app (keep hkept hbA) (show Kept [(⟨w3.heap.size,0,none⟩,F1 y0),(⟨w3.heap.size,1,none⟩,F1 y1)] [] (w3.alloc (.cells #[F1 y0,F1 y1] 118)) by simp only [Kept,ka,kb,kc,kd,ke,kf,kg];simp)
 have W4b:=below_step W3b hbA
 clear hK hbA
 generalize w3.alloc (.cells #[F1 y0,F1 y1] 118) = W4 at *
 obtain ⟨gi,hgi,hlggi⟩:∃ gi,gi = w3.heap.size ∧ w.heap.size < gi:=⟨_,rfl,hltgi⟩
 rw [← hgi] at hkept ⊢
 clear hgi hb1 hltgi
 have hgin:gi ≠ w.heap.size:=by omega
 have hgim:w.heap.size ≠ gi:=by omega
 have hK:=hkept;simp only [Kept,ka,kb,kc,kd,ke,kf,kg] at hK
 go_upto_region 21 with (go_at_call 190;refine (s_rpick2 (x0:=z0) (x1:=z1) (by simp only [Kept,ka,kb,kc,kd,ke,kf,kg];simp [hK])).mono ?_;rintro _ w5 ⟨rfl,hb1⟩;have W5b:=below_step W4b hb1;have hkept:=keepT hkept hb1 rfl;clear hK;have hK:=hkept;simp only [Kept,ka,kb,kc,kd,ke,kf,kg] at hK)
 have hbA:Below w5.heap.size w5 (w5.alloc (.cells #[F1 z0,F1 z1] 118)):=(Below.refl _ _).alloc (Nat.le_refl _) _
 have hltgj:w.heap.size < w5.heap.size:=some_lt (a:=⟨w.heap.size,0,none⟩) (by simp [hK])
 have hkept:=kept_app (keep hkept hbA) (show Kept [(⟨w5.heap.size,0,none⟩,F1 z0),(⟨w5.heap.size,1,none⟩,F1 z1)] [] (w5.alloc (.cells #[F1 z0,F1 z1] 118)) by simp only [Kept,ka,kb,kc,kd,ke,kf,kg];simp)
 have W6b:=below_step W5b hbA
 clear hK hbA
 generalize w5.alloc (.cells #[F1 z0,F1 z1] 118) = W6 at *
 obtain ⟨gj,hgj,hlggj⟩:∃ gj,gj = w5.heap.size ∧ w.heap.size < gj:=⟨_,rfl,hltgj⟩
 rw [← hgj] at hkept ⊢
 clear hgj hb1 hltgj
 have hgjn:gj ≠ w.heap.size:=by omega
 have hgjm:w.heap.size ≠ gj:=by omega
 have hK:=hkept;simp only [Kept,ka,kb,kc,kd,ke,kf,kg] at hK
 refine Qr.wp_below 8 (by kernel_rfl) (by kernel_rfl) PhiTs ?_
 repeat (first | (refine Qr.walk_plain rfl fun K hK => ?_;refine one_bin _ _ _ _ _ rfl _ _ _ rfl rfl rfl (fun r hr => ?_);go_simp;refine hK _ ?_;clear hK K) | (refine Qr.walk_plain rfl fun K hK => ?_;apply Qr.one_det;(focus (intro w' hw';have HK:=keep hkept hw';simp only [Kept,ka,kb,kc,kd,ke,kf,kg] at HK;go_simp;first | done | rfl));go_simp;refine hK _ ?_;clear hK K) | (refine Qr.walk_plain rfl fun K hK => ?_;apply Qr.one_call;(focus (intro w' hw';go_simp;first | done | exact ⟨rfl,rfl⟩));(focus (intro w' hw'; go_at_call 187;refine (s_rless_any _ _ _ _ _).mono ?_;rintro _ w2 ⟨l1,u1,rfl,hr1,hb1⟩ ;exact ⟨_,rfl,by constructor <;> assumption,below_step hw' (by assumption),by assumption⟩));intro v hv;cases hv;go_simp;refine hK _ ?_;clear hK K) | (refine Qr.walk_plain rfl fun K hK => ?_;apply Qr.one_call;(focus (intro w' hw';go_simp;first | done | exact ⟨rfl,rfl⟩));(focus (intro w' hw'; go_at_call 188;refine (s_one_any _ _).mono ?_;rintro _ w2 ⟨l1,u1,rfl,hr1,hb1⟩ ;exact ⟨_,rfl,by constructor <;> assumption,below_step hw' (by assumption),by assumption⟩));intro v hv;cases hv;go_simp;refine hK _ ?_;clear hK K) | (refine Qr.walk_plain rfl fun K hK => ?_;apply Qr.one_call;(focus (intro w' hw';go_simp;first | done | exact ⟨rfl,rfl⟩));(focus (intro w' hw'; go_at_call 193;refine (s_times_any _ _ _ _).mono ?_;rintro _ w2 ⟨l1,u1,rfl,hr1,hb1⟩ ;exact ⟨_,rfl,by constructor <;> assumption,below_step hw' (by assumption),by assumption⟩));intro v hv;cases hv;go_simp;refine hK _ ?_;clear hK K) | (refine Qr.walk_plain rfl fun K hK => ?_;apply Qr.one_call;(focus (intro w' hw';go_simp;first | done | exact ⟨rfl,rfl⟩));(focus (intro w' hw'; go_at_call 192;refine (s_radd_any _ _ _ _ _).mono ?_;rintro _ w2 ⟨l1,u1,rfl,hr1,hb1⟩ ;exact ⟨_,rfl,by constructor <;> assumption,below_step hw' (by assumption),by assumption⟩));intro v hv;cases hv;go_simp;refine hK _ ?_;clear hK K))
 rename_i l1 u1 e1 l2 u2 e2 l3 u3 e3
 refine Qr.walk_nil fun w7 hw7 => ?_
 have hkept:=keep hkept hw7
 have W7b:=below_step W6b hw7
 clear hK
 have hK:=hkept
 simp only [Kept,ka,kb,kc,kd,ke,kf,kg] at hK
 have ht1:(cn .f32 l3,cn .f32 u3) = tuR1 (cn .f32 r0) (cn .f32 y0,cn .f32 y1) (cn .f32 z0,cn .f32 z1):=by rw [e3,e1,e2,hsb,hsa,hr,cn_c6];rfl
 clear e1 e2 e3
 go_upto_region 22 with (go_at_call 191;refine (s_rset1 (x0:=y0) (x1:=y1) (by simp only [Kept,ka,kb,kc,kd,ke,kf,kg];simp [hK])).mono ?_;rintro _ w3 ⟨rfl,w8,hb8,rfl⟩)
 have hkept:=keep hkept hb8
 have W8b:=below_step W7b hb8
 clear hK
 have hK:=hkept
 simp only [Kept,ka,kb,kc,kd,ke,kf,kg] at hK
 have W9b:=(W8b.setCell (p:=⟨w.heap.size,2,none⟩) (Nat.le_refl _) (F1 l3)).setCell (p:=⟨w.heap.size,3,none⟩) (Nat.le_refl _) (F1 u3)
 have hset:Kept [(⟨w.heap.size,0,none⟩,F1 x0),(⟨w.heap.size,1,none⟩,F1 x1),(⟨w.heap.size,2,none⟩,F1 l3),(⟨w.heap.size,3,none⟩,F1 u3),(⟨w.heap.size,4,none⟩,F1 z0),(⟨w.heap.size,5,none⟩,F1 z1),(⟨w.heap.size + 1,0,none⟩,F1 0),(⟨w.heap.size + 1,1,none⟩,F1 0),(⟨w.heap.size + 1,2,none⟩,F1 0),(⟨w.heap.size + 1,3,none⟩,F1 0),(⟨w.heap.size + 1,4,none⟩,F1 0),(⟨w.heap.size + 1,5,none⟩,F1 0),(⟨gi,0,none⟩,F1 y0),(⟨gi,1,none⟩,F1 y1),(⟨gj,0,none⟩,F1 z0),(⟨gj,1,none⟩,F1 z1)] [⟨w.heap.size,0,none⟩,⟨w.heap.size,1,none⟩,⟨w.heap.size,2,none⟩,⟨w.heap.size,3,none⟩,⟨w.heap.size,4,none⟩,⟨w.heap.size,5,none⟩,⟨w.heap.size + 1,0,none⟩,⟨w.heap.size + 1,1,none⟩,⟨w.heap.size + 1,2,none⟩,⟨w.heap.size + 1,3,none⟩,⟨w.heap.size + 1,4,none⟩,⟨w.heap.size + 1,5,none⟩] ((w8.setCell ⟨w.heap.size,2,none⟩ (F1 l3)).setCell ⟨w.heap.size,3,none⟩ (F1 u3)):=by simp only [Kept,ka,kb,kc,kd,ke,kf,kg];simp [hK,hgin,hgim,hgjn,hgjm,go_sem,World.cell?_setCell_other,World.cell?_setCell_same',World.frozen?_setCell]
 have hkept:=kept_app (keep hN W9b) hset
 clear hK hset
 generalize ((w8.setCell ⟨w.heap.size,2,none⟩ (F1 l3)).setCell ⟨w.heap.size,3,none⟩ (F1 u3)) = W9 at *
 have hK:=hkept;simp only [Kept,ka,kb,kc,kd,ke,kf,kg] at hK
 refine Qr.wp_below 8 (by kernel_rfl) (by kernel_rfl) PhiTs ?_
 repeat (first | (refine Qr.walk_plain rfl fun K hK => ?_;refine one_bin _ _ _ _ _ rfl _ _ _ rfl rfl rfl (fun r hr => ?_);go_simp;refine hK _ ?_;clear hK K) | (refine Qr.walk_plain rfl fun K hK => ?_;apply Qr.one_det;(focus (intro w' hw';have HK:=keep hkept hw';simp only [Kept,ka,kb,kc,kd,ke,kf,kg] at HK;go_simp;first | done | rfl));go_simp;refine hK _ ?_;clear hK K) | (refine Qr.walk_plain rfl fun K hK => ?_;apply Qr.one_call;(focus (intro w' hw';go_simp;first | done | exact ⟨rfl,rfl⟩));(focus (intro w' hw'; go_at_call 187;refine (s_rless_any _ _ _ _ _).mono ?_;rintro _ w2 ⟨l1,u1,rfl,hr1,hb1⟩ ;exact ⟨_,rfl,by constructor <;> assumption,below_step hw' (by assumption),by assumption⟩));intro v hv;cases hv;go_simp;refine hK _ ?_;clear hK K) | (refine Qr.walk_plain rfl fun K hK => ?_;apply Qr.one_call;(focus (intro w' hw';go_simp;first | done | exact ⟨rfl,rfl⟩));(focus (intro w' hw'; go_at_call 188;refine (s_one_any _ _).mono ?_;rintro _ w2 ⟨l1,u1,rfl,hr1,hb1⟩ ;exact ⟨_,rfl,by constructor <;> assumption,below_step hw' (by assumption),by assumption⟩));intro v hv;cases hv;go_simp;refine hK _ ?_;clear hK K) | (refine Qr.walk_plain rfl fun K hK => ?_;apply Qr.one_call;(focus (intro w' hw';go_simp;first | done | exact ⟨rfl,rfl⟩));(focus (intro w' hw'; go_at_call 193;refine (s_times_any _ _ _ _).mono ?_;rintro _ w2 ⟨l1,u1,rfl,hr1,hb1⟩ ;exact ⟨_,rfl,by constructor <;> assumption,below_step hw' (by assumption),by assumption⟩));intro v hv;cases hv;go_simp;refine hK _ ?_;clear hK K) | (refine Qr.walk_plain rfl fun K hK => ?_;apply Qr.one_call;(focus (intro w' hw';go_simp;first | done | exact ⟨rfl,rfl⟩));(focus (intro w' hw'; go_at_call 192;refine (s_radd_any _ _ _ _ _).mono ?_;rintro _ w2 ⟨l1,u1,rfl,hr1,hb1⟩ ;exact ⟨_,rfl,by constructor <;> assumption,below_step hw' (by assumption),by assumption⟩));intro v hv;cases hv;go_simp;refine hK _ ?_;clear hK K))
 rename_i l4 u4 e4 l5 u5 e5 l6 u6 e6
 refine Qr.walk_nil fun w10 hw10 => ?_
 have hkept:=keep hkept hw10
 have W10b:=below_step W9b hw10
 clear hK
 have hK:=hkept
 simp only [Kept,ka,kb,kc,kd,ke,kf,kg] at hK
 have ht2:(cn .f32 l6,cn .f32 u6) = tuR2 (cn .f32 r0) (cn .f32 y0,cn .f32 y1) (cn .f32 z0,cn .f32 z1):=by rw [e6,e4,e5,hsb,hsa,hr,cn_c6];rfl
 clear e4 e5 e6
 go_upto_region 27 with (go_at_call 191;refine (s_rset2 (x0:=z0) (x1:=z1) (by simp only [Kept,ka,kb,kc,kd,ke,kf,kg];simp [hK])).mono ?_;rintro _ w3 ⟨rfl,w11,hb11,rfl⟩)
 have hkept:=keep hkept hb11
 have W11b:=below_step W10b hb11
 clear hK
 have hK:=hkept
 simp only [Kept,ka,kb,kc,kd,ke,kf,kg] at hK
 have W12b:=(W11b.setCell (p:=⟨w.heap.size,4,none⟩) (Nat.le_refl _) (F1 l6)).setCell (p:=⟨w.heap.size,5,none⟩) (Nat.le_refl _) (F1 u6)
 have hset:Kept [(⟨w.heap.size,0,none⟩,F1 x0),(⟨w.heap.size,1,none⟩,F1 x1),(⟨w.heap.size,2,none⟩,F1 l3),(⟨w.heap.size,3,none⟩,F1 u3),(⟨w.heap.size,4,none⟩,F1 l6),(⟨w.heap.size,5,none⟩,F1 u6),(⟨w.heap.size + 1,0,none⟩,F1 0),(⟨w.heap.size + 1,1,none⟩,F1 0),(⟨w.heap.size + 1,2,none⟩,F1 0),(⟨w.heap.size + 1,3,none⟩,F1 0),(⟨w.heap.size + 1,4,none⟩,F1 0),(⟨w.heap.size + 1,5,none⟩,F1 0)] [⟨w.heap.size,0,none⟩,⟨w.heap.size,1,none⟩,⟨w.heap.size,2,none⟩,⟨w.heap.size,3,none⟩,⟨w.heap.size,4,none⟩,⟨w.heap.size,5,none⟩,⟨w.heap.size + 1,0,none⟩,⟨w.heap.size + 1,1,none⟩,⟨w.heap.size + 1,2,none⟩,⟨w.heap.size + 1,3,none⟩,⟨w.heap.size + 1,4,none⟩,⟨w.heap.size + 1,5,none⟩] ((w11.setCell ⟨w.heap.size,4,none⟩ (F1 l6)).setCell ⟨w.heap.size,5,none⟩ (F1 u6)):=by simp only [Kept,ka,kb,kc,kd,ke,kf,kg];simp [hK,go_sem,World.cell?_setCell_other,World.cell?_setCell_same',World.frozen?_setCell]
 have hkept:=kept_app (keep hN W12b) hset
 clear hK hset
 generalize ((w11.setCell ⟨w.heap.size,4,none⟩ (F1 l6)).setCell ⟨w.heap.size,5,none⟩ (F1 u6)) = W12 at *
 have hK:=hkept;simp only [Kept,ka,kb,kc,kd,ke,kf,kg] at hK
 go_wp2_with fail
 exact bodyPost_ret (v:=Rg3 x0 x1 l3 u3 l6 u6) (by simp [results,Tryz.results122,go_sem,hK,World.cell?_setCell_other,World.cell?_setCell_same'];first | done | exact ⟨rfl,rfl,rfl,rfl,rfl,rfl⟩) rfl ⟨_,_,_,_,_,_,rfl,rfl,ht1,ht2,bel6 W12b (by omega) ..⟩

set_option maxRecDepth 100000 in
set_option maxHeartbeats 2000000 in
theorem under_turn1 {b o bv ov cap r0 x0 x1 y0 y1 z0 z1:Nat} {bp:Option Addr} {w:World} (hN:Kept [(⟨b,o,none⟩,.int .i64 12),(⟨b,o + 2,none⟩,.int .i64 1),(⟨b,o + 3,none⟩,.slice (some ⟨bv,ov,none⟩) 1 cap),(⟨bv,ov,none⟩,F1 r0)] [] w) :
  Calls Tryz.prog 122 #[.pointer (some ⟨b,o,none⟩),Rg3 x0 x1 y0 y1 z0 z1] w (RetPl (tuR2 (cn .f32 r0) (cn .f32 z0,cn .f32 z1) (cn .f32 x0,cn .f32 x1),(cn .f32 y0,cn .f32 y1),tuR1 (cn .f32 r0) (cn .f32 z0,cn .f32 z1) (cn .f32 x0,cn .f32 x1)) w):=by
 have hK:=hN
 simp only [Kept,ka,kb,kc,kd,ke,kf,kg] at hK
 have hb:b < w.heap.size:=some_lt (a:=⟨b,o,none⟩) (by first | (rw [hK.1];rfl) | (rw [hK];rfl))
 go_enter Tryz.func122,Tryz.ntmps122
 go_upto_region 1 with fail
 clear hK
 generalize hW:(w.alloc (.cells #[F1 x0,F1 x1,F1 y0,F1 y1,F1 z0,F1 z1] 180)).alloc (.cells #[F1 0,F1 0,F1 0,F1 0,F1 0,F1 0] 180) = W1 at *
 have W1b:Below w.heap.size w W1:=by subst hW;exact (by repeat' (first | exact Below.refl _ _ | exact Nat.le_refl _ | refine below_drewN ?_ _ | refine Below.alloc ?_ (by simp <;> omega) _ | refine Below.setCell ?_ (by simp <;> omega) _ | refine below_step ?_ (by assumption)))
 have hkept:Kept [(⟨w.heap.size,0,none⟩,F1 x0),(⟨w.heap.size,1,none⟩,F1 x1),(⟨w.heap.size,2,none⟩,F1 y0),(⟨w.heap.size,3,none⟩,F1 y1),(⟨w.heap.size,4,none⟩,F1 z0),(⟨w.heap.size,5,none⟩,F1 z1),(⟨w.heap.size + 1,0,none⟩,F1 0),(⟨w.heap.size + 1,1,none⟩,F1 0),(⟨w.heap.size + 1,2,none⟩,F1 0),(⟨w.heap.size + 1,3,none⟩,F1 0),(⟨w.heap.size + 1,4,none⟩,F1 0),(⟨w.heap.size + 1,5,none⟩,F1 0)] [⟨w.heap.size,0,none⟩,⟨w.heap.size,1,none⟩,⟨w.heap.size,2,none⟩,⟨w.heap.size,3,none⟩,⟨w.heap.size,4,none⟩,⟨w.heap.size,5,none⟩,⟨w.heap.size + 1,0,none⟩,⟨w.heap.size + 1,1,none⟩,⟨w.heap.size + 1,2,none⟩,⟨w.heap.size + 1,3,none⟩,⟨w.heap.size + 1,4,none⟩,⟨w.heap.size + 1,5,none⟩] W1:=by
  subst hW;simp only [Kept,ka,kb,kc,kd,ke,kf,kg];(first | (go_simp;done) | (simp [World.cell?,World.frozen?,World.alloc,Array.getElem?_push];done))
 clear hW
 have hkept:=kept_app (keep hN W1b) hkept
 have hK:=hkept;simp only [Kept,ka,kb,kc,kd,ke,kf,kg] at hK
 have hb1:b < W1.heap.size:=Nat.lt_of_lt_of_le hb W1b.size
 go_upto_region 19 with (first | (refine wp_bin rfl _ _ _ _ _ rfl _ _ _ rfl rfl rfl ?_;intro r n hr) | (go_at_call 189;refine (s_sine_any _ _).mono ?_;rintro _ w2 ⟨r1,rfl,hr1,hb1⟩;have W1b:=below_step (by first | exact W1b | exact below_drewN W1b _) hb1;have hkept:=keepT hkept hb1 rfl;clear hK;have hK:=hkept;simp only [Kept,ka,kb,kc,kd,ke,kf,kg] at hK))
 have hsa:=‹cn .f32 _ = sineF (cn .f32 r)›
 revert r1;intro sb hsb
 go_upto_region 20 with (go_at_call 190;refine (s_rpick2 (x0:=z0) (x1:=z1) (by simp only [Kept,ka,kb,kc,kd,ke,kf,kg];simp [hK])).mono ?_;rintro _ w3 ⟨rfl,hb1⟩;have W3b:=below_step W1b hb1;have hkept:=keepT hkept hb1 rfl;clear hK;have hK:=hkept;simp only [Kept,ka,kb,kc,kd,ke,kf,kg] at hK)
 have hbA:Below w3.heap.size w3 (w3.alloc (.cells #[F1 z0,F1 z1] 118)):=(Below.refl _ _).alloc (Nat.le_refl _) _
 have hltgi:w.heap.size < w3.heap.size:=some_lt (a:=⟨w.heap.size,0,none⟩) (by simp [hK])
 have hkept:=kept_app (keep hkept hbA) (show Kept [(⟨w3.heap.size,0,none⟩,F1 z0),(⟨w3.heap.size,1,none⟩,F1 z1)] [] (w3.alloc (.cells #[F1 z0,F1 z1] 118)) by simp only [Kept,ka,kb,kc,kd,ke,kf,kg];simp)
 have W4b:=below_step W3b hbA
 clear hK hbA
 generalize w3.alloc (.cells #[F1 z0,F1 z1] 118) = W4 at *
 obtain ⟨gi,hgi,hlggi⟩:∃ gi,gi = w3.heap.size ∧ w.heap.size < gi:=⟨_,rfl,hltgi⟩
 rw [← hgi] at hkept ⊢
 clear hgi hb1 hltgi
 have hgin:gi ≠ w.heap.size:=by omega
 have hgim:w.heap.size ≠ gi:=by omega
 have hK:=hkept;simp only [Kept,ka,kb,kc,kd,ke,kf,kg] at hK
 go_upto_region 21 with (go_at_call 190;refine (s_rpick0 (x0:=x0) (x1:=x1) (by simp only [Kept,ka,kb,kc,kd,ke,kf,kg];simp [hK])).mono ?_;rintro _ w5 ⟨rfl,hb1⟩;have W5b:=below_step W4b hb1;have hkept:=keepT hkept hb1 rfl;clear hK;have hK:=hkept;simp only [Kept,ka,kb,kc,kd,ke,kf,kg] at hK)
 have hbA:Below w5.heap.size w5 (w5.alloc (.cells #[F1 x0,F1 x1] 118)):=(Below.refl _ _).alloc (Nat.le_refl _) _
 have hltgj:w.heap.size < w5.heap.size:=some_lt (a:=⟨w.heap.size,0,none⟩) (by simp [hK])
 have hkept:=kept_app (keep hkept hbA) (show Kept [(⟨w5.heap.size,0,none⟩,F1 x0),(⟨w5.heap.size,1,none⟩,F1 x1)] [] (w5.alloc (.cells #[F1 x0,F1 x1] 118)) by simp only [Kept,ka,kb,kc,kd,ke,kf,kg];simp)
 have W6b:=below_step W5b hbA
 clear hK hbA
 generalize w5.alloc (.cells #[F1 x0,F1 x1] 118) = W6 at *
 obtain ⟨gj,hgj,hlggj⟩:∃ gj,gj = w5.heap.size ∧ w.heap.size < gj:=⟨_,rfl,hltgj⟩
 rw [← hgj] at hkept ⊢
 clear hgj hb1 hltgj
 have hgjn:gj ≠ w.heap.size:=by omega
 have hgjm:w.heap.size ≠ gj:=by omega
 have hK:=hkept;simp only [Kept,ka,kb,kc,kd,ke,kf,kg] at hK
 refine Qr.wp_below 8 (by kernel_rfl) (by kernel_rfl) PhiTs ?_
 repeat (first | (refine Qr.walk_plain rfl fun K hK => ?_;refine one_bin _ _ _ _ _ rfl _ _ _ rfl rfl rfl (fun r hr => ?_);go_simp;refine hK _ ?_;clear hK K) | (refine Qr.walk_plain rfl fun K hK => ?_;apply Qr.one_det;(focus (intro w' hw';have HK:=keep hkept hw';simp only [Kept,ka,kb,kc,kd,ke,kf,kg] at HK;go_simp;first | done | rfl));go_simp;refine hK _ ?_;clear hK K) | (refine Qr.walk_plain rfl fun K hK => ?_;apply Qr.one_call;(focus (intro w' hw';go_simp;first | done | exact ⟨rfl,rfl⟩));(focus (intro w' hw'; go_at_call 187;refine (s_rless_any _ _ _ _ _).mono ?_;rintro _ w2 ⟨l1,u1,rfl,hr1,hb1⟩ ;exact ⟨_,rfl,by constructor <;> assumption,below_step hw' (by assumption),by assumption⟩));intro v hv;cases hv;go_simp;refine hK _ ?_;clear hK K) | (refine Qr.walk_plain rfl fun K hK => ?_;apply Qr.one_call;(focus (intro w' hw';go_simp;first | done | exact ⟨rfl,rfl⟩));(focus (intro w' hw'; go_at_call 188;refine (s_one_any _ _).mono ?_;rintro _ w2 ⟨l1,u1,rfl,hr1,hb1⟩ ;exact ⟨_,rfl,by constructor <;> assumption,below_step hw' (by assumption),by assumption⟩));intro v hv;cases hv;go_simp;refine hK _ ?_;clear hK K) | (refine Qr.walk_plain rfl fun K hK => ?_;apply Qr.one_call;(focus (intro w' hw';go_simp;first | done | exact ⟨rfl,rfl⟩));(focus (intro w' hw'; go_at_call 193;refine (s_times_any _ _ _ _).mono ?_;rintro _ w2 ⟨l1,u1,rfl,hr1,hb1⟩ ;exact ⟨_,rfl,by constructor <;> assumption,below_step hw' (by assumption),by assumption⟩));intro v hv;cases hv;go_simp;refine hK _ ?_;clear hK K) | (refine Qr.walk_plain rfl fun K hK => ?_;apply Qr.one_call;(focus (intro w' hw';go_simp;first | done | exact ⟨rfl,rfl⟩));(focus (intro w' hw'; go_at_call 192;refine (s_radd_any _ _ _ _ _).mono ?_;rintro _ w2 ⟨l1,u1,rfl,hr1,hb1⟩ ;exact ⟨_,rfl,by constructor <;> assumption,below_step hw' (by assumption),by assumption⟩));intro v hv;cases hv;go_simp;refine hK _ ?_;clear hK K))
 rename_i l1 u1 e1 l2 u2 e2 l3 u3 e3
 refine Qr.walk_nil fun w7 hw7 => ?_
 have hkept:=keep hkept hw7
 have W7b:=below_step W6b hw7
 clear hK
 have hK:=hkept
 simp only [Kept,ka,kb,kc,kd,ke,kf,kg] at hK
 have ht1:(cn .f32 l3,cn .f32 u3) = tuR1 (cn .f32 r0) (cn .f32 z0,cn .f32 z1) (cn .f32 x0,cn .f32 x1):=by rw [e3,e1,e2,hsb,hsa,hr,cn_c6];rfl
 clear e1 e2 e3
 go_upto_region 22 with (go_at_call 191;refine (s_rset2 (x0:=z0) (x1:=z1) (by simp only [Kept,ka,kb,kc,kd,ke,kf,kg];simp [hK])).mono ?_;rintro _ w3 ⟨rfl,w8,hb8,rfl⟩)
 have hkept:=keep hkept hb8
 have W8b:=below_step W7b hb8
 clear hK
 have hK:=hkept
 simp only [Kept,ka,kb,kc,kd,ke,kf,kg] at hK
 have W9b:=(W8b.setCell (p:=⟨w.heap.size,4,none⟩) (Nat.le_refl _) (F1 l3)).setCell (p:=⟨w.heap.size,5,none⟩) (Nat.le_refl _) (F1 u3)
 have hset:Kept [(⟨w.heap.size,0,none⟩,F1 x0),(⟨w.heap.size,1,none⟩,F1 x1),(⟨w.heap.size,2,none⟩,F1 y0),(⟨w.heap.size,3,none⟩,F1 y1),(⟨w.heap.size,4,none⟩,F1 l3),(⟨w.heap.size,5,none⟩,F1 u3),(⟨w.heap.size + 1,0,none⟩,F1 0),(⟨w.heap.size + 1,1,none⟩,F1 0),(⟨w.heap.size + 1,2,none⟩,F1 0),(⟨w.heap.size + 1,3,none⟩,F1 0),(⟨w.heap.size + 1,4,none⟩,F1 0),(⟨w.heap.size + 1,5,none⟩,F1 0),(⟨gi,0,none⟩,F1 z0),(⟨gi,1,none⟩,F1 z1),(⟨gj,0,none⟩,F1 x0),(⟨gj,1,none⟩,F1 x1)] [⟨w.heap.size,0,none⟩,⟨w.heap.size,1,none⟩,⟨w.heap.size,2,none⟩,⟨w.heap.size,3,none⟩,⟨w.heap.size,4,none⟩,⟨w.heap.size,5,none⟩,⟨w.heap.size + 1,0,none⟩,⟨w.heap.size + 1,1,none⟩,⟨w.heap.size + 1,2,none⟩,⟨w.heap.size + 1,3,none⟩,⟨w.heap.size + 1,4,none⟩,⟨w.heap.size + 1,5,none⟩] ((w8.setCell ⟨w.heap.size,4,none⟩ (F1 l3)).setCell ⟨w.heap.size,5,none⟩ (F1 u3)):=by simp only [Kept,ka,kb,kc,kd,ke,kf,kg];simp [hK,hgin,hgim,hgjn,hgjm,go_sem,World.cell?_setCell_other,World.cell?_setCell_same',World.frozen?_setCell]
 have hkept:=kept_app (keep hN W9b) hset
 clear hK hset
 generalize ((w8.setCell ⟨w.heap.size,4,none⟩ (F1 l3)).setCell ⟨w.heap.size,5,none⟩ (F1 u3)) = W9 at *
 have hK:=hkept;simp only [Kept,ka,kb,kc,kd,ke,kf,kg] at hK
 refine Qr.wp_below 8 (by kernel_rfl) (by kernel_rfl) PhiTs ?_
 repeat (first | (refine Qr.walk_plain rfl fun K hK => ?_;refine one_bin _ _ _ _ _ rfl _ _ _ rfl rfl rfl (fun r hr => ?_);go_simp;refine hK _ ?_;clear hK K) | (refine Qr.walk_plain rfl fun K hK => ?_;apply Qr.one_det;(focus (intro w' hw';have HK:=keep hkept hw';simp only [Kept,ka,kb,kc,kd,ke,kf,kg] at HK;go_simp;first | done | rfl));go_simp;refine hK _ ?_;clear hK K) | (refine Qr.walk_plain rfl fun K hK => ?_;apply Qr.one_call;(focus (intro w' hw';go_simp;first | done | exact ⟨rfl,rfl⟩));(focus (intro w' hw'; go_at_call 187;refine (s_rless_any _ _ _ _ _).mono ?_;rintro _ w2 ⟨l1,u1,rfl,hr1,hb1⟩ ;exact ⟨_,rfl,by constructor <;> assumption,below_step hw' (by assumption),by assumption⟩));intro v hv;cases hv;go_simp;refine hK _ ?_;clear hK K) | (refine Qr.walk_plain rfl fun K hK => ?_;apply Qr.one_call;(focus (intro w' hw';go_simp;first | done | exact ⟨rfl,rfl⟩));(focus (intro w' hw'; go_at_call 188;refine (s_one_any _ _).mono ?_;rintro _ w2 ⟨l1,u1,rfl,hr1,hb1⟩ ;exact ⟨_,rfl,by constructor <;> assumption,below_step hw' (by assumption),by assumption⟩));intro v hv;cases hv;go_simp;refine hK _ ?_;clear hK K) | (refine Qr.walk_plain rfl fun K hK => ?_;apply Qr.one_call;(focus (intro w' hw';go_simp;first | done | exact ⟨rfl,rfl⟩));(focus (intro w' hw'; go_at_call 193;refine (s_times_any _ _ _ _).mono ?_;rintro _ w2 ⟨l1,u1,rfl,hr1,hb1⟩ ;exact ⟨_,rfl,by constructor <;> assumption,below_step hw' (by assumption),by assumption⟩));intro v hv;cases hv;go_simp;refine hK _ ?_;clear hK K) | (refine Qr.walk_plain rfl fun K hK => ?_;apply Qr.one_call;(focus (intro w' hw';go_simp;first | done | exact ⟨rfl,rfl⟩));(focus (intro w' hw'; go_at_call 192;refine (s_radd_any _ _ _ _ _).mono ?_;rintro _ w2 ⟨l1,u1,rfl,hr1,hb1⟩ ;exact ⟨_,rfl,by constructor <;> assumption,below_step hw' (by assumption),by assumption⟩));intro v hv;cases hv;go_simp;refine hK _ ?_;clear hK K))
 rename_i l4 u4 e4 l5 u5 e5 l6 u6 e6
 refine Qr.walk_nil fun w10 hw10 => ?_
 have hkept:=keep hkept hw10
 have W10b:=below_step W9b hw10
 clear hK
 have hK:=hkept
 simp only [Kept,ka,kb,kc,kd,ke,kf,kg] at hK
 have ht2:(cn .f32 l6,cn .f32 u6) = tuR2 (cn .f32 r0) (cn .f32 z0,cn .f32 z1) (cn .f32 x0,cn .f32 x1):=by rw [e6,e4,e5,hsb,hsa,hr,cn_c6];rfl
 clear e4 e5 e6
 go_upto_region 27 with (go_at_call 191;refine (s_rset0 (x0:=x0) (x1:=x1) (by simp only [Kept,ka,kb,kc,kd,ke,kf,kg];simp [hK])).mono ?_;rintro _ w3 ⟨rfl,w11,hb11,rfl⟩)
 have hkept:=keep hkept hb11
 have W11b:=below_step W10b hb11
 clear hK
 have hK:=hkept
 simp only [Kept,ka,kb,kc,kd,ke,kf,kg] at hK
 have W12b:=(W11b.setCell (p:=⟨w.heap.size,0,none⟩) (Nat.le_refl _) (F1 l6)).setCell (p:=⟨w.heap.size,1,none⟩) (Nat.le_refl _) (F1 u6)
 have hset:Kept [(⟨w.heap.size,0,none⟩,F1 l6),(⟨w.heap.size,1,none⟩,F1 u6),(⟨w.heap.size,2,none⟩,F1 y0),(⟨w.heap.size,3,none⟩,F1 y1),(⟨w.heap.size,4,none⟩,F1 l3),(⟨w.heap.size,5,none⟩,F1 u3),(⟨w.heap.size + 1,0,none⟩,F1 0),(⟨w.heap.size + 1,1,none⟩,F1 0),(⟨w.heap.size + 1,2,none⟩,F1 0),(⟨w.heap.size + 1,3,none⟩,F1 0),(⟨w.heap.size + 1,4,none⟩,F1 0),(⟨w.heap.size + 1,5,none⟩,F1 0)] [⟨w.heap.size,0,none⟩,⟨w.heap.size,1,none⟩,⟨w.heap.size,2,none⟩,⟨w.heap.size,3,none⟩,⟨w.heap.size,4,none⟩,⟨w.heap.size,5,none⟩,⟨w.heap.size + 1,0,none⟩,⟨w.heap.size + 1,1,none⟩,⟨w.heap.size + 1,2,none⟩,⟨w.heap.size + 1,3,none⟩,⟨w.heap.size + 1,4,none⟩,⟨w.heap.size + 1,5,none⟩] ((w11.setCell ⟨w.heap.size,0,none⟩ (F1 l6)).setCell ⟨w.heap.size,1,none⟩ (F1 u6)):=by simp only [Kept,ka,kb,kc,kd,ke,kf,kg];simp [hK,go_sem,World.cell?_setCell_other,World.cell?_setCell_same',World.frozen?_setCell]
 have hkept:=kept_app (keep hN W12b) hset
 clear hK hset
 generalize ((w11.setCell ⟨w.heap.size,0,none⟩ (F1 l6)).setCell ⟨w.heap.size,1,none⟩ (F1 u6)) = W12 at *
 have hK:=hkept;simp only [Kept,ka,kb,kc,kd,ke,kf,kg] at hK
 go_wp2_with fail
 exact bodyPost_ret (v:=Rg3 l6 u6 y0 y1 l3 u3) (by simp [results,Tryz.results122,go_sem,hK,World.cell?_setCell_other,World.cell?_setCell_same'];first | done | exact ⟨rfl,rfl,rfl,rfl,rfl,rfl⟩) rfl ⟨_,_,_,_,_,_,rfl,ht2,rfl,ht1,bel6 W12b (by omega) ..⟩

set_option maxRecDepth 100000 in
set_option maxHeartbeats 2000000 in
theorem under_turn2 {b o bv ov cap r0 x0 x1 y0 y1 z0 z1:Nat} {bp:Option Addr} {w:World} (hN:Kept [(⟨b,o,none⟩,.int .i64 12),(⟨b,o + 2,none⟩,.int .i64 2),(⟨b,o + 3,none⟩,.slice (some ⟨bv,ov,none⟩) 1 cap),(⟨bv,ov,none⟩,F1 r0)] [] w) :
  Calls Tryz.prog 122 #[.pointer (some ⟨b,o,none⟩),Rg3 x0 x1 y0 y1 z0 z1] w (RetPl (tuR1 (cn .f32 r0) (cn .f32 x0,cn .f32 x1) (cn .f32 y0,cn .f32 y1),tuR2 (cn .f32 r0) (cn .f32 x0,cn .f32 x1) (cn .f32 y0,cn .f32 y1),(cn .f32 z0,cn .f32 z1)) w):=by
 have hK:=hN
 simp only [Kept,ka,kb,kc,kd,ke,kf,kg] at hK
 have hb:b < w.heap.size:=some_lt (a:=⟨b,o,none⟩) (by first | (rw [hK.1];rfl) | (rw [hK];rfl))
 go_enter Tryz.func122,Tryz.ntmps122
 go_upto_region 1 with fail
 clear hK
 generalize hW:(w.alloc (.cells #[F1 x0,F1 x1,F1 y0,F1 y1,F1 z0,F1 z1] 180)).alloc (.cells #[F1 0,F1 0,F1 0,F1 0,F1 0,F1 0] 180) = W1 at *
 have W1b:Below w.heap.size w W1:=by subst hW;exact (by repeat' (first | exact Below.refl _ _ | exact Nat.le_refl _ | refine below_drewN ?_ _ | refine Below.alloc ?_ (by simp <;> omega) _ | refine Below.setCell ?_ (by simp <;> omega) _ | refine below_step ?_ (by assumption)))
 have hkept:Kept [(⟨w.heap.size,0,none⟩,F1 x0),(⟨w.heap.size,1,none⟩,F1 x1),(⟨w.heap.size,2,none⟩,F1 y0),(⟨w.heap.size,3,none⟩,F1 y1),(⟨w.heap.size,4,none⟩,F1 z0),(⟨w.heap.size,5,none⟩,F1 z1),(⟨w.heap.size + 1,0,none⟩,F1 0),(⟨w.heap.size + 1,1,none⟩,F1 0),(⟨w.heap.size + 1,2,none⟩,F1 0),(⟨w.heap.size + 1,3,none⟩,F1 0),(⟨w.heap.size + 1,4,none⟩,F1 0),(⟨w.heap.size + 1,5,none⟩,F1 0)] [⟨w.heap.size,0,none⟩,⟨w.heap.size,1,none⟩,⟨w.heap.size,2,none⟩,⟨w.heap.size,3,none⟩,⟨w.heap.size,4,none⟩,⟨w.heap.size,5,none⟩,⟨w.heap.size + 1,0,none⟩,⟨w.heap.size + 1,1,none⟩,⟨w.heap.size + 1,2,none⟩,⟨w.heap.size + 1,3,none⟩,⟨w.heap.size + 1,4,none⟩,⟨w.heap.size + 1,5,none⟩] W1:=by
  subst hW;simp only [Kept,ka,kb,kc,kd,ke,kf,kg];(first | (go_simp;done) | (simp [World.cell?,World.frozen?,World.alloc,Array.getElem?_push];done))
 clear hW
 have hkept:=kept_app (keep hN W1b) hkept
 have hK:=hkept;simp only [Kept,ka,kb,kc,kd,ke,kf,kg] at hK
 have hb1:b < W1.heap.size:=Nat.lt_of_lt_of_le hb W1b.size
 go_upto_region 19 with (first | (refine wp_bin rfl _ _ _ _ _ rfl _ _ _ rfl rfl rfl ?_;intro r n hr) | (go_at_call 189;refine (s_sine_any _ _).mono ?_;rintro _ w2 ⟨r1,rfl,hr1,hb1⟩;have W1b:=below_step (by first | exact W1b | exact below_drewN W1b _) hb1;have hkept:=keepT hkept hb1 rfl;clear hK;have hK:=hkept;simp only [Kept,ka,kb,kc,kd,ke,kf,kg] at hK))
 have hsa:=‹cn .f32 _ = sineF (cn .f32 r)›
 revert r1;intro sb hsb
 go_upto_region 20 with (go_at_call 190;refine (s_rpick0 (x0:=x0) (x1:=x1) (by simp only [Kept,ka,kb,kc,kd,ke,kf,kg];simp [hK])).mono ?_;rintro _ w3 ⟨rfl,hb1⟩;have W3b:=below_step W1b hb1;have hkept:=keepT hkept hb1 rfl;clear hK;have hK:=hkept;simp only [Kept,ka,kb,kc,kd,ke,kf,kg] at hK)
 have hbA:Below w3.heap.size w3 (w3.alloc (.cells #[F1 x0,F1 x1] 118)):=(Below.refl _ _).alloc (Nat.le_refl _) _
 have hltgi:w.heap.size < w3.heap.size:=some_lt (a:=⟨w.heap.size,0,none⟩) (by simp [hK])
 have hkept:=kept_app (keep hkept hbA) (show Kept [(⟨w3.heap.size,0,none⟩,F1 x0),(⟨w3.heap.size,1,none⟩,F1 x1)] [] (w3.alloc (.cells #[F1 x0,F1 x1] 118)) by simp only [Kept,ka,kb,kc,kd,ke,kf,kg];simp)
 have W4b:=below_step W3b hbA
 clear hK hbA
 generalize w3.alloc (.cells #[F1 x0,F1 x1] 118) = W4 at *
 obtain ⟨gi,hgi,hlggi⟩:∃ gi,gi = w3.heap.size ∧ w.heap.size < gi:=⟨_,rfl,hltgi⟩
 rw [← hgi] at hkept ⊢
 clear hgi hb1 hltgi
 have hgin:gi ≠ w.heap.size:=by omega
 have hgim:w.heap.size ≠ gi:=by omega
 have hK:=hkept;simp only [Kept,ka,kb,kc,kd,ke,kf,kg] at hK
 go_upto_region 21 with (go_at_call 190;refine (s_rpick1 (x0:=y0) (x1:=y1) (by simp only [Kept,ka,kb,kc,kd,ke,kf,kg];simp [hK])).mono ?_;rintro _ w5 ⟨rfl,hb1⟩;have W5b:=below_step W4b hb1;have hkept:=keepT hkept hb1 rfl;clear hK;have hK:=hkept;simp only [Kept,ka,kb,kc,kd,ke,kf,kg] at hK)
 have hbA:Below w5.heap.size w5 (w5.alloc (.cells #[F1 y0,F1 y1] 118)):=(Below.refl _ _).alloc (Nat.le_refl _) _
 have hltgj:w.heap.size < w5.heap.size:=some_lt (a:=⟨w.heap.size,0,none⟩) (by simp [hK])
 have hkept:=kept_app (keep hkept hbA) (show Kept [(⟨w5.heap.size,0,none⟩,F1 y0),(⟨w5.heap.size,1,none⟩,F1 y1)] [] (w5.alloc (.cells #[F1 y0,F1 y1] 118)) by simp only [Kept,ka,kb,kc,kd,ke,kf,kg];simp)
 have W6b:=below_step W5b hbA
 clear hK hbA
 generalize w5.alloc (.cells #[F1 y0,F1 y1] 118) = W6 at *
 obtain ⟨gj,hgj,hlggj⟩:∃ gj,gj = w5.heap.size ∧ w.heap.size < gj:=⟨_,rfl,hltgj⟩
 rw [← hgj] at hkept ⊢
 clear hgj hb1 hltgj
 have hgjn:gj ≠ w.heap.size:=by omega
 have hgjm:w.heap.size ≠ gj:=by omega
 have hK:=hkept;simp only [Kept,ka,kb,kc,kd,ke,kf,kg] at hK
 refine Qr.wp_below 8 (by kernel_rfl) (by kernel_rfl) PhiTs ?_
 repeat (first | (refine Qr.walk_plain rfl fun K hK => ?_;refine one_bin _ _ _ _ _ rfl _ _ _ rfl rfl rfl (fun r hr => ?_);go_simp;refine hK _ ?_;clear hK K) | (refine Qr.walk_plain rfl fun K hK => ?_;apply Qr.one_det;(focus (intro w' hw';have HK:=keep hkept hw';simp only [Kept,ka,kb,kc,kd,ke,kf,kg] at HK;go_simp;first | done | rfl));go_simp;refine hK _ ?_;clear hK K) | (refine Qr.walk_plain rfl fun K hK => ?_;apply Qr.one_call;(focus (intro w' hw';go_simp;first | done | exact ⟨rfl,rfl⟩));(focus (intro w' hw'; go_at_call 187;refine (s_rless_any _ _ _ _ _).mono ?_;rintro _ w2 ⟨l1,u1,rfl,hr1,hb1⟩ ;exact ⟨_,rfl,by constructor <;> assumption,below_step hw' (by assumption),by assumption⟩));intro v hv;cases hv;go_simp;refine hK _ ?_;clear hK K) | (refine Qr.walk_plain rfl fun K hK => ?_;apply Qr.one_call;(focus (intro w' hw';go_simp;first | done | exact ⟨rfl,rfl⟩));(focus (intro w' hw'; go_at_call 188;refine (s_one_any _ _).mono ?_;rintro _ w2 ⟨l1,u1,rfl,hr1,hb1⟩ ;exact ⟨_,rfl,by constructor <;> assumption,below_step hw' (by assumption),by assumption⟩));intro v hv;cases hv;go_simp;refine hK _ ?_;clear hK K) | (refine Qr.walk_plain rfl fun K hK => ?_;apply Qr.one_call;(focus (intro w' hw';go_simp;first | done | exact ⟨rfl,rfl⟩));(focus (intro w' hw'; go_at_call 193;refine (s_times_any _ _ _ _).mono ?_;rintro _ w2 ⟨l1,u1,rfl,hr1,hb1⟩ ;exact ⟨_,rfl,by constructor <;> assumption,below_step hw' (by assumption),by assumption⟩));intro v hv;cases hv;go_simp;refine hK _ ?_;clear hK K) | (refine Qr.walk_plain rfl fun K hK => ?_;apply Qr.one_call;(focus (intro w' hw';go_simp;first | done | exact ⟨rfl,rfl⟩));(focus (intro w' hw'; go_at_call 192;refine (s_radd_any _ _ _ _ _).mono ?_;rintro _ w2 ⟨l1,u1,rfl,hr1,hb1⟩ ;exact ⟨_,rfl,by constructor <;> assumption,below_step hw' (by assumption),by assumption⟩));intro v hv;cases hv;go_simp;refine hK _ ?_;clear hK K))
 rename_i l1 u1 e1 l2 u2 e2 l3 u3 e3
 refine Qr.walk_nil fun w7 hw7 => ?_
 have hkept:=keep hkept hw7
 have W7b:=below_step W6b hw7
 clear hK
 have hK:=hkept
 simp only [Kept,ka,kb,kc,kd,ke,kf,kg] at hK
 have ht1:(cn .f32 l3,cn .f32 u3) = tuR1 (cn .f32 r0) (cn .f32 x0,cn .f32 x1) (cn .f32 y0,cn .f32 y1):=by rw [e3,e1,e2,hsb,hsa,hr,cn_c6];rfl
 clear e1 e2 e3
 go_upto_region 22 with (go_at_call 191;refine (s_rset0 (x0:=x0) (x1:=x1) (by simp only [Kept,ka,kb,kc,kd,ke,kf,kg];simp [hK])).mono ?_;rintro _ w3 ⟨rfl,w8,hb8,rfl⟩)
 have hkept:=keep hkept hb8
 have W8b:=below_step W7b hb8
 clear hK
 have hK:=hkept
 simp only [Kept,ka,kb,kc,kd,ke,kf,kg] at hK
 have W9b:=(W8b.setCell (p:=⟨w.heap.size,0,none⟩) (Nat.le_refl _) (F1 l3)).setCell (p:=⟨w.heap.size,1,none⟩) (Nat.le_refl _) (F1 u3)
 have hset:Kept [(⟨w.heap.size,0,none⟩,F1 l3),(⟨w.heap.size,1,none⟩,F1 u3),(⟨w.heap.size,2,none⟩,F1 y0),(⟨w.heap.size,3,none⟩,F1 y1),(⟨w.heap.size,4,none⟩,F1 z0),(⟨w.heap.size,5,none⟩,F1 z1),(⟨w.heap.size + 1,0,none⟩,F1 0),(⟨w.heap.size + 1,1,none⟩,F1 0),(⟨w.heap.size + 1,2,none⟩,F1 0),(⟨w.heap.size + 1,3,none⟩,F1 0),(⟨w.heap.size + 1,4,none⟩,F1 0),(⟨w.heap.size + 1,5,none⟩,F1 0),(⟨gi,0,none⟩,F1 x0),(⟨gi,1,none⟩,F1 x1),(⟨gj,0,none⟩,F1 y0),(⟨gj,1,none⟩,F1 y1)] [⟨w.heap.size,0,none⟩,⟨w.heap.size,1,none⟩,⟨w.heap.size,2,none⟩,⟨w.heap.size,3,none⟩,⟨w.heap.size,4,none⟩,⟨w.heap.size,5,none⟩,⟨w.heap.size + 1,0,none⟩,⟨w.heap.size + 1,1,none⟩,⟨w.heap.size + 1,2,none⟩,⟨w.heap.size + 1,3,none⟩,⟨w.heap.size + 1,4,none⟩,⟨w.heap.size + 1,5,none⟩] ((w8.setCell ⟨w.heap.size,0,none⟩ (F1 l3)).setCell ⟨w.heap.size,1,none⟩ (F1 u3)):=by simp only [Kept,ka,kb,kc,kd,ke,kf,kg];simp [hK,hgin,hgim,hgjn,hgjm,go_sem,World.cell?_setCell_other,World.cell?_setCell_same',World.frozen?_setCell]
 have hkept:=kept_app (keep hN W9b) hset
 clear hK hset
 generalize ((w8.setCell ⟨w.heap.size,0,none⟩ (F1 l3)).setCell ⟨w.heap.size,1,none⟩ (F1 u3)) = W9 at *
 have hK:=hkept;simp only [Kept,ka,kb,kc,kd,ke,kf,kg] at hK
 refine Qr.wp_below 8 (by kernel_rfl) (by kernel_rfl) PhiTs ?_
 repeat (first | (refine Qr.walk_plain rfl fun K hK => ?_;refine one_bin _ _ _ _ _ rfl _ _ _ rfl rfl rfl (fun r hr => ?_);go_simp;refine hK _ ?_;clear hK K) | (refine Qr.walk_plain rfl fun K hK => ?_;apply Qr.one_det;(focus (intro w' hw';have HK:=keep hkept hw';simp only [Kept,ka,kb,kc,kd,ke,kf,kg] at HK;go_simp;first | done | rfl));go_simp;refine hK _ ?_;clear hK K) | (refine Qr.walk_plain rfl fun K hK => ?_;apply Qr.one_call;(focus (intro w' hw';go_simp;first | done | exact ⟨rfl,rfl⟩));(focus (intro w' hw'; go_at_call 187;refine (s_rless_any _ _ _ _ _).mono ?_;rintro _ w2 ⟨l1,u1,rfl,hr1,hb1⟩ ;exact ⟨_,rfl,by constructor <;> assumption,below_step hw' (by assumption),by assumption⟩));intro v hv;cases hv;go_simp;refine hK _ ?_;clear hK K) | (refine Qr.walk_plain rfl fun K hK => ?_;apply Qr.one_call;(focus (intro w' hw';go_simp;first | done | exact ⟨rfl,rfl⟩));(focus (intro w' hw'; go_at_call 188;refine (s_one_any _ _).mono ?_;rintro _ w2 ⟨l1,u1,rfl,hr1,hb1⟩ ;exact ⟨_,rfl,by constructor <;> assumption,below_step hw' (by assumption),by assumption⟩));intro v hv;cases hv;go_simp;refine hK _ ?_;clear hK K) | (refine Qr.walk_plain rfl fun K hK => ?_;apply Qr.one_call;(focus (intro w' hw';go_simp;first | done | exact ⟨rfl,rfl⟩));(focus (intro w' hw'; go_at_call 193;refine (s_times_any _ _ _ _).mono ?_;rintro _ w2 ⟨l1,u1,rfl,hr1,hb1⟩ ;exact ⟨_,rfl,by constructor <;> assumption,below_step hw' (by assumption),by assumption⟩));intro v hv;cases hv;go_simp;refine hK _ ?_;clear hK K) | (refine Qr.walk_plain rfl fun K hK => ?_;apply Qr.one_call;(focus (intro w' hw';go_simp;first | done | exact ⟨rfl,rfl⟩));(focus (intro w' hw'; go_at_call 192;refine (s_radd_any _ _ _ _ _).mono ?_;rintro _ w2 ⟨l1,u1,rfl,hr1,hb1⟩ ;exact ⟨_,rfl,by constructor <;> assumption,below_step hw' (by assumption),by assumption⟩));intro v hv;cases hv;go_simp;refine hK _ ?_;clear hK K))
 rename_i l4 u4 e4 l5 u5 e5 l6 u6 e6
 refine Qr.walk_nil fun w10 hw10 => ?_
 have hkept:=keep hkept hw10
 have W10b:=below_step W9b hw10
 clear hK
 have hK:=hkept
 simp only [Kept,ka,kb,kc,kd,ke,kf,kg] at hK
 have ht2:(cn .f32 l6,cn .f32 u6) = tuR2 (cn .f32 r0) (cn .f32 x0,cn .f32 x1) (cn .f32 y0,cn .f32 y1):=by rw [e6,e4,e5,hsb,hsa,hr,cn_c6];rfl
 clear e4 e5 e6
 go_upto_region 27 with (go_at_call 191;refine (s_rset1 (x0:=y0) (x1:=y1) (by simp only [Kept,ka,kb,kc,kd,ke,kf,kg];simp [hK])).mono ?_;rintro _ w3 ⟨rfl,w11,hb11,rfl⟩)
 have hkept:=keep hkept hb11
 have W11b:=below_step W10b hb11
 clear hK
 have hK:=hkept
 simp only [Kept,ka,kb,kc,kd,ke,kf,kg] at hK
 have W12b:=(W11b.setCell (p:=⟨w.heap.size,2,none⟩) (Nat.le_refl _) (F1 l6)).setCell (p:=⟨w.heap.size,3,none⟩) (Nat.le_refl _) (F1 u6)
 have hset:Kept [(⟨w.heap.size,0,none⟩,F1 l3),(⟨w.heap.size,1,none⟩,F1 u3),(⟨w.heap.size,2,none⟩,F1 l6),(⟨w.heap.size,3,none⟩,F1 u6),(⟨w.heap.size,4,none⟩,F1 z0),(⟨w.heap.size,5,none⟩,F1 z1),(⟨w.heap.size + 1,0,none⟩,F1 0),(⟨w.heap.size + 1,1,none⟩,F1 0),(⟨w.heap.size + 1,2,none⟩,F1 0),(⟨w.heap.size + 1,3,none⟩,F1 0),(⟨w.heap.size + 1,4,none⟩,F1 0),(⟨w.heap.size + 1,5,none⟩,F1 0)] [⟨w.heap.size,0,none⟩,⟨w.heap.size,1,none⟩,⟨w.heap.size,2,none⟩,⟨w.heap.size,3,none⟩,⟨w.heap.size,4,none⟩,⟨w.heap.size,5,none⟩,⟨w.heap.size + 1,0,none⟩,⟨w.heap.size + 1,1,none⟩,⟨w.heap.size + 1,2,none⟩,⟨w.heap.size + 1,3,none⟩,⟨w.heap.size + 1,4,none⟩,⟨w.heap.size + 1,5,none⟩] ((w11.setCell ⟨w.heap.size,2,none⟩ (F1 l6)).setCell ⟨w.heap.size,3,none⟩ (F1 u6)):=by simp only [Kept,ka,kb,kc,kd,ke,kf,kg];simp [hK,go_sem,World.cell?_setCell_other,World.cell?_setCell_same',World.frozen?_setCell]
 have hkept:=kept_app (keep hN W12b) hset
 clear hK hset
 generalize ((w11.setCell ⟨w.heap.size,2,none⟩ (F1 l6)).setCell ⟨w.heap.size,3,none⟩ (F1 u6)) = W12 at *
 have hK:=hkept;simp only [Kept,ka,kb,kc,kd,ke,kf,kg] at hK
 go_wp2_with fail
 exact bodyPost_ret (v:=Rg3 l3 u3 l6 u6 z0 z1) (by simp [results,Tryz.results122,go_sem,hK,World.cell?_setCell_other,World.cell?_setCell_same'];first | done | exact ⟨rfl,rfl,rfl,rfl,rfl,rfl⟩) rfl ⟨_,_,_,_,_,_,rfl,ht1,ht2,rfl,bel6 W12b (by omega) ..⟩

end Go.Proofs.YtbiacfkiakddiaaGreat
