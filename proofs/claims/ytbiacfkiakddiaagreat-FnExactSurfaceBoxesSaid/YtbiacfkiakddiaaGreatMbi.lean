/-
 Lemmas: V13.
-/
import Derived.Test.YtbiacfkiakddiaaGreatMbb
import Derived.Test.YtbiacfkiakddiaaGreatMbh
set_option linter.unusedVariables false
set_option linter.unusedSimpArgs false
namespace Go.Proofs.YtbiacfkiakddiaaGreat
open Go.RowKit Go.Fl
inductive PhiTs:FuncId → Array Value → Value → Prop
 | long (a b c d e f l h:Nat) (q:(cn .f32 l,cn .f32 h) = longR (cn .f32 a,cn .f32 b) (cn .f32 c,cn .f32 d) (cn .f32 e,cn .f32 f)):PhiTs 199 #[RgV a b,RgV c d,RgV e f] (RgV l h)
 | less (a b c d l h:Nat) (e:(cn .f32 l,cn .f32 h) = lessR (cn .f32 a,cn .f32 b) (cn .f32 c,cn .f32 d)):PhiTs 187 #[RgV a b,RgV c d] (RgV l h)
 | one (a l h:Nat) (e:(cn .f32 l,cn .f32 h) = (cn .f32 a,cn .f32 a)):PhiTs 188 #[F1 a] (RgV l h)
 | times (a b v l h:Nat) (e:(cn .f32 l,cn .f32 h) = timesR (cn .f32 a,cn .f32 b) (cn .f32 v)):PhiTs 193 #[RgV a b,F1 v] (RgV l h)
 | add (a b c d l h:Nat) (e:(cn .f32 l,cn .f32 h) = plusR (cn .f32 a,cn .f32 b) (cn .f32 c,cn .f32 d)):PhiTs 192 #[RgV a b,RgV c d] (RgV l h)
 | lesser (a b r:Nat) (h:cn .f32 r = lesserF (cn .f32 a) (cn .f32 b)):PhiTs 197 #[F1 a,F1 b] (F1 r)
 | greater (a b r:Nat) (h:cn .f32 r = greaterF (cn .f32 a) (cn .f32 b)):PhiTs 198 #[F1 a,F1 b] (F1 r)


set_option maxRecDepth 100000 in
set_option maxHeartbeats 2000000 in
theorem s_leafr_plane {b o bv ov cap r0 r1 r2 r3 c p x0 x1 y0 y1 z0 z1:Nat} {w:World} (hN:Kept [(⟨b,o,none⟩,.int .i64 4),(⟨b,o + 3,none⟩,.slice (some ⟨bv,ov,none⟩) 4 cap),(⟨bv,ov,none⟩,F1 r0),(⟨bv,ov + 1,none⟩,F1 r1),(⟨bv,ov + 2,none⟩,F1 r2),(⟨bv,ov + 3,none⟩,F1 r3),(⟨c,p,none⟩,F1 x0),(⟨c,p + 1,none⟩,F1 x1),(⟨c,p + 2,none⟩,F1 y0),(⟨c,p + 3,none⟩,F1 y1),(⟨c,p + 4,none⟩,F1 z0),(⟨c,p + 5,none⟩,F1 z1)] [] w) :
  Calls Tryz.prog 123 #[.pointer (some ⟨b,o,none⟩),.pointer (some ⟨c,p,none⟩)] w (RetR (downR (plusR (plusR (timesR (cn .f32 x0,cn .f32 x1) (cn .f32 r0)) (timesR (cn .f32 y0,cn .f32 y1) (cn .f32 r1))) (timesR (cn .f32 z0,cn .f32 z1) (cn .f32 r2))) (cn .f32 r3)) w):=by
 have hK:=hN
 simp only [Kept,ka,kb,kc,kd,ke,kf,kg] at hK
 have hb:b < w.heap.size:=some_lt (a:=⟨b,o,none⟩) (by rw [hK.1];rfl)
 go_enter Tryz.func123,Tryz.ntmps123
 go_upto_region 1 with fail
 clear hK
 generalize hW:w.alloc (.cells #[F1 0,F1 0] 118) = W1 at *
 have W1b:Below w.heap.size w W1:=by subst hW;exact (by repeat' (first | exact Below.refl _ _ | exact Nat.le_refl _ | refine below_drewN ?_ _ | refine Below.alloc ?_ (by simp <;> omega) _ | refine Below.setCell ?_ (by simp <;> omega) _ | refine below_step ?_ (by assumption)))
 have hkept:Kept [(⟨w.heap.size,0,none⟩,F1 0),(⟨w.heap.size,1,none⟩,F1 0)] [⟨w.heap.size,0,none⟩,⟨w.heap.size,1,none⟩] W1:=by
  subst hW;simp only [Kept,ka,kb,kc,kd,ke,kf,kg];(first | (go_simp;done) | (simp [World.cell?,World.frozen?,World.alloc,Array.getElem?_push];done))
 clear hW
 have hkept:=kept_app (keep hN W1b) hkept
 clear hN
 have hK:=hkept;simp only [Kept,ka,kb,kc,kd,ke,kf,kg] at hK
 have hb1:b < W1.heap.size:=Nat.lt_of_lt_of_le hb W1b.size
 go_upto_region 16 with fail
 refine Qr.wp_made 24 23 12 #[F1 0,F1 0] 118 (by kernel_rfl) (by kernel_rfl) PhiTs rfl (by kernel_rfl) ⟨_,rfl,rfl,fun a w => by go_simp⟩ (by kernel_rfl) ?_
 repeat (first | (refine Qr.walk_plain rfl fun K hK => ?_;refine Qr.one_rel (fun v => ∃ g,v = .pointer (some ⟨g,0,none⟩)) (fun w' hw' => ⟨.pointer (some ⟨w'.heap.size,0,none⟩),_,by go_simp;rfl,⟨_,rfl⟩,hw'.alloc hw'.size _,(Below.refl _ _).alloc (Nat.le_refl _) _⟩) (fun v hv => ?_);obtain ⟨g,rfl⟩:=hv;go_simp;refine hK _ ?_;clear hK K) | (first | (refine Qr.walk_plain rfl fun K hK => ?_;refine one_bin _ _ _ _ _ rfl _ _ _ rfl rfl rfl (fun r hr => ?_);go_simp;refine hK _ ?_;clear hK K) | (refine Qr.walk_plain rfl fun K hK => ?_;apply Qr.one_det;(focus (intro w' hw';have HK:=keep hkept hw';simp only [Kept,ka,kb,kc,kd,ke,kf,kg] at HK;go_simp;first | done | rfl));go_simp;refine hK _ ?_;clear hK K) | (refine Qr.walk_plain rfl fun K hK => ?_;apply Qr.one_call;(focus (intro w' hw';go_simp;first | done | exact ⟨rfl,rfl⟩));(focus (intro w' hw'; go_at_call 199;refine (s_longr_any _ _ _ _ _ _ _).mono ?_;rintro _ w2 ⟨l1,u1,rfl,hr1,hb1⟩ ;exact ⟨_,rfl,by constructor <;> assumption,below_step hw' (by assumption),by assumption⟩));intro v hv;cases hv;go_simp;refine hK _ ?_;clear hK K) | (refine Qr.walk_plain rfl fun K hK => ?_;apply Qr.one_call;(focus (intro w' hw';go_simp;first | done | exact ⟨rfl,rfl⟩));(focus (intro w' hw'; go_at_call 187;refine (s_rless_any _ _ _ _ _).mono ?_;rintro _ w2 ⟨l1,u1,rfl,hr1,hb1⟩ ;exact ⟨_,rfl,by constructor <;> assumption,below_step hw' (by assumption),by assumption⟩));intro v hv;cases hv;go_simp;refine hK _ ?_;clear hK K) | (refine Qr.walk_plain rfl fun K hK => ?_;apply Qr.one_call;(focus (intro w' hw';go_simp;first | done | exact ⟨rfl,rfl⟩));(focus (intro w' hw'; go_at_call 188;refine (s_one_any _ _).mono ?_;rintro _ w2 ⟨l1,u1,rfl,hr1,hb1⟩ ;exact ⟨_,rfl,by constructor <;> assumption,below_step hw' (by assumption),by assumption⟩));intro v hv;cases hv;go_simp;refine hK _ ?_;clear hK K) | (refine Qr.walk_plain rfl fun K hK => ?_;apply Qr.one_call;(focus (intro w' hw';go_simp;first | done | exact ⟨rfl,rfl⟩));(focus (intro w' hw'; go_at_call 193;refine (s_times_any _ _ _ _).mono ?_;rintro _ w2 ⟨l1,u1,rfl,hr1,hb1⟩ ;exact ⟨_,rfl,by constructor <;> assumption,below_step hw' (by assumption),by assumption⟩));intro v hv;cases hv;go_simp;refine hK _ ?_;clear hK K) | (refine Qr.walk_plain rfl fun K hK => ?_;apply Qr.one_call;(focus (intro w' hw';go_simp;first | done | exact ⟨rfl,rfl⟩));(focus (intro w' hw'; go_at_call 192;refine (s_radd_any _ _ _ _ _).mono ?_;rintro _ w2 ⟨l1,u1,rfl,hr1,hb1⟩ ;exact ⟨_,rfl,by constructor <;> assumption,below_step hw' (by assumption),by assumption⟩));intro v hv;cases hv;go_simp;refine hK _ ?_;clear hK K) | (refine Qr.walk_plain rfl fun K hK => ?_;apply Qr.one_call;(focus (intro w' hw';go_simp;first | done | exact ⟨rfl,rfl⟩));(focus (intro w' hw'; go_at_call 197;refine (s_lesser_any _ _ _).mono ?_;rintro _ w2 ⟨r1,rfl,hr1,hb1⟩ ;exact ⟨_,rfl,by constructor <;> assumption,below_step hw' (by assumption),by assumption⟩));intro v hv;cases hv;go_simp;refine hK _ ?_;clear hK K) | (refine Qr.walk_plain rfl fun K hK => ?_;apply Qr.one_call;(focus (intro w' hw';go_simp;first | done | exact ⟨rfl,rfl⟩));(focus (intro w' hw'; go_at_call 198;refine (s_greater_any _ _ _).mono ?_;rintro _ w2 ⟨r1,rfl,hr1,hb1⟩ ;exact ⟨_,rfl,by constructor <;> assumption,below_step hw' (by assumption),by assumption⟩));intro v hv;cases hv;go_simp;refine hK _ ?_;clear hK K)))
 rename_i l1 u1 h1 l2 u2 h2 l3 u3 h3
 refine Qr.walk_nil fun w3 hw3 hmade => ?_
 obtain ⟨g3,hg3,hgw,hgc⟩:=hmade _ rfl
 injection hg3 with hg3
 injection hg3 with hg3
 subst hg3
 obtain ⟨hc0,hc1,hf0,hf1⟩:=cells2 hgc
 have hset:=set2 hgc (F1 l3) (F1 u3)
 have hbw:=hw3.trans (hset.2.mono hgw)
 go_upto_region 17 with fail
 clear hc0 hc1 hf0 hf1 hgc hw3
 generalize (w3.setCell ⟨g,0,none⟩ (F1 l3)).setCell ⟨g,1,none⟩ (F1 u3) = w4 at hset hbw ⊢
 have hkept:=kept_app (keep hkept hbw) (kept2 hset.1)
 have w4b:=below_step W1b hbw
 clear hset hbw hK
 have hK:=hkept;simp only [Kept,ka,kb,kc,kd,ke,kf,kg] at hK
 refine Qr.wp_below 21 (by kernel_rfl) (by kernel_rfl) PhiTs ?_
 repeat (first | (refine Qr.walk_plain rfl fun K hK => ?_;refine one_bin _ _ _ _ _ rfl _ _ _ rfl rfl rfl (fun r hr => ?_);go_simp;refine hK _ ?_;clear hK K) | (refine Qr.walk_plain rfl fun K hK => ?_;apply Qr.one_det;(focus (intro w' hw';have HK:=keep hkept hw';simp only [Kept,ka,kb,kc,kd,ke,kf,kg] at HK;go_simp;first | done | rfl));go_simp;refine hK _ ?_;clear hK K) | (refine Qr.walk_plain rfl fun K hK => ?_;apply Qr.one_call;(focus (intro w' hw';go_simp;first | done | exact ⟨rfl,rfl⟩));(focus (intro w' hw'; go_at_call 199;refine (s_longr_any _ _ _ _ _ _ _).mono ?_;rintro _ w2 ⟨l1,u1,rfl,hr1,hb1⟩ ;exact ⟨_,rfl,by constructor <;> assumption,below_step hw' (by assumption),by assumption⟩));intro v hv;cases hv;go_simp;refine hK _ ?_;clear hK K) | (refine Qr.walk_plain rfl fun K hK => ?_;apply Qr.one_call;(focus (intro w' hw';go_simp;first | done | exact ⟨rfl,rfl⟩));(focus (intro w' hw'; go_at_call 187;refine (s_rless_any _ _ _ _ _).mono ?_;rintro _ w2 ⟨l1,u1,rfl,hr1,hb1⟩ ;exact ⟨_,rfl,by constructor <;> assumption,below_step hw' (by assumption),by assumption⟩));intro v hv;cases hv;go_simp;refine hK _ ?_;clear hK K) | (refine Qr.walk_plain rfl fun K hK => ?_;apply Qr.one_call;(focus (intro w' hw';go_simp;first | done | exact ⟨rfl,rfl⟩));(focus (intro w' hw'; go_at_call 188;refine (s_one_any _ _).mono ?_;rintro _ w2 ⟨l1,u1,rfl,hr1,hb1⟩ ;exact ⟨_,rfl,by constructor <;> assumption,below_step hw' (by assumption),by assumption⟩));intro v hv;cases hv;go_simp;refine hK _ ?_;clear hK K) | (refine Qr.walk_plain rfl fun K hK => ?_;apply Qr.one_call;(focus (intro w' hw';go_simp;first | done | exact ⟨rfl,rfl⟩));(focus (intro w' hw'; go_at_call 193;refine (s_times_any _ _ _ _).mono ?_;rintro _ w2 ⟨l1,u1,rfl,hr1,hb1⟩ ;exact ⟨_,rfl,by constructor <;> assumption,below_step hw' (by assumption),by assumption⟩));intro v hv;cases hv;go_simp;refine hK _ ?_;clear hK K) | (refine Qr.walk_plain rfl fun K hK => ?_;apply Qr.one_call;(focus (intro w' hw';go_simp;first | done | exact ⟨rfl,rfl⟩));(focus (intro w' hw'; go_at_call 192;refine (s_radd_any _ _ _ _ _).mono ?_;rintro _ w2 ⟨l1,u1,rfl,hr1,hb1⟩ ;exact ⟨_,rfl,by constructor <;> assumption,below_step hw' (by assumption),by assumption⟩));intro v hv;cases hv;go_simp;refine hK _ ?_;clear hK K) | (refine Qr.walk_plain rfl fun K hK => ?_;apply Qr.one_call;(focus (intro w' hw';go_simp;first | done | exact ⟨rfl,rfl⟩));(focus (intro w' hw'; go_at_call 197;refine (s_lesser_any _ _ _).mono ?_;rintro _ w2 ⟨r1,rfl,hr1,hb1⟩ ;exact ⟨_,rfl,by constructor <;> assumption,below_step hw' (by assumption),by assumption⟩));intro v hv;cases hv;go_simp;refine hK _ ?_;clear hK K) | (refine Qr.walk_plain rfl fun K hK => ?_;apply Qr.one_call;(focus (intro w' hw';go_simp;first | done | exact ⟨rfl,rfl⟩));(focus (intro w' hw'; go_at_call 198;refine (s_greater_any _ _ _).mono ?_;rintro _ w2 ⟨r1,rfl,hr1,hb1⟩ ;exact ⟨_,rfl,by constructor <;> assumption,below_step hw' (by assumption),by assumption⟩));intro v hv;cases hv;go_simp;refine hK _ ?_;clear hK K))
 rename_i l4 u4 h4 l5 u5 h5 l6 u6 h6 q1 q2 h7
 refine Qr.walk_nil fun w8 hw8 => ?_
 have hkept:=keep hkept hw8
 have W8b:=below_step w4b hw8
 clear hK
 have hK:=hkept
 simp only [Kept,ka,kb,kc,kd,ke,kf,kg] at hK
 go_wp2_with fail
 exact bodyPost_ret (v:=RgV q1 q2) (by simp [results,Tryz.results123,go_sem,hK,World.cell?_setCell_other,World.cell?_setCell_same'];first | done | exact ⟨rfl,rfl⟩) rfl ⟨_,_,rfl,by rw [h7,h6,h5,h4,h3,h2,h1];rfl,bel2 W8b (by omega) ..⟩

set_option maxRecDepth 100000 in
set_option maxHeartbeats 2000000 in
theorem s_leafr_ring {b o bv ov cap r0 r1 c p x0 x1 y0 y1 z0 z1:Nat} {w:World} (hN:Kept [(⟨b,o,none⟩,.int .i64 3),(⟨b,o + 3,none⟩,.slice (some ⟨bv,ov,none⟩) 2 cap),(⟨bv,ov,none⟩,F1 r0),(⟨bv,ov + 1,none⟩,F1 r1),(⟨c,p,none⟩,F1 x0),(⟨c,p + 1,none⟩,F1 x1),(⟨c,p + 2,none⟩,F1 y0),(⟨c,p + 3,none⟩,F1 y1),(⟨c,p + 4,none⟩,F1 z0),(⟨c,p + 5,none⟩,F1 z1)] [] w) :
  Calls Tryz.prog 123 #[.pointer (some ⟨b,o,none⟩),.pointer (some ⟨c,p,none⟩)] w (RetR (downR (longR (downR (longR (cn .f32 x0,cn .f32 x1) (cn .f32 0,cn .f32 0) (cn .f32 z0,cn .f32 z1)) (cn .f32 r0)) (cn .f32 y0,cn .f32 y1) (cn .f32 0,cn .f32 0)) (cn .f32 r1)) w):=by
 have hK:=hN
 simp only [Kept,ka,kb,kc,kd,ke,kf,kg] at hK
 have hb:b < w.heap.size:=some_lt (a:=⟨b,o,none⟩) (by rw [hK.1];rfl)
 go_enter Tryz.func123,Tryz.ntmps123
 go_upto_region 1 with fail
 clear hK
 generalize hW:w.alloc (.cells #[F1 0,F1 0] 118) = W1 at *
 have W1b:Below w.heap.size w W1:=by subst hW;exact (by repeat' (first | exact Below.refl _ _ | exact Nat.le_refl _ | refine below_drewN ?_ _ | refine Below.alloc ?_ (by simp <;> omega) _ | refine Below.setCell ?_ (by simp <;> omega) _ | refine below_step ?_ (by assumption)))
 have hkept:Kept [(⟨w.heap.size,0,none⟩,F1 0),(⟨w.heap.size,1,none⟩,F1 0)] [⟨w.heap.size,0,none⟩,⟨w.heap.size,1,none⟩] W1:=by
  subst hW;simp only [Kept,ka,kb,kc,kd,ke,kf,kg];(first | (go_simp;done) | (simp [World.cell?,World.frozen?,World.alloc,Array.getElem?_push];done))
 clear hW
 have hkept:=kept_app (keep hN W1b) hkept
 clear hN
 have hK:=hkept;simp only [Kept,ka,kb,kc,kd,ke,kf,kg] at hK
 have hb1:b < W1.heap.size:=Nat.lt_of_lt_of_le hb W1b.size
 go_upto_region 14 with fail
 refine Qr.wp_made 19 18 11 #[F1 0,F1 0] 118 (by kernel_rfl) (by kernel_rfl) PhiTs rfl (by kernel_rfl) ⟨_,rfl,rfl,fun a w => by go_simp⟩ (by kernel_rfl) ?_
 repeat (first | (refine Qr.walk_plain rfl fun K hK => ?_;refine Qr.one_rel (fun v => ∃ g,v = .pointer (some ⟨g,0,none⟩)) (fun w' hw' => ⟨.pointer (some ⟨w'.heap.size,0,none⟩),_,by go_simp;rfl,⟨_,rfl⟩,hw'.alloc hw'.size _,(Below.refl _ _).alloc (Nat.le_refl _) _⟩) (fun v hv => ?_);obtain ⟨g,rfl⟩:=hv;go_simp;refine hK _ ?_;clear hK K) | (first | (refine Qr.walk_plain rfl fun K hK => ?_;refine one_bin _ _ _ _ _ rfl _ _ _ rfl rfl rfl (fun r hr => ?_);go_simp;refine hK _ ?_;clear hK K) | (refine Qr.walk_plain rfl fun K hK => ?_;apply Qr.one_det;(focus (intro w' hw';have HK:=keep hkept hw';simp only [Kept,ka,kb,kc,kd,ke,kf,kg] at HK;go_simp;first | done | rfl));go_simp;refine hK _ ?_;clear hK K) | (refine Qr.walk_plain rfl fun K hK => ?_;apply Qr.one_call;(focus (intro w' hw';go_simp;first | done | exact ⟨rfl,rfl⟩));(focus (intro w' hw'; go_at_call 199;refine (s_longr_any _ _ _ _ _ _ _).mono ?_;rintro _ w2 ⟨l1,u1,rfl,hr1,hb1⟩ ;exact ⟨_,rfl,by constructor <;> assumption,below_step hw' (by assumption),by assumption⟩));intro v hv;cases hv;go_simp;refine hK _ ?_;clear hK K) | (refine Qr.walk_plain rfl fun K hK => ?_;apply Qr.one_call;(focus (intro w' hw';go_simp;first | done | exact ⟨rfl,rfl⟩));(focus (intro w' hw'; go_at_call 187;refine (s_rless_any _ _ _ _ _).mono ?_;rintro _ w2 ⟨l1,u1,rfl,hr1,hb1⟩ ;exact ⟨_,rfl,by constructor <;> assumption,below_step hw' (by assumption),by assumption⟩));intro v hv;cases hv;go_simp;refine hK _ ?_;clear hK K) | (refine Qr.walk_plain rfl fun K hK => ?_;apply Qr.one_call;(focus (intro w' hw';go_simp;first | done | exact ⟨rfl,rfl⟩));(focus (intro w' hw'; go_at_call 188;refine (s_one_any _ _).mono ?_;rintro _ w2 ⟨l1,u1,rfl,hr1,hb1⟩ ;exact ⟨_,rfl,by constructor <;> assumption,below_step hw' (by assumption),by assumption⟩));intro v hv;cases hv;go_simp;refine hK _ ?_;clear hK K) | (refine Qr.walk_plain rfl fun K hK => ?_;apply Qr.one_call;(focus (intro w' hw';go_simp;first | done | exact ⟨rfl,rfl⟩));(focus (intro w' hw'; go_at_call 193;refine (s_times_any _ _ _ _).mono ?_;rintro _ w2 ⟨l1,u1,rfl,hr1,hb1⟩ ;exact ⟨_,rfl,by constructor <;> assumption,below_step hw' (by assumption),by assumption⟩));intro v hv;cases hv;go_simp;refine hK _ ?_;clear hK K) | (refine Qr.walk_plain rfl fun K hK => ?_;apply Qr.one_call;(focus (intro w' hw';go_simp;first | done | exact ⟨rfl,rfl⟩));(focus (intro w' hw'; go_at_call 192;refine (s_radd_any _ _ _ _ _).mono ?_;rintro _ w2 ⟨l1,u1,rfl,hr1,hb1⟩ ;exact ⟨_,rfl,by constructor <;> assumption,below_step hw' (by assumption),by assumption⟩));intro v hv;cases hv;go_simp;refine hK _ ?_;clear hK K) | (refine Qr.walk_plain rfl fun K hK => ?_;apply Qr.one_call;(focus (intro w' hw';go_simp;first | done | exact ⟨rfl,rfl⟩));(focus (intro w' hw'; go_at_call 197;refine (s_lesser_any _ _ _).mono ?_;rintro _ w2 ⟨r1,rfl,hr1,hb1⟩ ;exact ⟨_,rfl,by constructor <;> assumption,below_step hw' (by assumption),by assumption⟩));intro v hv;cases hv;go_simp;refine hK _ ?_;clear hK K) | (refine Qr.walk_plain rfl fun K hK => ?_;apply Qr.one_call;(focus (intro w' hw';go_simp;first | done | exact ⟨rfl,rfl⟩));(focus (intro w' hw'; go_at_call 198;refine (s_greater_any _ _ _).mono ?_;rintro _ w2 ⟨r1,rfl,hr1,hb1⟩ ;exact ⟨_,rfl,by constructor <;> assumption,below_step hw' (by assumption),by assumption⟩));intro v hv;cases hv;go_simp;refine hK _ ?_;clear hK K)))
 rename_i l0 u0 h0 l1 u1 h1 l2 u2 h2 l3 u3 h3
 refine Qr.walk_nil fun w3 hw3 hmade => ?_
 obtain ⟨g3,hg3,hgw,hgc⟩:=hmade _ rfl
 injection hg3 with hg3
 injection hg3 with hg3
 subst hg3
 obtain ⟨hc0,hc1,hf0,hf1⟩:=cells2 hgc
 have hset:=set2 hgc (F1 l3) (F1 u3)
 have hbw:=hw3.trans (hset.2.mono hgw)
 go_upto_region 15 with fail
 clear hc0 hc1 hf0 hf1 hgc hw3
 generalize (w3.setCell ⟨g,0,none⟩ (F1 l3)).setCell ⟨g,1,none⟩ (F1 u3) = w4 at hset hbw ⊢
 have hkept:=kept_app (keep hkept hbw) (kept2 hset.1)
 have w4b:=below_step W1b hbw
 clear hset hbw hK
 have hK:=hkept;simp only [Kept,ka,kb,kc,kd,ke,kf,kg] at hK
 refine Qr.wp_below 15 (by kernel_rfl) (by kernel_rfl) PhiTs ?_
 repeat (first | (refine Qr.walk_plain rfl fun K hK => ?_;refine one_bin _ _ _ _ _ rfl _ _ _ rfl rfl rfl (fun r hr => ?_);go_simp;refine hK _ ?_;clear hK K) | (refine Qr.walk_plain rfl fun K hK => ?_;apply Qr.one_det;(focus (intro w' hw';have HK:=keep hkept hw';simp only [Kept,ka,kb,kc,kd,ke,kf,kg] at HK;go_simp;first | done | rfl));go_simp;refine hK _ ?_;clear hK K) | (refine Qr.walk_plain rfl fun K hK => ?_;apply Qr.one_call;(focus (intro w' hw';go_simp;first | done | exact ⟨rfl,rfl⟩));(focus (intro w' hw'; go_at_call 199;refine (s_longr_any _ _ _ _ _ _ _).mono ?_;rintro _ w2 ⟨l1,u1,rfl,hr1,hb1⟩ ;exact ⟨_,rfl,by constructor <;> assumption,below_step hw' (by assumption),by assumption⟩));intro v hv;cases hv;go_simp;refine hK _ ?_;clear hK K) | (refine Qr.walk_plain rfl fun K hK => ?_;apply Qr.one_call;(focus (intro w' hw';go_simp;first | done | exact ⟨rfl,rfl⟩));(focus (intro w' hw'; go_at_call 187;refine (s_rless_any _ _ _ _ _).mono ?_;rintro _ w2 ⟨l1,u1,rfl,hr1,hb1⟩ ;exact ⟨_,rfl,by constructor <;> assumption,below_step hw' (by assumption),by assumption⟩));intro v hv;cases hv;go_simp;refine hK _ ?_;clear hK K) | (refine Qr.walk_plain rfl fun K hK => ?_;apply Qr.one_call;(focus (intro w' hw';go_simp;first | done | exact ⟨rfl,rfl⟩));(focus (intro w' hw'; go_at_call 188;refine (s_one_any _ _).mono ?_;rintro _ w2 ⟨l1,u1,rfl,hr1,hb1⟩ ;exact ⟨_,rfl,by constructor <;> assumption,below_step hw' (by assumption),by assumption⟩));intro v hv;cases hv;go_simp;refine hK _ ?_;clear hK K) | (refine Qr.walk_plain rfl fun K hK => ?_;apply Qr.one_call;(focus (intro w' hw';go_simp;first | done | exact ⟨rfl,rfl⟩));(focus (intro w' hw'; go_at_call 193;refine (s_times_any _ _ _ _).mono ?_;rintro _ w2 ⟨l1,u1,rfl,hr1,hb1⟩ ;exact ⟨_,rfl,by constructor <;> assumption,below_step hw' (by assumption),by assumption⟩));intro v hv;cases hv;go_simp;refine hK _ ?_;clear hK K) | (refine Qr.walk_plain rfl fun K hK => ?_;apply Qr.one_call;(focus (intro w' hw';go_simp;first | done | exact ⟨rfl,rfl⟩));(focus (intro w' hw'; go_at_call 192;refine (s_radd_any _ _ _ _ _).mono ?_;rintro _ w2 ⟨l1,u1,rfl,hr1,hb1⟩ ;exact ⟨_,rfl,by constructor <;> assumption,below_step hw' (by assumption),by assumption⟩));intro v hv;cases hv;go_simp;refine hK _ ?_;clear hK K) | (refine Qr.walk_plain rfl fun K hK => ?_;apply Qr.one_call;(focus (intro w' hw';go_simp;first | done | exact ⟨rfl,rfl⟩));(focus (intro w' hw'; go_at_call 197;refine (s_lesser_any _ _ _).mono ?_;rintro _ w2 ⟨r1,rfl,hr1,hb1⟩ ;exact ⟨_,rfl,by constructor <;> assumption,below_step hw' (by assumption),by assumption⟩));intro v hv;cases hv;go_simp;refine hK _ ?_;clear hK K) | (refine Qr.walk_plain rfl fun K hK => ?_;apply Qr.one_call;(focus (intro w' hw';go_simp;first | done | exact ⟨rfl,rfl⟩));(focus (intro w' hw'; go_at_call 198;refine (s_greater_any _ _ _).mono ?_;rintro _ w2 ⟨r1,rfl,hr1,hb1⟩ ;exact ⟨_,rfl,by constructor <;> assumption,below_step hw' (by assumption),by assumption⟩));intro v hv;cases hv;go_simp;refine hK _ ?_;clear hK K))
 rename_i l4 u4 h4 l5 u5 h5 l6 u6 h6 q1 q2 h7
 refine Qr.walk_nil fun w8 hw8 => ?_
 have hkept:=keep hkept hw8
 have W8b:=below_step w4b hw8
 clear hK
 have hK:=hkept
 simp only [Kept,ka,kb,kc,kd,ke,kf,kg] at hK
 go_wp2_with fail
 exact bodyPost_ret (v:=RgV q1 q2) (by simp [results,Tryz.results123,go_sem,hK,World.cell?_setCell_other,World.cell?_setCell_same'];first | done | exact ⟨rfl,rfl⟩) rfl ⟨_,_,rfl,by rw [h7,h6,h5,h4,h3,h2,h1,h0];rfl,bel2 W8b (by omega) ..⟩

set_option maxRecDepth 100000 in
set_option maxHeartbeats 2000000 in
theorem s_leafr_tube {b o bv ov cap r0 r1 c p x0 x1 y0 y1 z0 z1:Nat} {w:World} (hN:Kept [(⟨b,o,none⟩,.int .i64 2),(⟨b,o + 3,none⟩,.slice (some ⟨bv,ov,none⟩) 2 cap),(⟨bv,ov,none⟩,F1 r0),(⟨bv,ov + 1,none⟩,F1 r1),(⟨c,p,none⟩,F1 x0),(⟨c,p + 1,none⟩,F1 x1),(⟨c,p + 2,none⟩,F1 y0),(⟨c,p + 3,none⟩,F1 y1),(⟨c,p + 4,none⟩,F1 z0),(⟨c,p + 5,none⟩,F1 z1)] [] w) :
  Calls Tryz.prog 123 #[.pointer (some ⟨b,o,none⟩),.pointer (some ⟨c,p,none⟩)] w (RetR (downR (longR (cn .f32 x0,cn .f32 x1) (bothR (fun y => shortF y (cn .f32 r0)) (cn .f32 y0,cn .f32 y1)) (cn .f32 z0,cn .f32 z1)) (cn .f32 r1)) w):=by
 have hK:=hN
 simp only [Kept,ka,kb,kc,kd,ke,kf,kg] at hK
 have hb:b < w.heap.size:=some_lt (a:=⟨b,o,none⟩) (by rw [hK.1];rfl)
 go_enter Tryz.func123,Tryz.ntmps123
 go_upto_region 1 with fail
 clear hK
 generalize hW:w.alloc (.cells #[F1 0,F1 0] 118) = W1 at *
 have W1b:Below w.heap.size w W1:=by subst hW;exact (by repeat' (first | exact Below.refl _ _ | exact Nat.le_refl _ | refine below_drewN ?_ _ | refine Below.alloc ?_ (by simp <;> omega) _ | refine Below.setCell ?_ (by simp <;> omega) _ | refine below_step ?_ (by assumption)))
 have hkept:Kept [(⟨w.heap.size,0,none⟩,F1 0),(⟨w.heap.size,1,none⟩,F1 0)] [⟨w.heap.size,0,none⟩,⟨w.heap.size,1,none⟩] W1:=by
  subst hW;simp only [Kept,ka,kb,kc,kd,ke,kf,kg];(first | (go_simp;done) | (simp [World.cell?,World.frozen?,World.alloc,Array.getElem?_push];done))
 clear hW
 have hkept:=kept_app (keep hN W1b) hkept
 clear hN
 have hK:=hkept;simp only [Kept,ka,kb,kc,kd,ke,kf,kg] at hK
 have hb1:b < W1.heap.size:=Nat.lt_of_lt_of_le hb W1b.size
 go_upto_region 11 with fail
 refine Qr.wp_made 30 29 10 #[F1 0,F1 0] 118 (by kernel_rfl) (by kernel_rfl) PhiTs rfl (by kernel_rfl) ⟨_,rfl,rfl,fun a w => by go_simp⟩ (by kernel_rfl) ?_
 repeat (first | (refine Qr.walk_plain rfl fun K hK => ?_;refine Qr.one_rel (fun v => ∃ g,v = .pointer (some ⟨g,0,none⟩)) (fun w' hw' => ⟨.pointer (some ⟨w'.heap.size,0,none⟩),_,by go_simp;rfl,⟨_,rfl⟩,hw'.alloc hw'.size _,(Below.refl _ _).alloc (Nat.le_refl _) _⟩) (fun v hv => ?_);obtain ⟨g,rfl⟩:=hv;go_simp;refine hK _ ?_;clear hK K) | (first | (refine Qr.walk_plain rfl fun K hK => ?_;refine one_bin _ _ _ _ _ rfl _ _ _ rfl rfl rfl (fun r hr => ?_);go_simp;refine hK _ ?_;clear hK K) | (refine Qr.walk_plain rfl fun K hK => ?_;apply Qr.one_det;(focus (intro w' hw';have HK:=keep hkept hw';simp only [Kept,ka,kb,kc,kd,ke,kf,kg] at HK;go_simp;first | done | rfl));go_simp;refine hK _ ?_;clear hK K) | (refine Qr.walk_plain rfl fun K hK => ?_;apply Qr.one_call;(focus (intro w' hw';go_simp;first | done | exact ⟨rfl,rfl⟩));(focus (intro w' hw'; go_at_call 199;refine (s_longr_any _ _ _ _ _ _ _).mono ?_;rintro _ w2 ⟨l1,u1,rfl,hr1,hb1⟩ ;exact ⟨_,rfl,by constructor <;> assumption,below_step hw' (by assumption),by assumption⟩));intro v hv;cases hv;go_simp;refine hK _ ?_;clear hK K) | (refine Qr.walk_plain rfl fun K hK => ?_;apply Qr.one_call;(focus (intro w' hw';go_simp;first | done | exact ⟨rfl,rfl⟩));(focus (intro w' hw'; go_at_call 187;refine (s_rless_any _ _ _ _ _).mono ?_;rintro _ w2 ⟨l1,u1,rfl,hr1,hb1⟩ ;exact ⟨_,rfl,by constructor <;> assumption,below_step hw' (by assumption),by assumption⟩));intro v hv;cases hv;go_simp;refine hK _ ?_;clear hK K) | (refine Qr.walk_plain rfl fun K hK => ?_;apply Qr.one_call;(focus (intro w' hw';go_simp;first | done | exact ⟨rfl,rfl⟩));(focus (intro w' hw'; go_at_call 188;refine (s_one_any _ _).mono ?_;rintro _ w2 ⟨l1,u1,rfl,hr1,hb1⟩ ;exact ⟨_,rfl,by constructor <;> assumption,below_step hw' (by assumption),by assumption⟩));intro v hv;cases hv;go_simp;refine hK _ ?_;clear hK K) | (refine Qr.walk_plain rfl fun K hK => ?_;apply Qr.one_call;(focus (intro w' hw';go_simp;first | done | exact ⟨rfl,rfl⟩));(focus (intro w' hw'; go_at_call 193;refine (s_times_any _ _ _ _).mono ?_;rintro _ w2 ⟨l1,u1,rfl,hr1,hb1⟩ ;exact ⟨_,rfl,by constructor <;> assumption,below_step hw' (by assumption),by assumption⟩));intro v hv;cases hv;go_simp;refine hK _ ?_;clear hK K) | (refine Qr.walk_plain rfl fun K hK => ?_;apply Qr.one_call;(focus (intro w' hw';go_simp;first | done | exact ⟨rfl,rfl⟩));(focus (intro w' hw'; go_at_call 192;refine (s_radd_any _ _ _ _ _).mono ?_;rintro _ w2 ⟨l1,u1,rfl,hr1,hb1⟩ ;exact ⟨_,rfl,by constructor <;> assumption,below_step hw' (by assumption),by assumption⟩));intro v hv;cases hv;go_simp;refine hK _ ?_;clear hK K) | (refine Qr.walk_plain rfl fun K hK => ?_;apply Qr.one_call;(focus (intro w' hw';go_simp;first | done | exact ⟨rfl,rfl⟩));(focus (intro w' hw'; go_at_call 197;refine (s_lesser_any _ _ _).mono ?_;rintro _ w2 ⟨r1,rfl,hr1,hb1⟩ ;exact ⟨_,rfl,by constructor <;> assumption,below_step hw' (by assumption),by assumption⟩));intro v hv;cases hv;go_simp;refine hK _ ?_;clear hK K) | (refine Qr.walk_plain rfl fun K hK => ?_;apply Qr.one_call;(focus (intro w' hw';go_simp;first | done | exact ⟨rfl,rfl⟩));(focus (intro w' hw'; go_at_call 198;refine (s_greater_any _ _ _).mono ?_;rintro _ w2 ⟨r1,rfl,hr1,hb1⟩ ;exact ⟨_,rfl,by constructor <;> assumption,below_step hw' (by assumption),by assumption⟩));intro v hv;cases hv;go_simp;refine hK _ ?_;clear hK K)))
 rename_i t1 g1 t2 g2 t3 g3_ t4 g4 t5 g5
 refine Qr.walk_nil fun w3 hw3 hmade => ?_
 obtain ⟨g3,hg3,hgw,hgc⟩:=hmade _ rfl
 injection hg3 with hg3
 injection hg3 with hg3
 subst hg3
 obtain ⟨hc0,hc1,hf0,hf1⟩:=cells2 hgc
 have hset:=set2 hgc (F1 t3) (F1 r)
 have hbw:=hw3.trans (hset.2.mono hgw)
 go_upto_region 12 with fail
 clear hc0 hc1 hf0 hf1 hgc hw3
 generalize (w3.setCell ⟨g,0,none⟩ (F1 t3)).setCell ⟨g,1,none⟩ (F1 r) = w4 at hset hbw ⊢
 have hkept:=kept_app (keep hkept hbw) (kept2 hset.1)
 have w4b:=below_step W1b hbw
 clear hset hbw hK
 have hK:=hkept;simp only [Kept,ka,kb,kc,kd,ke,kf,kg] at hK
 refine Qr.wp_below 18 (by kernel_rfl) (by kernel_rfl) PhiTs ?_
 repeat (first | (refine Qr.walk_plain rfl fun K hK => ?_;refine one_bin _ _ _ _ _ rfl _ _ _ rfl rfl rfl (fun r hr => ?_);go_simp;refine hK _ ?_;clear hK K) | (refine Qr.walk_plain rfl fun K hK => ?_;apply Qr.one_det;(focus (intro w' hw';have HK:=keep hkept hw';simp only [Kept,ka,kb,kc,kd,ke,kf,kg] at HK;go_simp;first | done | rfl));go_simp;refine hK _ ?_;clear hK K) | (refine Qr.walk_plain rfl fun K hK => ?_;apply Qr.one_call;(focus (intro w' hw';go_simp;first | done | exact ⟨rfl,rfl⟩));(focus (intro w' hw'; go_at_call 199;refine (s_longr_any _ _ _ _ _ _ _).mono ?_;rintro _ w2 ⟨l1,u1,rfl,hr1,hb1⟩ ;exact ⟨_,rfl,by constructor <;> assumption,below_step hw' (by assumption),by assumption⟩));intro v hv;cases hv;go_simp;refine hK _ ?_;clear hK K) | (refine Qr.walk_plain rfl fun K hK => ?_;apply Qr.one_call;(focus (intro w' hw';go_simp;first | done | exact ⟨rfl,rfl⟩));(focus (intro w' hw'; go_at_call 187;refine (s_rless_any _ _ _ _ _).mono ?_;rintro _ w2 ⟨l1,u1,rfl,hr1,hb1⟩ ;exact ⟨_,rfl,by constructor <;> assumption,below_step hw' (by assumption),by assumption⟩));intro v hv;cases hv;go_simp;refine hK _ ?_;clear hK K) | (refine Qr.walk_plain rfl fun K hK => ?_;apply Qr.one_call;(focus (intro w' hw';go_simp;first | done | exact ⟨rfl,rfl⟩));(focus (intro w' hw'; go_at_call 188;refine (s_one_any _ _).mono ?_;rintro _ w2 ⟨l1,u1,rfl,hr1,hb1⟩ ;exact ⟨_,rfl,by constructor <;> assumption,below_step hw' (by assumption),by assumption⟩));intro v hv;cases hv;go_simp;refine hK _ ?_;clear hK K) | (refine Qr.walk_plain rfl fun K hK => ?_;apply Qr.one_call;(focus (intro w' hw';go_simp;first | done | exact ⟨rfl,rfl⟩));(focus (intro w' hw'; go_at_call 193;refine (s_times_any _ _ _ _).mono ?_;rintro _ w2 ⟨l1,u1,rfl,hr1,hb1⟩ ;exact ⟨_,rfl,by constructor <;> assumption,below_step hw' (by assumption),by assumption⟩));intro v hv;cases hv;go_simp;refine hK _ ?_;clear hK K) | (refine Qr.walk_plain rfl fun K hK => ?_;apply Qr.one_call;(focus (intro w' hw';go_simp;first | done | exact ⟨rfl,rfl⟩));(focus (intro w' hw'; go_at_call 192;refine (s_radd_any _ _ _ _ _).mono ?_;rintro _ w2 ⟨l1,u1,rfl,hr1,hb1⟩ ;exact ⟨_,rfl,by constructor <;> assumption,below_step hw' (by assumption),by assumption⟩));intro v hv;cases hv;go_simp;refine hK _ ?_;clear hK K) | (refine Qr.walk_plain rfl fun K hK => ?_;apply Qr.one_call;(focus (intro w' hw';go_simp;first | done | exact ⟨rfl,rfl⟩));(focus (intro w' hw'; go_at_call 197;refine (s_lesser_any _ _ _).mono ?_;rintro _ w2 ⟨r1,rfl,hr1,hb1⟩ ;exact ⟨_,rfl,by constructor <;> assumption,below_step hw' (by assumption),by assumption⟩));intro v hv;cases hv;go_simp;refine hK _ ?_;clear hK K) | (refine Qr.walk_plain rfl fun K hK => ?_;apply Qr.one_call;(focus (intro w' hw';go_simp;first | done | exact ⟨rfl,rfl⟩));(focus (intro w' hw'; go_at_call 198;refine (s_greater_any _ _ _).mono ?_;rintro _ w2 ⟨r1,rfl,hr1,hb1⟩ ;exact ⟨_,rfl,by constructor <;> assumption,below_step hw' (by assumption),by assumption⟩));intro v hv;cases hv;go_simp;refine hK _ ?_;clear hK K))
 rename_i l4 u4 h4 l5 u5 h5 q1 q2 h7
 refine Qr.walk_nil fun w8 hw8 => ?_
 have hkept:=keep hkept hw8
 have W8b:=below_step w4b hw8
 clear hK
 have hK:=hkept
 simp only [Kept,ka,kb,kc,kd,ke,kf,kg] at hK
 go_wp2_with fail
 exact bodyPost_ret (v:=RgV q1 q2) (by simp [results,Tryz.results123,go_sem,hK,World.cell?_setCell_other,World.cell?_setCell_same'];first | done | exact ⟨rfl,rfl⟩) rfl ⟨_,_,rfl,by rw [h7,h5,h4,hr,g3_,g5,g2,g4,g1,cn_zero];rfl,bel2 W8b (by omega) ..⟩

end Go.Proofs.YtbiacfkiakddiaaGreat
