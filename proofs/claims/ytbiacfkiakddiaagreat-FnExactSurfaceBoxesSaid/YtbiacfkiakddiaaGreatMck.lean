/-
 Lemmas: V10.
-/
import Derived.Test.YtbiacfkiakddiaaGreatMbh
set_option linter.unusedVariables false
set_option linter.unusedSimpArgs false
namespace Go.Proofs.YtbiacfkiakddiaaGreat
open Go.RowKit Go.Fl
set_option maxHeartbeats 400000 in
theorem s_round_any (a b:Nat) (w:World) :
  Calls Tryz.prog 201 #[F1 a,F1 b] w (Ret .f32 (bulgeF (cn .f32 a) (cn .f32 b)) w):=by
 by_cases h:(FloatKind.f32.format.order a 0 == some .gt) = true
 ·go_enter Tryz.func201,Tryz.ntmps201
  go_wp2_with (refine wp_bin rfl _ _ _ _ _ rfl _ _ _ rfl rfl rfl ?_;intro r n hr)
  go_ret
  exact ⟨_,rfl,by simp only [bulgeF,gtk,ord_r0,h,if_true, *];rfl,(by repeat' (first | exact Below.refl _ _ | exact Nat.le_refl _ | refine below_drewN ?_ _ | refine Below.alloc ?_ (by simp <;> omega) _ | refine Below.setCell ?_ (by simp <;> omega) _ | refine below_step ?_ (by assumption)))⟩
 ·rw [Bool.not_eq_true] at h
  go_enter Tryz.func201,Tryz.ntmps201
  go_wp2_with (refine wp_bin rfl _ _ _ _ _ rfl _ _ _ rfl rfl rfl ?_;intro r n hr)
  go_ret
  exact ⟨_,rfl,by simp only [bulgeF,gtk,ord_r0,h,cn_zero];rfl,(by repeat' (first | exact Below.refl _ _ | exact Nat.le_refl _ | refine below_drewN ?_ _ | refine Below.alloc ?_ (by simp <;> omega) _ | refine Below.setCell ?_ (by simp <;> omega) _ | refine below_step ?_ (by assumption)))⟩

inductive PhiMs:FuncId → Array Value → Value → Prop
 | lesser (a b r:Nat) (h:cn .f32 r = lesserF (cn .f32 a) (cn .f32 b)):PhiMs 197 #[F1 a,F1 b] (F1 r)
 | greater (a b r:Nat) (h:cn .f32 r = greaterF (cn .f32 a) (cn .f32 b)):PhiMs 198 #[F1 a,F1 b] (F1 r)
 | round (a b r:Nat) (h:cn .f32 r = bulgeF (cn .f32 a) (cn .f32 b)):PhiMs 201 #[F1 a,F1 b] (F1 r)
 | sizer (a b l h:Nat) (e:(cn .f32 l,cn .f32 h) = sizeR (cn .f32 a,cn .f32 b)):PhiMs 194 #[RgV a b] (RgV l h)
 | times (a b v l h:Nat) (e:(cn .f32 l,cn .f32 h) = timesR (cn .f32 a,cn .f32 b) (cn .f32 v)):PhiMs 193 #[RgV a b,F1 v] (RgV l h)
 | less (a b c d l h:Nat) (e:(cn .f32 l,cn .f32 h) = lessR (cn .f32 a,cn .f32 b) (cn .f32 c,cn .f32 d)):PhiMs 187 #[RgV a b,RgV c d] (RgV l h)
 | near (a b c d l h:Nat) (e:(cn .f32 l,cn .f32 h) = sizeR (lessR (cn .f32 a,cn .f32 b) (cn .f32 c,cn .f32 d))):PhiMs 200 #[RgV a b,RgV c d] (RgV l h)
 | one (a l h:Nat) (e:(cn .f32 l,cn .f32 h) = (cn .f32 a,cn .f32 a)):PhiMs 188 #[F1 a] (RgV l h)


set_option maxRecDepth 100000 in
set_option maxHeartbeats 2000000 in
theorem s_mixr_union {b o x0 x1 y0 y1:Nat} {w:World} (hN:Kept [(⟨b,o,none⟩,.int .i64 5)] [] w) :
  Calls Tryz.prog 124 #[.pointer (some ⟨b,o,none⟩),RgV x0 x1,RgV y0 y1] w (RetR (lesserF (cn .f32 x0) (cn .f32 y0),lesserF (cn .f32 x1) (cn .f32 y1)) w):=by
 have hK:=hN
 simp only [Kept,ka,kb,kc,kd,ke,kf,kg] at hK
 have hb:b < w.heap.size:=some_lt (a:=⟨b,o,none⟩) (by rw [hK];rfl)
 go_enter Tryz.func124,Tryz.ntmps124
 go_upto_region 1 with fail
 clear hK
 generalize hW:((w.alloc (.cells #[F1 x0,F1 x1] 118)).alloc (.cells #[F1 y0,F1 y1] 118)).alloc (.cells #[F1 0,F1 0] 118) = W1 at *
 have W1b:Below w.heap.size w W1:=by subst hW;exact (by repeat' (first | exact Below.refl _ _ | exact Nat.le_refl _ | refine below_drewN ?_ _ | refine Below.alloc ?_ (by simp <;> omega) _ | refine Below.setCell ?_ (by simp <;> omega) _ | refine below_step ?_ (by assumption)))
 have hkept:Kept [(⟨w.heap.size,0,none⟩,F1 x0),(⟨w.heap.size,1,none⟩,F1 x1),(⟨w.heap.size + 1,0,none⟩,F1 y0),(⟨w.heap.size + 1,1,none⟩,F1 y1),(⟨w.heap.size + 1 + 1,0,none⟩,F1 0),(⟨w.heap.size + 1 + 1,1,none⟩,F1 0)] [⟨w.heap.size + 1 + 1,0,none⟩,⟨w.heap.size + 1 + 1,1,none⟩] W1:=by
  subst hW;simp only [Kept,ka,kb,kc,kd,ke,kf,kg];(first | (go_simp;done) | (simp [World.cell?,World.frozen?,World.alloc,Array.getElem?_push];done))
 clear hW
 have hkept:=kept_app (keep hN W1b) hkept
 clear hN
 have hK:=hkept;simp only [Kept,ka,kb,kc,kd,ke,kf,kg] at hK
 have hb1:b < W1.heap.size:=Nat.lt_of_lt_of_le hb W1b.size
 go_upto_region 3 with fail
 refine Qr.wp_below 11 (by kernel_rfl) (by kernel_rfl) PhiMs ?_
 repeat (first | (refine Qr.walk_plain rfl fun K hK => ?_;refine one_bin _ _ _ _ _ rfl _ _ _ rfl rfl rfl (fun r hr => ?_);go_simp;refine hK _ ?_;clear hK K) | (refine Qr.walk_plain rfl fun K hK => ?_;apply Qr.one_det;(focus (intro w' hw';have HK:=keep hkept hw';simp only [Kept,ka,kb,kc,kd,ke,kf,kg] at HK;go_simp;first | done | rfl));go_simp;refine hK _ ?_;clear hK K) | (refine Qr.walk_plain rfl fun K hK => ?_;apply Qr.one_call;(focus (intro w' hw';go_simp;first | done | exact ⟨rfl,rfl⟩));(focus (intro w' hw'; go_at_call 197;refine (s_lesser_any _ _ _).mono ?_;rintro _ w2 ⟨r1,rfl,hr1,hb1⟩ ;exact ⟨_,rfl,by constructor <;> assumption,below_step hw' (by assumption),by assumption⟩));intro v hv;cases hv;go_simp;refine hK _ ?_;clear hK K) | (refine Qr.walk_plain rfl fun K hK => ?_;apply Qr.one_call;(focus (intro w' hw';go_simp;first | done | exact ⟨rfl,rfl⟩));(focus (intro w' hw'; go_at_call 198;refine (s_greater_any _ _ _).mono ?_;rintro _ w2 ⟨r1,rfl,hr1,hb1⟩ ;exact ⟨_,rfl,by constructor <;> assumption,below_step hw' (by assumption),by assumption⟩));intro v hv;cases hv;go_simp;refine hK _ ?_;clear hK K) | (refine Qr.walk_plain rfl fun K hK => ?_;apply Qr.one_call;(focus (intro w' hw';go_simp;first | done | exact ⟨rfl,rfl⟩));(focus (intro w' hw'; go_at_call 201;refine (s_round_any _ _ _).mono ?_;rintro _ w2 ⟨r1,rfl,hr1,hb1⟩ ;exact ⟨_,rfl,by constructor <;> assumption,below_step hw' (by assumption),by assumption⟩));intro v hv;cases hv;go_simp;refine hK _ ?_;clear hK K) | (refine Qr.walk_plain rfl fun K hK => ?_;apply Qr.one_call;(focus (intro w' hw';go_simp;first | done | exact ⟨rfl,rfl⟩));(focus (intro w' hw'; go_at_call 194;refine (s_sizer_any _ _ _).mono ?_;rintro _ w2 ⟨l1,u1,rfl,hr1,hb1⟩ ;exact ⟨_,rfl,by constructor <;> assumption,below_step hw' (by assumption),by assumption⟩));intro v hv;cases hv;go_simp;refine hK _ ?_;clear hK K) | (refine Qr.walk_plain rfl fun K hK => ?_;apply Qr.one_call;(focus (intro w' hw';go_simp;first | done | exact ⟨rfl,rfl⟩));(focus (intro w' hw'; go_at_call 193;refine (s_times_any _ _ _ _).mono ?_;rintro _ w2 ⟨l1,u1,rfl,hr1,hb1⟩ ;exact ⟨_,rfl,by constructor <;> assumption,below_step hw' (by assumption),by assumption⟩));intro v hv;cases hv;go_simp;refine hK _ ?_;clear hK K) | (refine Qr.walk_plain rfl fun K hK => ?_;apply Qr.one_call;(focus (intro w' hw';go_simp;first | done | exact ⟨rfl,rfl⟩));(focus (intro w' hw'; go_at_call 187;refine (s_rless_any _ _ _ _ _).mono ?_;rintro _ w2 ⟨l1,u1,rfl,hr1,hb1⟩ ;exact ⟨_,rfl,by constructor <;> assumption,below_step hw' (by assumption),by assumption⟩));intro v hv;cases hv;go_simp;refine hK _ ?_;clear hK K) | (refine Qr.walk_plain rfl fun K hK => ?_;apply Qr.one_call;(focus (intro w' hw';go_simp;first | done | exact ⟨rfl,rfl⟩));(focus (intro w' hw'; go_at_call 200;refine (s_near_any _ _ _ _ _).mono ?_;rintro _ w2 ⟨l1,u1,rfl,hr1,hb1⟩ ;exact ⟨_,rfl,by constructor <;> assumption,below_step hw' (by assumption),by assumption⟩));intro v hv;cases hv;go_simp;refine hK _ ?_;clear hK K) | (refine Qr.walk_plain rfl fun K hK => ?_;apply Qr.one_call;(focus (intro w' hw';go_simp;first | done | exact ⟨rfl,rfl⟩));(focus (intro w' hw'; go_at_call 188;refine (s_one_any _ _).mono ?_;rintro _ w2 ⟨l1,u1,rfl,hr1,hb1⟩ ;exact ⟨_,rfl,by constructor <;> assumption,below_step hw' (by assumption),by assumption⟩));intro v hv;cases hv;go_simp;refine hK _ ?_;clear hK K))
 rename_i r1 h1 r2 h2
 refine Qr.walk_nil fun w6 hw6 => ?_
 have hkept:=keep hkept hw6
 have W6b:=below_step W1b hw6
 clear hK
 have hK:=hkept
 simp only [Kept,ka,kb,kc,kd,ke,kf,kg] at hK
 go_wp2_with fail
 exact bodyPost_ret (v:=RgV r1 r2) (by simp [results,Tryz.results124,go_sem,hK,World.cell?_setCell_other,World.cell?_setCell_same'];first | done | exact ⟨rfl,rfl⟩) rfl ⟨_,_,rfl,pr h1 h2,bel2 W6b (by omega) ..⟩

set_option maxRecDepth 100000 in
set_option maxHeartbeats 2000000 in
theorem s_mixr_cut {b o x0 x1 y0 y1:Nat} {w:World} (hN:Kept [(⟨b,o,none⟩,.int .i64 6)] [] w) :
  Calls Tryz.prog 124 #[.pointer (some ⟨b,o,none⟩),RgV x0 x1,RgV y0 y1] w (RetR (greaterF (cn .f32 x0) (cn .f32 y0),greaterF (cn .f32 x1) (cn .f32 y1)) w):=by
 have hK:=hN
 simp only [Kept,ka,kb,kc,kd,ke,kf,kg] at hK
 have hb:b < w.heap.size:=some_lt (a:=⟨b,o,none⟩) (by rw [hK];rfl)
 go_enter Tryz.func124,Tryz.ntmps124
 go_upto_region 1 with fail
 clear hK
 generalize hW:((w.alloc (.cells #[F1 x0,F1 x1] 118)).alloc (.cells #[F1 y0,F1 y1] 118)).alloc (.cells #[F1 0,F1 0] 118) = W1 at *
 have W1b:Below w.heap.size w W1:=by subst hW;exact (by repeat' (first | exact Below.refl _ _ | exact Nat.le_refl _ | refine below_drewN ?_ _ | refine Below.alloc ?_ (by simp <;> omega) _ | refine Below.setCell ?_ (by simp <;> omega) _ | refine below_step ?_ (by assumption)))
 have hkept:Kept [(⟨w.heap.size,0,none⟩,F1 x0),(⟨w.heap.size,1,none⟩,F1 x1),(⟨w.heap.size + 1,0,none⟩,F1 y0),(⟨w.heap.size + 1,1,none⟩,F1 y1),(⟨w.heap.size + 1 + 1,0,none⟩,F1 0),(⟨w.heap.size + 1 + 1,1,none⟩,F1 0)] [⟨w.heap.size + 1 + 1,0,none⟩,⟨w.heap.size + 1 + 1,1,none⟩] W1:=by
  subst hW;simp only [Kept,ka,kb,kc,kd,ke,kf,kg];(first | (go_simp;done) | (simp [World.cell?,World.frozen?,World.alloc,Array.getElem?_push];done))
 clear hW
 have hkept:=kept_app (keep hN W1b) hkept
 clear hN
 have hK:=hkept;simp only [Kept,ka,kb,kc,kd,ke,kf,kg] at hK
 have hb1:b < W1.heap.size:=Nat.lt_of_lt_of_le hb W1b.size
 go_upto_region 5 with fail
 refine Qr.wp_below 11 (by kernel_rfl) (by kernel_rfl) PhiMs ?_
 repeat (first | (refine Qr.walk_plain rfl fun K hK => ?_;refine one_bin _ _ _ _ _ rfl _ _ _ rfl rfl rfl (fun r hr => ?_);go_simp;refine hK _ ?_;clear hK K) | (refine Qr.walk_plain rfl fun K hK => ?_;apply Qr.one_det;(focus (intro w' hw';have HK:=keep hkept hw';simp only [Kept,ka,kb,kc,kd,ke,kf,kg] at HK;go_simp;first | done | rfl));go_simp;refine hK _ ?_;clear hK K) | (refine Qr.walk_plain rfl fun K hK => ?_;apply Qr.one_call;(focus (intro w' hw';go_simp;first | done | exact ⟨rfl,rfl⟩));(focus (intro w' hw'; go_at_call 197;refine (s_lesser_any _ _ _).mono ?_;rintro _ w2 ⟨r1,rfl,hr1,hb1⟩ ;exact ⟨_,rfl,by constructor <;> assumption,below_step hw' (by assumption),by assumption⟩));intro v hv;cases hv;go_simp;refine hK _ ?_;clear hK K) | (refine Qr.walk_plain rfl fun K hK => ?_;apply Qr.one_call;(focus (intro w' hw';go_simp;first | done | exact ⟨rfl,rfl⟩));(focus (intro w' hw'; go_at_call 198;refine (s_greater_any _ _ _).mono ?_;rintro _ w2 ⟨r1,rfl,hr1,hb1⟩ ;exact ⟨_,rfl,by constructor <;> assumption,below_step hw' (by assumption),by assumption⟩));intro v hv;cases hv;go_simp;refine hK _ ?_;clear hK K) | (refine Qr.walk_plain rfl fun K hK => ?_;apply Qr.one_call;(focus (intro w' hw';go_simp;first | done | exact ⟨rfl,rfl⟩));(focus (intro w' hw'; go_at_call 201;refine (s_round_any _ _ _).mono ?_;rintro _ w2 ⟨r1,rfl,hr1,hb1⟩ ;exact ⟨_,rfl,by constructor <;> assumption,below_step hw' (by assumption),by assumption⟩));intro v hv;cases hv;go_simp;refine hK _ ?_;clear hK K) | (refine Qr.walk_plain rfl fun K hK => ?_;apply Qr.one_call;(focus (intro w' hw';go_simp;first | done | exact ⟨rfl,rfl⟩));(focus (intro w' hw'; go_at_call 194;refine (s_sizer_any _ _ _).mono ?_;rintro _ w2 ⟨l1,u1,rfl,hr1,hb1⟩ ;exact ⟨_,rfl,by constructor <;> assumption,below_step hw' (by assumption),by assumption⟩));intro v hv;cases hv;go_simp;refine hK _ ?_;clear hK K) | (refine Qr.walk_plain rfl fun K hK => ?_;apply Qr.one_call;(focus (intro w' hw';go_simp;first | done | exact ⟨rfl,rfl⟩));(focus (intro w' hw'; go_at_call 193;refine (s_times_any _ _ _ _).mono ?_;rintro _ w2 ⟨l1,u1,rfl,hr1,hb1⟩ ;exact ⟨_,rfl,by constructor <;> assumption,below_step hw' (by assumption),by assumption⟩));intro v hv;cases hv;go_simp;refine hK _ ?_;clear hK K) | (refine Qr.walk_plain rfl fun K hK => ?_;apply Qr.one_call;(focus (intro w' hw';go_simp;first | done | exact ⟨rfl,rfl⟩));(focus (intro w' hw'; go_at_call 187;refine (s_rless_any _ _ _ _ _).mono ?_;rintro _ w2 ⟨l1,u1,rfl,hr1,hb1⟩ ;exact ⟨_,rfl,by constructor <;> assumption,below_step hw' (by assumption),by assumption⟩));intro v hv;cases hv;go_simp;refine hK _ ?_;clear hK K) | (refine Qr.walk_plain rfl fun K hK => ?_;apply Qr.one_call;(focus (intro w' hw';go_simp;first | done | exact ⟨rfl,rfl⟩));(focus (intro w' hw'; go_at_call 200;refine (s_near_any _ _ _ _ _).mono ?_;rintro _ w2 ⟨l1,u1,rfl,hr1,hb1⟩ ;exact ⟨_,rfl,by constructor <;> assumption,below_step hw' (by assumption),by assumption⟩));intro v hv;cases hv;go_simp;refine hK _ ?_;clear hK K) | (refine Qr.walk_plain rfl fun K hK => ?_;apply Qr.one_call;(focus (intro w' hw';go_simp;first | done | exact ⟨rfl,rfl⟩));(focus (intro w' hw'; go_at_call 188;refine (s_one_any _ _).mono ?_;rintro _ w2 ⟨l1,u1,rfl,hr1,hb1⟩ ;exact ⟨_,rfl,by constructor <;> assumption,below_step hw' (by assumption),by assumption⟩));intro v hv;cases hv;go_simp;refine hK _ ?_;clear hK K))
 rename_i r1 h1 r2 h2
 refine Qr.walk_nil fun w6 hw6 => ?_
 have hkept:=keep hkept hw6
 have W6b:=below_step W1b hw6
 clear hK
 have hK:=hkept
 simp only [Kept,ka,kb,kc,kd,ke,kf,kg] at hK
 go_wp2_with fail
 exact bodyPost_ret (v:=RgV r1 r2) (by simp [results,Tryz.results124,go_sem,hK,World.cell?_setCell_other,World.cell?_setCell_same'];first | done | exact ⟨rfl,rfl⟩) rfl ⟨_,_,rfl,pr h1 h2,bel2 W6b (by omega) ..⟩

set_option maxRecDepth 100000 in
set_option maxHeartbeats 2000000 in
theorem s_mixr_less {b o x0 x1 y0 y1:Nat} {w:World} (hN:Kept [(⟨b,o,none⟩,.int .i64 7)] [] w) :
  Calls Tryz.prog 124 #[.pointer (some ⟨b,o,none⟩),RgV x0 x1,RgV y0 y1] w (RetR (greaterF (cn .f32 x0) (negc .f32 (cn .f32 y1)),greaterF (cn .f32 x1) (negc .f32 (cn .f32 y0))) w):=by
 have hK:=hN
 simp only [Kept,ka,kb,kc,kd,ke,kf,kg] at hK
 have hb:b < w.heap.size:=some_lt (a:=⟨b,o,none⟩) (by rw [hK];rfl)
 go_enter Tryz.func124,Tryz.ntmps124
 go_upto_region 1 with fail
 clear hK
 generalize hW:((w.alloc (.cells #[F1 x0,F1 x1] 118)).alloc (.cells #[F1 y0,F1 y1] 118)).alloc (.cells #[F1 0,F1 0] 118) = W1 at *
 have W1b:Below w.heap.size w W1:=by subst hW;exact (by repeat' (first | exact Below.refl _ _ | exact Nat.le_refl _ | refine below_drewN ?_ _ | refine Below.alloc ?_ (by simp <;> omega) _ | refine Below.setCell ?_ (by simp <;> omega) _ | refine below_step ?_ (by assumption)))
 have hkept:Kept [(⟨w.heap.size,0,none⟩,F1 x0),(⟨w.heap.size,1,none⟩,F1 x1),(⟨w.heap.size + 1,0,none⟩,F1 y0),(⟨w.heap.size + 1,1,none⟩,F1 y1),(⟨w.heap.size + 1 + 1,0,none⟩,F1 0),(⟨w.heap.size + 1 + 1,1,none⟩,F1 0)] [⟨w.heap.size + 1 + 1,0,none⟩,⟨w.heap.size + 1 + 1,1,none⟩] W1:=by
  subst hW;simp only [Kept,ka,kb,kc,kd,ke,kf,kg];(first | (go_simp;done) | (simp [World.cell?,World.frozen?,World.alloc,Array.getElem?_push];done))
 clear hW
 have hkept:=kept_app (keep hN W1b) hkept
 clear hN
 have hK:=hkept;simp only [Kept,ka,kb,kc,kd,ke,kf,kg] at hK
 have hb1:b < W1.heap.size:=Nat.lt_of_lt_of_le hb W1b.size
 go_upto_region 7 with fail
 refine Qr.wp_below 13 (by kernel_rfl) (by kernel_rfl) PhiMs ?_
 repeat (first | (refine Qr.walk_plain rfl fun K hK => ?_;refine one_bin _ _ _ _ _ rfl _ _ _ rfl rfl rfl (fun r hr => ?_);go_simp;refine hK _ ?_;clear hK K) | (refine Qr.walk_plain rfl fun K hK => ?_;apply Qr.one_det;(focus (intro w' hw';have HK:=keep hkept hw';simp only [Kept,ka,kb,kc,kd,ke,kf,kg] at HK;go_simp;first | done | rfl));go_simp;refine hK _ ?_;clear hK K) | (refine Qr.walk_plain rfl fun K hK => ?_;apply Qr.one_call;(focus (intro w' hw';go_simp;first | done | exact ⟨rfl,rfl⟩));(focus (intro w' hw'; go_at_call 197;refine (s_lesser_any _ _ _).mono ?_;rintro _ w2 ⟨r1,rfl,hr1,hb1⟩ ;exact ⟨_,rfl,by constructor <;> assumption,below_step hw' (by assumption),by assumption⟩));intro v hv;cases hv;go_simp;refine hK _ ?_;clear hK K) | (refine Qr.walk_plain rfl fun K hK => ?_;apply Qr.one_call;(focus (intro w' hw';go_simp;first | done | exact ⟨rfl,rfl⟩));(focus (intro w' hw'; go_at_call 198;refine (s_greater_any _ _ _).mono ?_;rintro _ w2 ⟨r1,rfl,hr1,hb1⟩ ;exact ⟨_,rfl,by constructor <;> assumption,below_step hw' (by assumption),by assumption⟩));intro v hv;cases hv;go_simp;refine hK _ ?_;clear hK K) | (refine Qr.walk_plain rfl fun K hK => ?_;apply Qr.one_call;(focus (intro w' hw';go_simp;first | done | exact ⟨rfl,rfl⟩));(focus (intro w' hw'; go_at_call 201;refine (s_round_any _ _ _).mono ?_;rintro _ w2 ⟨r1,rfl,hr1,hb1⟩ ;exact ⟨_,rfl,by constructor <;> assumption,below_step hw' (by assumption),by assumption⟩));intro v hv;cases hv;go_simp;refine hK _ ?_;clear hK K) | (refine Qr.walk_plain rfl fun K hK => ?_;apply Qr.one_call;(focus (intro w' hw';go_simp;first | done | exact ⟨rfl,rfl⟩));(focus (intro w' hw'; go_at_call 194;refine (s_sizer_any _ _ _).mono ?_;rintro _ w2 ⟨l1,u1,rfl,hr1,hb1⟩ ;exact ⟨_,rfl,by constructor <;> assumption,below_step hw' (by assumption),by assumption⟩));intro v hv;cases hv;go_simp;refine hK _ ?_;clear hK K) | (refine Qr.walk_plain rfl fun K hK => ?_;apply Qr.one_call;(focus (intro w' hw';go_simp;first | done | exact ⟨rfl,rfl⟩));(focus (intro w' hw'; go_at_call 193;refine (s_times_any _ _ _ _).mono ?_;rintro _ w2 ⟨l1,u1,rfl,hr1,hb1⟩ ;exact ⟨_,rfl,by constructor <;> assumption,below_step hw' (by assumption),by assumption⟩));intro v hv;cases hv;go_simp;refine hK _ ?_;clear hK K) | (refine Qr.walk_plain rfl fun K hK => ?_;apply Qr.one_call;(focus (intro w' hw';go_simp;first | done | exact ⟨rfl,rfl⟩));(focus (intro w' hw'; go_at_call 187;refine (s_rless_any _ _ _ _ _).mono ?_;rintro _ w2 ⟨l1,u1,rfl,hr1,hb1⟩ ;exact ⟨_,rfl,by constructor <;> assumption,below_step hw' (by assumption),by assumption⟩));intro v hv;cases hv;go_simp;refine hK _ ?_;clear hK K) | (refine Qr.walk_plain rfl fun K hK => ?_;apply Qr.one_call;(focus (intro w' hw';go_simp;first | done | exact ⟨rfl,rfl⟩));(focus (intro w' hw'; go_at_call 200;refine (s_near_any _ _ _ _ _).mono ?_;rintro _ w2 ⟨l1,u1,rfl,hr1,hb1⟩ ;exact ⟨_,rfl,by constructor <;> assumption,below_step hw' (by assumption),by assumption⟩));intro v hv;cases hv;go_simp;refine hK _ ?_;clear hK K) | (refine Qr.walk_plain rfl fun K hK => ?_;apply Qr.one_call;(focus (intro w' hw';go_simp;first | done | exact ⟨rfl,rfl⟩));(focus (intro w' hw'; go_at_call 188;refine (s_one_any _ _).mono ?_;rintro _ w2 ⟨l1,u1,rfl,hr1,hb1⟩ ;exact ⟨_,rfl,by constructor <;> assumption,below_step hw' (by assumption),by assumption⟩));intro v hv;cases hv;go_simp;refine hK _ ?_;clear hK K))
 rename_i r1 h1 r2 h2
 refine Qr.walk_nil fun w6 hw6 => ?_
 have hkept:=keep hkept hw6
 have W6b:=below_step W1b hw6
 clear hK
 have hK:=hkept
 simp only [Kept,ka,kb,kc,kd,ke,kf,kg] at hK
 go_wp2_with fail
 exact bodyPost_ret (v:=RgV r1 r2) (by simp [results,Tryz.results124,go_sem,hK,World.cell?_setCell_other,World.cell?_setCell_same'];first | done | exact ⟨rfl,rfl⟩) rfl ⟨_,_,rfl,by rw [h1,h2,negc_cn,negc_cn],bel2 W6b (by omega) ..⟩

set_option maxRecDepth 100000 in
set_option maxHeartbeats 2000000 in
theorem s_mixr_scale {b o bv ov cap k x0 x1 y0 y1:Nat} {w:World} (hN:Kept [(⟨b,o,none⟩,.int .i64 10),(⟨b,o + 3,none⟩,.slice (some ⟨bv,ov,none⟩) 1 cap),(⟨bv,ov,none⟩,F1 k)] [] w) :
  Calls Tryz.prog 124 #[.pointer (some ⟨b,o,none⟩),RgV x0 x1,RgV y0 y1] w (RetR (timesR (cn .f32 x0,cn .f32 x1) (cn .f32 k)) w):=by
 have hK:=hN
 simp only [Kept,ka,kb,kc,kd,ke,kf,kg] at hK
 have hb:b < w.heap.size:=some_lt (a:=⟨b,o,none⟩) (by rw [hK.1];rfl)
 go_enter Tryz.func124,Tryz.ntmps124
 go_upto_region 1 with fail
 clear hK
 generalize hW:((w.alloc (.cells #[F1 x0,F1 x1] 118)).alloc (.cells #[F1 y0,F1 y1] 118)).alloc (.cells #[F1 0,F1 0] 118) = W1 at *
 have W1b:Below w.heap.size w W1:=by subst hW;exact (by repeat' (first | exact Below.refl _ _ | exact Nat.le_refl _ | refine below_drewN ?_ _ | refine Below.alloc ?_ (by simp <;> omega) _ | refine Below.setCell ?_ (by simp <;> omega) _ | refine below_step ?_ (by assumption)))
 have hkept:Kept [(⟨w.heap.size,0,none⟩,F1 x0),(⟨w.heap.size,1,none⟩,F1 x1),(⟨w.heap.size + 1,0,none⟩,F1 y0),(⟨w.heap.size + 1,1,none⟩,F1 y1),(⟨w.heap.size + 1 + 1,0,none⟩,F1 0),(⟨w.heap.size + 1 + 1,1,none⟩,F1 0)] [⟨w.heap.size + 1 + 1,0,none⟩,⟨w.heap.size + 1 + 1,1,none⟩] W1:=by
  subst hW;simp only [Kept,ka,kb,kc,kd,ke,kf,kg];(first | (go_simp;done) | (simp [World.cell?,World.frozen?,World.alloc,Array.getElem?_push];done))
 clear hW
 have hkept:=kept_app (keep hN W1b) hkept
 clear hN
 have hK:=hkept;simp only [Kept,ka,kb,kc,kd,ke,kf,kg] at hK
 have hb1:b < W1.heap.size:=Nat.lt_of_lt_of_le hb W1b.size
 go_upto_region 14 with fail
 refine Qr.wp_below 8 (by kernel_rfl) (by kernel_rfl) PhiMs ?_
 repeat (first | (refine Qr.walk_plain rfl fun K hK => ?_;refine one_bin _ _ _ _ _ rfl _ _ _ rfl rfl rfl (fun r hr => ?_);go_simp;refine hK _ ?_;clear hK K) | (refine Qr.walk_plain rfl fun K hK => ?_;apply Qr.one_det;(focus (intro w' hw';have HK:=keep hkept hw';simp only [Kept,ka,kb,kc,kd,ke,kf,kg] at HK;go_simp;first | done | rfl));go_simp;refine hK _ ?_;clear hK K) | (refine Qr.walk_plain rfl fun K hK => ?_;apply Qr.one_call;(focus (intro w' hw';go_simp;first | done | exact ⟨rfl,rfl⟩));(focus (intro w' hw'; go_at_call 197;refine (s_lesser_any _ _ _).mono ?_;rintro _ w2 ⟨r1,rfl,hr1,hb1⟩ ;exact ⟨_,rfl,by constructor <;> assumption,below_step hw' (by assumption),by assumption⟩));intro v hv;cases hv;go_simp;refine hK _ ?_;clear hK K) | (refine Qr.walk_plain rfl fun K hK => ?_;apply Qr.one_call;(focus (intro w' hw';go_simp;first | done | exact ⟨rfl,rfl⟩));(focus (intro w' hw'; go_at_call 198;refine (s_greater_any _ _ _).mono ?_;rintro _ w2 ⟨r1,rfl,hr1,hb1⟩ ;exact ⟨_,rfl,by constructor <;> assumption,below_step hw' (by assumption),by assumption⟩));intro v hv;cases hv;go_simp;refine hK _ ?_;clear hK K) | (refine Qr.walk_plain rfl fun K hK => ?_;apply Qr.one_call;(focus (intro w' hw';go_simp;first | done | exact ⟨rfl,rfl⟩));(focus (intro w' hw'; go_at_call 201;refine (s_round_any _ _ _).mono ?_;rintro _ w2 ⟨r1,rfl,hr1,hb1⟩ ;exact ⟨_,rfl,by constructor <;> assumption,below_step hw' (by assumption),by assumption⟩));intro v hv;cases hv;go_simp;refine hK _ ?_;clear hK K) | (refine Qr.walk_plain rfl fun K hK => ?_;apply Qr.one_call;(focus (intro w' hw';go_simp;first | done | exact ⟨rfl,rfl⟩));(focus (intro w' hw'; go_at_call 194;refine (s_sizer_any _ _ _).mono ?_;rintro _ w2 ⟨l1,u1,rfl,hr1,hb1⟩ ;exact ⟨_,rfl,by constructor <;> assumption,below_step hw' (by assumption),by assumption⟩));intro v hv;cases hv;go_simp;refine hK _ ?_;clear hK K) | (refine Qr.walk_plain rfl fun K hK => ?_;apply Qr.one_call;(focus (intro w' hw';go_simp;first | done | exact ⟨rfl,rfl⟩));(focus (intro w' hw'; go_at_call 193;refine (s_times_any _ _ _ _).mono ?_;rintro _ w2 ⟨l1,u1,rfl,hr1,hb1⟩ ;exact ⟨_,rfl,by constructor <;> assumption,below_step hw' (by assumption),by assumption⟩));intro v hv;cases hv;go_simp;refine hK _ ?_;clear hK K) | (refine Qr.walk_plain rfl fun K hK => ?_;apply Qr.one_call;(focus (intro w' hw';go_simp;first | done | exact ⟨rfl,rfl⟩));(focus (intro w' hw'; go_at_call 187;refine (s_rless_any _ _ _ _ _).mono ?_;rintro _ w2 ⟨l1,u1,rfl,hr1,hb1⟩ ;exact ⟨_,rfl,by constructor <;> assumption,below_step hw' (by assumption),by assumption⟩));intro v hv;cases hv;go_simp;refine hK _ ?_;clear hK K) | (refine Qr.walk_plain rfl fun K hK => ?_;apply Qr.one_call;(focus (intro w' hw';go_simp;first | done | exact ⟨rfl,rfl⟩));(focus (intro w' hw'; go_at_call 200;refine (s_near_any _ _ _ _ _).mono ?_;rintro _ w2 ⟨l1,u1,rfl,hr1,hb1⟩ ;exact ⟨_,rfl,by constructor <;> assumption,below_step hw' (by assumption),by assumption⟩));intro v hv;cases hv;go_simp;refine hK _ ?_;clear hK K) | (refine Qr.walk_plain rfl fun K hK => ?_;apply Qr.one_call;(focus (intro w' hw';go_simp;first | done | exact ⟨rfl,rfl⟩));(focus (intro w' hw'; go_at_call 188;refine (s_one_any _ _).mono ?_;rintro _ w2 ⟨l1,u1,rfl,hr1,hb1⟩ ;exact ⟨_,rfl,by constructor <;> assumption,below_step hw' (by assumption),by assumption⟩));intro v hv;cases hv;go_simp;refine hK _ ?_;clear hK K))
 rename_i r1 r2 h1
 refine Qr.walk_nil fun w6 hw6 => ?_
 have hkept:=keep hkept hw6
 have W6b:=below_step W1b hw6
 clear hK
 have hK:=hkept
 simp only [Kept,ka,kb,kc,kd,ke,kf,kg] at hK
 go_wp2_with fail
 exact bodyPost_ret (v:=RgV r1 r2) (by simp [results,Tryz.results124,go_sem,hK,World.cell?_setCell_other,World.cell?_setCell_same'];first | done | exact ⟨rfl,rfl⟩) rfl ⟨_,_,rfl,h1,bel2 W6b (by omega) ..⟩

set_option maxRecDepth 100000 in
set_option maxHeartbeats 2000000 in
theorem s_mixr_round {b o bv ov cap k x0 x1 y0 y1:Nat} {w:World} (hN:Kept [(⟨b,o,none⟩,.int .i64 15),(⟨b,o + 3,none⟩,.slice (some ⟨bv,ov,none⟩) 1 cap),(⟨bv,ov,none⟩,F1 k)] [] w) :
  Calls Tryz.prog 124 #[.pointer (some ⟨b,o,none⟩),RgV x0 x1,RgV y0 y1] w (RetR (downR (cn .f32 x0,cn .f32 x1) (cn .f32 k)) w):=by
 have hK:=hN
 simp only [Kept,ka,kb,kc,kd,ke,kf,kg] at hK
 have hb:b < w.heap.size:=some_lt (a:=⟨b,o,none⟩) (by rw [hK.1];rfl)
 go_enter Tryz.func124,Tryz.ntmps124
 go_upto_region 1 with fail
 clear hK
 generalize hW:((w.alloc (.cells #[F1 x0,F1 x1] 118)).alloc (.cells #[F1 y0,F1 y1] 118)).alloc (.cells #[F1 0,F1 0] 118) = W1 at *
 have W1b:Below w.heap.size w W1:=by subst hW;exact (by repeat' (first | exact Below.refl _ _ | exact Nat.le_refl _ | refine below_drewN ?_ _ | refine Below.alloc ?_ (by simp <;> omega) _ | refine Below.setCell ?_ (by simp <;> omega) _ | refine below_step ?_ (by assumption)))
 have hkept:Kept [(⟨w.heap.size,0,none⟩,F1 x0),(⟨w.heap.size,1,none⟩,F1 x1),(⟨w.heap.size + 1,0,none⟩,F1 y0),(⟨w.heap.size + 1,1,none⟩,F1 y1),(⟨w.heap.size + 1 + 1,0,none⟩,F1 0),(⟨w.heap.size + 1 + 1,1,none⟩,F1 0)] [⟨w.heap.size + 1 + 1,0,none⟩,⟨w.heap.size + 1 + 1,1,none⟩] W1:=by
  subst hW;simp only [Kept,ka,kb,kc,kd,ke,kf,kg];(first | (go_simp;done) | (simp [World.cell?,World.frozen?,World.alloc,Array.getElem?_push];done))
 clear hW
 have hkept:=kept_app (keep hN W1b) hkept
 clear hN
 have hK:=hkept;simp only [Kept,ka,kb,kc,kd,ke,kf,kg] at hK
 have hb1:b < W1.heap.size:=Nat.lt_of_lt_of_le hb W1b.size
 go_upto_region 16 with fail
 refine Qr.wp_below 9 (by kernel_rfl) (by kernel_rfl) PhiMs ?_
 repeat (first | (refine Qr.walk_plain rfl fun K hK => ?_;refine one_bin _ _ _ _ _ rfl _ _ _ rfl rfl rfl (fun r hr => ?_);go_simp;refine hK _ ?_;clear hK K) | (refine Qr.walk_plain rfl fun K hK => ?_;apply Qr.one_det;(focus (intro w' hw';have HK:=keep hkept hw';simp only [Kept,ka,kb,kc,kd,ke,kf,kg] at HK;go_simp;first | done | rfl));go_simp;refine hK _ ?_;clear hK K) | (refine Qr.walk_plain rfl fun K hK => ?_;apply Qr.one_call;(focus (intro w' hw';go_simp;first | done | exact ⟨rfl,rfl⟩));(focus (intro w' hw'; go_at_call 197;refine (s_lesser_any _ _ _).mono ?_;rintro _ w2 ⟨r1,rfl,hr1,hb1⟩ ;exact ⟨_,rfl,by constructor <;> assumption,below_step hw' (by assumption),by assumption⟩));intro v hv;cases hv;go_simp;refine hK _ ?_;clear hK K) | (refine Qr.walk_plain rfl fun K hK => ?_;apply Qr.one_call;(focus (intro w' hw';go_simp;first | done | exact ⟨rfl,rfl⟩));(focus (intro w' hw'; go_at_call 198;refine (s_greater_any _ _ _).mono ?_;rintro _ w2 ⟨r1,rfl,hr1,hb1⟩ ;exact ⟨_,rfl,by constructor <;> assumption,below_step hw' (by assumption),by assumption⟩));intro v hv;cases hv;go_simp;refine hK _ ?_;clear hK K) | (refine Qr.walk_plain rfl fun K hK => ?_;apply Qr.one_call;(focus (intro w' hw';go_simp;first | done | exact ⟨rfl,rfl⟩));(focus (intro w' hw'; go_at_call 201;refine (s_round_any _ _ _).mono ?_;rintro _ w2 ⟨r1,rfl,hr1,hb1⟩ ;exact ⟨_,rfl,by constructor <;> assumption,below_step hw' (by assumption),by assumption⟩));intro v hv;cases hv;go_simp;refine hK _ ?_;clear hK K) | (refine Qr.walk_plain rfl fun K hK => ?_;apply Qr.one_call;(focus (intro w' hw';go_simp;first | done | exact ⟨rfl,rfl⟩));(focus (intro w' hw'; go_at_call 194;refine (s_sizer_any _ _ _).mono ?_;rintro _ w2 ⟨l1,u1,rfl,hr1,hb1⟩ ;exact ⟨_,rfl,by constructor <;> assumption,below_step hw' (by assumption),by assumption⟩));intro v hv;cases hv;go_simp;refine hK _ ?_;clear hK K) | (refine Qr.walk_plain rfl fun K hK => ?_;apply Qr.one_call;(focus (intro w' hw';go_simp;first | done | exact ⟨rfl,rfl⟩));(focus (intro w' hw'; go_at_call 193;refine (s_times_any _ _ _ _).mono ?_;rintro _ w2 ⟨l1,u1,rfl,hr1,hb1⟩ ;exact ⟨_,rfl,by constructor <;> assumption,below_step hw' (by assumption),by assumption⟩));intro v hv;cases hv;go_simp;refine hK _ ?_;clear hK K) | (refine Qr.walk_plain rfl fun K hK => ?_;apply Qr.one_call;(focus (intro w' hw';go_simp;first | done | exact ⟨rfl,rfl⟩));(focus (intro w' hw'; go_at_call 187;refine (s_rless_any _ _ _ _ _).mono ?_;rintro _ w2 ⟨l1,u1,rfl,hr1,hb1⟩ ;exact ⟨_,rfl,by constructor <;> assumption,below_step hw' (by assumption),by assumption⟩));intro v hv;cases hv;go_simp;refine hK _ ?_;clear hK K) | (refine Qr.walk_plain rfl fun K hK => ?_;apply Qr.one_call;(focus (intro w' hw';go_simp;first | done | exact ⟨rfl,rfl⟩));(focus (intro w' hw'; go_at_call 200;refine (s_near_any _ _ _ _ _).mono ?_;rintro _ w2 ⟨l1,u1,rfl,hr1,hb1⟩ ;exact ⟨_,rfl,by constructor <;> assumption,below_step hw' (by assumption),by assumption⟩));intro v hv;cases hv;go_simp;refine hK _ ?_;clear hK K) | (refine Qr.walk_plain rfl fun K hK => ?_;apply Qr.one_call;(focus (intro w' hw';go_simp;first | done | exact ⟨rfl,rfl⟩));(focus (intro w' hw'; go_at_call 188;refine (s_one_any _ _).mono ?_;rintro _ w2 ⟨l1,u1,rfl,hr1,hb1⟩ ;exact ⟨_,rfl,by constructor <;> assumption,below_step hw' (by assumption),by assumption⟩));intro v hv;cases hv;go_simp;refine hK _ ?_;clear hK K))
 rename_i l1 u1 h0 r1 r2 h1
 refine Qr.walk_nil fun w6 hw6 => ?_
 have hkept:=keep hkept hw6
 have W6b:=below_step W1b hw6
 clear hK
 have hK:=hkept
 simp only [Kept,ka,kb,kc,kd,ke,kf,kg] at hK
 go_wp2_with fail
 exact bodyPost_ret (v:=RgV r1 r2) (by simp [results,Tryz.results124,go_sem,hK,World.cell?_setCell_other,World.cell?_setCell_same'];first | done | exact ⟨rfl,rfl⟩) rfl ⟨_,_,rfl,h1.trans (by rw [h0];rfl),bel2 W6b (by omega) ..⟩

set_option maxRecDepth 100000 in
set_option maxHeartbeats 2000000 in
theorem s_mixr_shell {b o bv ov cap k x0 x1 y0 y1:Nat} {w:World} (hN:Kept [(⟨b,o,none⟩,.int .i64 16),(⟨b,o + 3,none⟩,.slice (some ⟨bv,ov,none⟩) 1 cap),(⟨bv,ov,none⟩,F1 k)] [] w) :
  Calls Tryz.prog 124 #[.pointer (some ⟨b,o,none⟩),RgV x0 x1,RgV y0 y1] w (RetR (downR (sizeR (cn .f32 x0,cn .f32 x1)) (cn .f32 k)) w):=by
 have hK:=hN
 simp only [Kept,ka,kb,kc,kd,ke,kf,kg] at hK
 have hb:b < w.heap.size:=some_lt (a:=⟨b,o,none⟩) (by rw [hK.1];rfl)
 go_enter Tryz.func124,Tryz.ntmps124
 go_upto_region 1 with fail
 clear hK
 generalize hW:((w.alloc (.cells #[F1 x0,F1 x1] 118)).alloc (.cells #[F1 y0,F1 y1] 118)).alloc (.cells #[F1 0,F1 0] 118) = W1 at *
 have W1b:Below w.heap.size w W1:=by subst hW;exact (by repeat' (first | exact Below.refl _ _ | exact Nat.le_refl _ | refine below_drewN ?_ _ | refine Below.alloc ?_ (by simp <;> omega) _ | refine Below.setCell ?_ (by simp <;> omega) _ | refine below_step ?_ (by assumption)))
 have hkept:Kept [(⟨w.heap.size,0,none⟩,F1 x0),(⟨w.heap.size,1,none⟩,F1 x1),(⟨w.heap.size + 1,0,none⟩,F1 y0),(⟨w.heap.size + 1,1,none⟩,F1 y1),(⟨w.heap.size + 1 + 1,0,none⟩,F1 0),(⟨w.heap.size + 1 + 1,1,none⟩,F1 0)] [⟨w.heap.size + 1 + 1,0,none⟩,⟨w.heap.size + 1 + 1,1,none⟩] W1:=by
  subst hW;simp only [Kept,ka,kb,kc,kd,ke,kf,kg];(first | (go_simp;done) | (simp [World.cell?,World.frozen?,World.alloc,Array.getElem?_push];done))
 clear hW
 have hkept:=kept_app (keep hN W1b) hkept
 clear hN
 have hK:=hkept;simp only [Kept,ka,kb,kc,kd,ke,kf,kg] at hK
 have hb1:b < W1.heap.size:=Nat.lt_of_lt_of_le hb W1b.size
 go_upto_region 18 with fail
 refine Qr.wp_below 10 (by kernel_rfl) (by kernel_rfl) PhiMs ?_
 repeat (first | (refine Qr.walk_plain rfl fun K hK => ?_;refine one_bin _ _ _ _ _ rfl _ _ _ rfl rfl rfl (fun r hr => ?_);go_simp;refine hK _ ?_;clear hK K) | (refine Qr.walk_plain rfl fun K hK => ?_;apply Qr.one_det;(focus (intro w' hw';have HK:=keep hkept hw';simp only [Kept,ka,kb,kc,kd,ke,kf,kg] at HK;go_simp;first | done | rfl));go_simp;refine hK _ ?_;clear hK K) | (refine Qr.walk_plain rfl fun K hK => ?_;apply Qr.one_call;(focus (intro w' hw';go_simp;first | done | exact ⟨rfl,rfl⟩));(focus (intro w' hw'; go_at_call 197;refine (s_lesser_any _ _ _).mono ?_;rintro _ w2 ⟨r1,rfl,hr1,hb1⟩ ;exact ⟨_,rfl,by constructor <;> assumption,below_step hw' (by assumption),by assumption⟩));intro v hv;cases hv;go_simp;refine hK _ ?_;clear hK K) | (refine Qr.walk_plain rfl fun K hK => ?_;apply Qr.one_call;(focus (intro w' hw';go_simp;first | done | exact ⟨rfl,rfl⟩));(focus (intro w' hw'; go_at_call 198;refine (s_greater_any _ _ _).mono ?_;rintro _ w2 ⟨r1,rfl,hr1,hb1⟩ ;exact ⟨_,rfl,by constructor <;> assumption,below_step hw' (by assumption),by assumption⟩));intro v hv;cases hv;go_simp;refine hK _ ?_;clear hK K) | (refine Qr.walk_plain rfl fun K hK => ?_;apply Qr.one_call;(focus (intro w' hw';go_simp;first | done | exact ⟨rfl,rfl⟩));(focus (intro w' hw'; go_at_call 201;refine (s_round_any _ _ _).mono ?_;rintro _ w2 ⟨r1,rfl,hr1,hb1⟩ ;exact ⟨_,rfl,by constructor <;> assumption,below_step hw' (by assumption),by assumption⟩));intro v hv;cases hv;go_simp;refine hK _ ?_;clear hK K) | (refine Qr.walk_plain rfl fun K hK => ?_;apply Qr.one_call;(focus (intro w' hw';go_simp;first | done | exact ⟨rfl,rfl⟩));(focus (intro w' hw'; go_at_call 194;refine (s_sizer_any _ _ _).mono ?_;rintro _ w2 ⟨l1,u1,rfl,hr1,hb1⟩ ;exact ⟨_,rfl,by constructor <;> assumption,below_step hw' (by assumption),by assumption⟩));intro v hv;cases hv;go_simp;refine hK _ ?_;clear hK K) | (refine Qr.walk_plain rfl fun K hK => ?_;apply Qr.one_call;(focus (intro w' hw';go_simp;first | done | exact ⟨rfl,rfl⟩));(focus (intro w' hw'; go_at_call 193;refine (s_times_any _ _ _ _).mono ?_;rintro _ w2 ⟨l1,u1,rfl,hr1,hb1⟩ ;exact ⟨_,rfl,by constructor <;> assumption,below_step hw' (by assumption),by assumption⟩));intro v hv;cases hv;go_simp;refine hK _ ?_;clear hK K) | (refine Qr.walk_plain rfl fun K hK => ?_;apply Qr.one_call;(focus (intro w' hw';go_simp;first | done | exact ⟨rfl,rfl⟩));(focus (intro w' hw'; go_at_call 187;refine (s_rless_any _ _ _ _ _).mono ?_;rintro _ w2 ⟨l1,u1,rfl,hr1,hb1⟩ ;exact ⟨_,rfl,by constructor <;> assumption,below_step hw' (by assumption),by assumption⟩));intro v hv;cases hv;go_simp;refine hK _ ?_;clear hK K) | (refine Qr.walk_plain rfl fun K hK => ?_;apply Qr.one_call;(focus (intro w' hw';go_simp;first | done | exact ⟨rfl,rfl⟩));(focus (intro w' hw'; go_at_call 200;refine (s_near_any _ _ _ _ _).mono ?_;rintro _ w2 ⟨l1,u1,rfl,hr1,hb1⟩ ;exact ⟨_,rfl,by constructor <;> assumption,below_step hw' (by assumption),by assumption⟩));intro v hv;cases hv;go_simp;refine hK _ ?_;clear hK K) | (refine Qr.walk_plain rfl fun K hK => ?_;apply Qr.one_call;(focus (intro w' hw';go_simp;first | done | exact ⟨rfl,rfl⟩));(focus (intro w' hw'; go_at_call 188;refine (s_one_any _ _).mono ?_;rintro _ w2 ⟨l1,u1,rfl,hr1,hb1⟩ ;exact ⟨_,rfl,by constructor <;> assumption,below_step hw' (by assumption),by assumption⟩));intro v hv;cases hv;go_simp;refine hK _ ?_;clear hK K))
 rename_i l1 u1 h0 l2 u2 h2 r1 r2 h1
 refine Qr.walk_nil fun w6 hw6 => ?_
 have hkept:=keep hkept hw6
 have W6b:=below_step W1b hw6
 clear hK
 have hK:=hkept
 simp only [Kept,ka,kb,kc,kd,ke,kf,kg] at hK
 go_wp2_with fail
 exact bodyPost_ret (v:=RgV r1 r2) (by simp [results,Tryz.results124,go_sem,hK,World.cell?_setCell_other,World.cell?_setCell_same'];first | done | exact ⟨rfl,rfl⟩) rfl ⟨_,_,rfl,h1.trans (by rw [h0,h2];rfl),bel2 W6b (by omega) ..⟩

set_option maxRecDepth 100000 in
set_option maxHeartbeats 2000000 in
theorem s_mixr_smooth {b o bv ov cap k x0 x1 y0 y1:Nat} {w:World} (hN:Kept [(⟨b,o,none⟩,.int .i64 8),(⟨b,o + 3,none⟩,.slice (some ⟨bv,ov,none⟩) 1 cap),(⟨bv,ov,none⟩,F1 k)] [] w) :
  Calls Tryz.prog 124 #[.pointer (some ⟨b,o,none⟩),RgV x0 x1,RgV y0 y1] w (RetR (lessR (lesserF (cn .f32 x0) (cn .f32 y0),lesserF (cn .f32 x1) (cn .f32 y1)) (bothR (fun x => bulgeF x (cn .f32 k)) (lessR (cn .f32 k,cn .f32 k) (sizeR (lessR (cn .f32 x0,cn .f32 x1) (cn .f32 y0,cn .f32 y1)))))) w):=by
 have hK:=hN
 simp only [Kept,ka,kb,kc,kd,ke,kf,kg] at hK
 have hb:b < w.heap.size:=some_lt (a:=⟨b,o,none⟩) (by rw [hK.1];rfl)
 go_enter Tryz.func124,Tryz.ntmps124
 go_upto_region 1 with fail
 clear hK
 generalize hW:((w.alloc (.cells #[F1 x0,F1 x1] 118)).alloc (.cells #[F1 y0,F1 y1] 118)).alloc (.cells #[F1 0,F1 0] 118) = W1 at *
 have W1b:Below w.heap.size w W1:=by subst hW;exact (by repeat' (first | exact Below.refl _ _ | exact Nat.le_refl _ | refine below_drewN ?_ _ | refine Below.alloc ?_ (by simp <;> omega) _ | refine Below.setCell ?_ (by simp <;> omega) _ | refine below_step ?_ (by assumption)))
 have hkept:Kept [(⟨w.heap.size,0,none⟩,F1 x0),(⟨w.heap.size,1,none⟩,F1 x1),(⟨w.heap.size + 1,0,none⟩,F1 y0),(⟨w.heap.size + 1,1,none⟩,F1 y1),(⟨w.heap.size + 1 + 1,0,none⟩,F1 0),(⟨w.heap.size + 1 + 1,1,none⟩,F1 0)] [⟨w.heap.size + 1 + 1,0,none⟩,⟨w.heap.size + 1 + 1,1,none⟩] W1:=by
  subst hW;simp only [Kept,ka,kb,kc,kd,ke,kf,kg];(first | (go_simp;done) | (simp [World.cell?,World.frozen?,World.alloc,Array.getElem?_push];done))
 clear hW
 have hkept:=kept_app (keep hN W1b) hkept
 clear hN
 have hK:=hkept;simp only [Kept,ka,kb,kc,kd,ke,kf,kg] at hK
 have hb1:b < W1.heap.size:=Nat.lt_of_lt_of_le hb W1b.size
 go_upto_region 10 with fail
 refine Qr.wp_made 7 6 8 #[F1 0,F1 0] 118 (by kernel_rfl) (by kernel_rfl) PhiMs rfl (by kernel_rfl) ⟨_,rfl,rfl,fun a w => by go_simp⟩ (by kernel_rfl) ?_
 repeat (first | (refine Qr.walk_plain rfl fun K hK => ?_;refine Qr.one_rel (fun v => ∃ g,v = .pointer (some ⟨g,0,none⟩)) (fun w' hw' => ⟨.pointer (some ⟨w'.heap.size,0,none⟩),_,by go_simp;rfl,⟨_,rfl⟩,hw'.alloc hw'.size _,(Below.refl _ _).alloc (Nat.le_refl _) _⟩) (fun v hv => ?_);obtain ⟨g,rfl⟩:=hv;go_simp;refine hK _ ?_;clear hK K) | (first | (refine Qr.walk_plain rfl fun K hK => ?_;refine one_bin _ _ _ _ _ rfl _ _ _ rfl rfl rfl (fun r hr => ?_);go_simp;refine hK _ ?_;clear hK K) | (refine Qr.walk_plain rfl fun K hK => ?_;apply Qr.one_det;(focus (intro w' hw';have HK:=keep hkept hw';simp only [Kept,ka,kb,kc,kd,ke,kf,kg] at HK;go_simp;first | done | rfl));go_simp;refine hK _ ?_;clear hK K) | (refine Qr.walk_plain rfl fun K hK => ?_;apply Qr.one_call;(focus (intro w' hw';go_simp;first | done | exact ⟨rfl,rfl⟩));(focus (intro w' hw'; go_at_call 197;refine (s_lesser_any _ _ _).mono ?_;rintro _ w2 ⟨r1,rfl,hr1,hb1⟩ ;exact ⟨_,rfl,by constructor <;> assumption,below_step hw' (by assumption),by assumption⟩));intro v hv;cases hv;go_simp;refine hK _ ?_;clear hK K) | (refine Qr.walk_plain rfl fun K hK => ?_;apply Qr.one_call;(focus (intro w' hw';go_simp;first | done | exact ⟨rfl,rfl⟩));(focus (intro w' hw'; go_at_call 198;refine (s_greater_any _ _ _).mono ?_;rintro _ w2 ⟨r1,rfl,hr1,hb1⟩ ;exact ⟨_,rfl,by constructor <;> assumption,below_step hw' (by assumption),by assumption⟩));intro v hv;cases hv;go_simp;refine hK _ ?_;clear hK K) | (refine Qr.walk_plain rfl fun K hK => ?_;apply Qr.one_call;(focus (intro w' hw';go_simp;first | done | exact ⟨rfl,rfl⟩));(focus (intro w' hw'; go_at_call 201;refine (s_round_any _ _ _).mono ?_;rintro _ w2 ⟨r1,rfl,hr1,hb1⟩ ;exact ⟨_,rfl,by constructor <;> assumption,below_step hw' (by assumption),by assumption⟩));intro v hv;cases hv;go_simp;refine hK _ ?_;clear hK K) | (refine Qr.walk_plain rfl fun K hK => ?_;apply Qr.one_call;(focus (intro w' hw';go_simp;first | done | exact ⟨rfl,rfl⟩));(focus (intro w' hw'; go_at_call 194;refine (s_sizer_any _ _ _).mono ?_;rintro _ w2 ⟨l1,u1,rfl,hr1,hb1⟩ ;exact ⟨_,rfl,by constructor <;> assumption,below_step hw' (by assumption),by assumption⟩));intro v hv;cases hv;go_simp;refine hK _ ?_;clear hK K) | (refine Qr.walk_plain rfl fun K hK => ?_;apply Qr.one_call;(focus (intro w' hw';go_simp;first | done | exact ⟨rfl,rfl⟩));(focus (intro w' hw'; go_at_call 193;refine (s_times_any _ _ _ _).mono ?_;rintro _ w2 ⟨l1,u1,rfl,hr1,hb1⟩ ;exact ⟨_,rfl,by constructor <;> assumption,below_step hw' (by assumption),by assumption⟩));intro v hv;cases hv;go_simp;refine hK _ ?_;clear hK K) | (refine Qr.walk_plain rfl fun K hK => ?_;apply Qr.one_call;(focus (intro w' hw';go_simp;first | done | exact ⟨rfl,rfl⟩));(focus (intro w' hw'; go_at_call 187;refine (s_rless_any _ _ _ _ _).mono ?_;rintro _ w2 ⟨l1,u1,rfl,hr1,hb1⟩ ;exact ⟨_,rfl,by constructor <;> assumption,below_step hw' (by assumption),by assumption⟩));intro v hv;cases hv;go_simp;refine hK _ ?_;clear hK K) | (refine Qr.walk_plain rfl fun K hK => ?_;apply Qr.one_call;(focus (intro w' hw';go_simp;first | done | exact ⟨rfl,rfl⟩));(focus (intro w' hw'; go_at_call 200;refine (s_near_any _ _ _ _ _).mono ?_;rintro _ w2 ⟨l1,u1,rfl,hr1,hb1⟩ ;exact ⟨_,rfl,by constructor <;> assumption,below_step hw' (by assumption),by assumption⟩));intro v hv;cases hv;go_simp;refine hK _ ?_;clear hK K) | (refine Qr.walk_plain rfl fun K hK => ?_;apply Qr.one_call;(focus (intro w' hw';go_simp;first | done | exact ⟨rfl,rfl⟩));(focus (intro w' hw'; go_at_call 188;refine (s_one_any _ _).mono ?_;rintro _ w2 ⟨l1,u1,rfl,hr1,hb1⟩ ;exact ⟨_,rfl,by constructor <;> assumption,below_step hw' (by assumption),by assumption⟩));intro v hv;cases hv;go_simp;refine hK _ ?_;clear hK K)))
 rename_i l0 u0 e0 l1 u1 e1 l2 u2 e2
 refine Qr.walk_nil fun w3 hw3 hmade => ?_
 obtain ⟨g3,hg3,hgw,hgc⟩:=hmade _ rfl
 injection hg3 with hg3
 injection hg3 with hg3
 subst hg3
 obtain ⟨hc0,hc1,hf0,hf1⟩:=cells2 hgc
 have hset:=set2 hgc (F1 l2) (F1 u2)
 have hbw:=hw3.trans (hset.2.mono hgw)
 go_upto_region 11 with fail
 clear hc0 hc1 hf0 hf1 hgc hw3
 generalize (w3.setCell ⟨g,0,none⟩ (F1 l2)).setCell ⟨g,1,none⟩ (F1 u2) = w4 at hset hbw ⊢
 have hkept:=kept_app (keep hkept hbw) (kept2 hset.1)
 have W4b:=below_step W1b hbw
 clear hset hbw hK
 have hK:=hkept;simp only [Kept,ka,kb,kc,kd,ke,kf,kg] at hK
 refine Qr.wp_made 10 9 9 #[F1 0,F1 0] 118 (by kernel_rfl) (by kernel_rfl) PhiMs rfl (by kernel_rfl) ⟨_,rfl,rfl,fun a w => by go_simp⟩ (by kernel_rfl) ?_
 repeat (first | (refine Qr.walk_plain rfl fun K hK => ?_;refine Qr.one_rel (fun v => ∃ g,v = .pointer (some ⟨g,0,none⟩)) (fun w' hw' => ⟨.pointer (some ⟨w'.heap.size,0,none⟩),_,by go_simp;rfl,⟨_,rfl⟩,hw'.alloc hw'.size _,(Below.refl _ _).alloc (Nat.le_refl _) _⟩) (fun v hv => ?_);obtain ⟨g,rfl⟩:=hv;go_simp;refine hK _ ?_;clear hK K) | (first | (refine Qr.walk_plain rfl fun K hK => ?_;refine one_bin _ _ _ _ _ rfl _ _ _ rfl rfl rfl (fun r hr => ?_);go_simp;refine hK _ ?_;clear hK K) | (refine Qr.walk_plain rfl fun K hK => ?_;apply Qr.one_det;(focus (intro w' hw';have HK:=keep hkept hw';simp only [Kept,ka,kb,kc,kd,ke,kf,kg] at HK;go_simp;first | done | rfl));go_simp;refine hK _ ?_;clear hK K) | (refine Qr.walk_plain rfl fun K hK => ?_;apply Qr.one_call;(focus (intro w' hw';go_simp;first | done | exact ⟨rfl,rfl⟩));(focus (intro w' hw'; go_at_call 197;refine (s_lesser_any _ _ _).mono ?_;rintro _ w2 ⟨r1,rfl,hr1,hb1⟩ ;exact ⟨_,rfl,by constructor <;> assumption,below_step hw' (by assumption),by assumption⟩));intro v hv;cases hv;go_simp;refine hK _ ?_;clear hK K) | (refine Qr.walk_plain rfl fun K hK => ?_;apply Qr.one_call;(focus (intro w' hw';go_simp;first | done | exact ⟨rfl,rfl⟩));(focus (intro w' hw'; go_at_call 198;refine (s_greater_any _ _ _).mono ?_;rintro _ w2 ⟨r1,rfl,hr1,hb1⟩ ;exact ⟨_,rfl,by constructor <;> assumption,below_step hw' (by assumption),by assumption⟩));intro v hv;cases hv;go_simp;refine hK _ ?_;clear hK K) | (refine Qr.walk_plain rfl fun K hK => ?_;apply Qr.one_call;(focus (intro w' hw';go_simp;first | done | exact ⟨rfl,rfl⟩));(focus (intro w' hw'; go_at_call 201;refine (s_round_any _ _ _).mono ?_;rintro _ w2 ⟨r1,rfl,hr1,hb1⟩ ;exact ⟨_,rfl,by constructor <;> assumption,below_step hw' (by assumption),by assumption⟩));intro v hv;cases hv;go_simp;refine hK _ ?_;clear hK K) | (refine Qr.walk_plain rfl fun K hK => ?_;apply Qr.one_call;(focus (intro w' hw';go_simp;first | done | exact ⟨rfl,rfl⟩));(focus (intro w' hw'; go_at_call 194;refine (s_sizer_any _ _ _).mono ?_;rintro _ w2 ⟨l1,u1,rfl,hr1,hb1⟩ ;exact ⟨_,rfl,by constructor <;> assumption,below_step hw' (by assumption),by assumption⟩));intro v hv;cases hv;go_simp;refine hK _ ?_;clear hK K) | (refine Qr.walk_plain rfl fun K hK => ?_;apply Qr.one_call;(focus (intro w' hw';go_simp;first | done | exact ⟨rfl,rfl⟩));(focus (intro w' hw'; go_at_call 193;refine (s_times_any _ _ _ _).mono ?_;rintro _ w2 ⟨l1,u1,rfl,hr1,hb1⟩ ;exact ⟨_,rfl,by constructor <;> assumption,below_step hw' (by assumption),by assumption⟩));intro v hv;cases hv;go_simp;refine hK _ ?_;clear hK K) | (refine Qr.walk_plain rfl fun K hK => ?_;apply Qr.one_call;(focus (intro w' hw';go_simp;first | done | exact ⟨rfl,rfl⟩));(focus (intro w' hw'; go_at_call 187;refine (s_rless_any _ _ _ _ _).mono ?_;rintro _ w2 ⟨l1,u1,rfl,hr1,hb1⟩ ;exact ⟨_,rfl,by constructor <;> assumption,below_step hw' (by assumption),by assumption⟩));intro v hv;cases hv;go_simp;refine hK _ ?_;clear hK K) | (refine Qr.walk_plain rfl fun K hK => ?_;apply Qr.one_call;(focus (intro w' hw';go_simp;first | done | exact ⟨rfl,rfl⟩));(focus (intro w' hw'; go_at_call 200;refine (s_near_any _ _ _ _ _).mono ?_;rintro _ w2 ⟨l1,u1,rfl,hr1,hb1⟩ ;exact ⟨_,rfl,by constructor <;> assumption,below_step hw' (by assumption),by assumption⟩));intro v hv;cases hv;go_simp;refine hK _ ?_;clear hK K) | (refine Qr.walk_plain rfl fun K hK => ?_;apply Qr.one_call;(focus (intro w' hw';go_simp;first | done | exact ⟨rfl,rfl⟩));(focus (intro w' hw'; go_at_call 188;refine (s_one_any _ _).mono ?_;rintro _ w2 ⟨l1,u1,rfl,hr1,hb1⟩ ;exact ⟨_,rfl,by constructor <;> assumption,below_step hw' (by assumption),by assumption⟩));intro v hv;cases hv;go_simp;refine hK _ ?_;clear hK K)))
 rename_i q1 e3 q2 e4
 refine Qr.walk_nil fun w3 hw3 hmade => ?_
 obtain ⟨g3,hg3,hgw2,hgc⟩:=hmade _ rfl
 injection hg3 with hg3
 injection hg3 with hg3
 subst hg3
 obtain ⟨hc0,hc1,hf0,hf1⟩:=cells2 hgc
 have hset:=set2 hgc (F1 q1) (F1 q2)
 have hbw:=hw3.trans (hset.2.mono hgw2)
 go_upto_region 12 with fail
 clear hc0 hc1 hf0 hf1 hgc hw3
 generalize (w3.setCell ⟨g,0,none⟩ (F1 q1)).setCell ⟨g,1,none⟩ (F1 q2) = w5 at hset hbw ⊢
 have hkept:=kept_app (keep hkept hbw) (kept2 hset.1)
 have W5b:=below_step W4b hbw
 clear hset hbw hK
 have hK:=hkept;simp only [Kept,ka,kb,kc,kd,ke,kf,kg] at hK
 refine Qr.wp_below 13 (by kernel_rfl) (by kernel_rfl) PhiMs ?_
 repeat (first | (refine Qr.walk_plain rfl fun K hK => ?_;refine one_bin _ _ _ _ _ rfl _ _ _ rfl rfl rfl (fun r hr => ?_);go_simp;refine hK _ ?_;clear hK K) | (refine Qr.walk_plain rfl fun K hK => ?_;apply Qr.one_det;(focus (intro w' hw';have HK:=keep hkept hw';simp only [Kept,ka,kb,kc,kd,ke,kf,kg] at HK;go_simp;first | done | rfl));go_simp;refine hK _ ?_;clear hK K) | (refine Qr.walk_plain rfl fun K hK => ?_;apply Qr.one_call;(focus (intro w' hw';go_simp;first | done | exact ⟨rfl,rfl⟩));(focus (intro w' hw'; go_at_call 197;refine (s_lesser_any _ _ _).mono ?_;rintro _ w2 ⟨r1,rfl,hr1,hb1⟩ ;exact ⟨_,rfl,by constructor <;> assumption,below_step hw' (by assumption),by assumption⟩));intro v hv;cases hv;go_simp;refine hK _ ?_;clear hK K) | (refine Qr.walk_plain rfl fun K hK => ?_;apply Qr.one_call;(focus (intro w' hw';go_simp;first | done | exact ⟨rfl,rfl⟩));(focus (intro w' hw'; go_at_call 198;refine (s_greater_any _ _ _).mono ?_;rintro _ w2 ⟨r1,rfl,hr1,hb1⟩ ;exact ⟨_,rfl,by constructor <;> assumption,below_step hw' (by assumption),by assumption⟩));intro v hv;cases hv;go_simp;refine hK _ ?_;clear hK K) | (refine Qr.walk_plain rfl fun K hK => ?_;apply Qr.one_call;(focus (intro w' hw';go_simp;first | done | exact ⟨rfl,rfl⟩));(focus (intro w' hw'; go_at_call 201;refine (s_round_any _ _ _).mono ?_;rintro _ w2 ⟨r1,rfl,hr1,hb1⟩ ;exact ⟨_,rfl,by constructor <;> assumption,below_step hw' (by assumption),by assumption⟩));intro v hv;cases hv;go_simp;refine hK _ ?_;clear hK K) | (refine Qr.walk_plain rfl fun K hK => ?_;apply Qr.one_call;(focus (intro w' hw';go_simp;first | done | exact ⟨rfl,rfl⟩));(focus (intro w' hw'; go_at_call 194;refine (s_sizer_any _ _ _).mono ?_;rintro _ w2 ⟨l1,u1,rfl,hr1,hb1⟩ ;exact ⟨_,rfl,by constructor <;> assumption,below_step hw' (by assumption),by assumption⟩));intro v hv;cases hv;go_simp;refine hK _ ?_;clear hK K) | (refine Qr.walk_plain rfl fun K hK => ?_;apply Qr.one_call;(focus (intro w' hw';go_simp;first | done | exact ⟨rfl,rfl⟩));(focus (intro w' hw'; go_at_call 193;refine (s_times_any _ _ _ _).mono ?_;rintro _ w2 ⟨l1,u1,rfl,hr1,hb1⟩ ;exact ⟨_,rfl,by constructor <;> assumption,below_step hw' (by assumption),by assumption⟩));intro v hv;cases hv;go_simp;refine hK _ ?_;clear hK K) | (refine Qr.walk_plain rfl fun K hK => ?_;apply Qr.one_call;(focus (intro w' hw';go_simp;first | done | exact ⟨rfl,rfl⟩));(focus (intro w' hw'; go_at_call 187;refine (s_rless_any _ _ _ _ _).mono ?_;rintro _ w2 ⟨l1,u1,rfl,hr1,hb1⟩ ;exact ⟨_,rfl,by constructor <;> assumption,below_step hw' (by assumption),by assumption⟩));intro v hv;cases hv;go_simp;refine hK _ ?_;clear hK K) | (refine Qr.walk_plain rfl fun K hK => ?_;apply Qr.one_call;(focus (intro w' hw';go_simp;first | done | exact ⟨rfl,rfl⟩));(focus (intro w' hw'; go_at_call 200;refine (s_near_any _ _ _ _ _).mono ?_;rintro _ w2 ⟨l1,u1,rfl,hr1,hb1⟩ ;exact ⟨_,rfl,by constructor <;> assumption,below_step hw' (by assumption),by assumption⟩));intro v hv;cases hv;go_simp;refine hK _ ?_;clear hK K) | (refine Qr.walk_plain rfl fun K hK => ?_;apply Qr.one_call;(focus (intro w' hw';go_simp;first | done | exact ⟨rfl,rfl⟩));(focus (intro w' hw'; go_at_call 188;refine (s_one_any _ _).mono ?_;rintro _ w2 ⟨l1,u1,rfl,hr1,hb1⟩ ;exact ⟨_,rfl,by constructor <;> assumption,below_step hw' (by assumption),by assumption⟩));intro v hv;cases hv;go_simp;refine hK _ ?_;clear hK K))
 rename_i r1 h1 r2 h2 r3 r4 h3
 refine Qr.walk_nil fun w6 hw6 => ?_
 have hkept:=keep hkept hw6
 have W6b:=below_step W5b hw6
 clear hK
 have hK:=hkept
 simp only [Kept,ka,kb,kc,kd,ke,kf,kg] at hK
 go_wp2_with fail
 have e5:(cn .f32 q1,cn .f32 q2) = bothR (fun x => bulgeF x (cn .f32 k)) (cn .f32 l2,cn .f32 u2):=pr e3 e4
 exact bodyPost_ret (v:=RgV r3 r4) (by simp [results,Tryz.results124,go_sem,hK,World.cell?_setCell_other,World.cell?_setCell_same'];first | done | exact ⟨rfl,rfl⟩) rfl ⟨_,_,rfl,by rw [h3,h1,h2,e5,e2,e1,e0],bel2 W6b (by omega) ..⟩

set_option maxRecDepth 100000 in
set_option maxHeartbeats 2000000 in
theorem s_mixr_move {b o x0 x1 y0 y1:Nat} {w:World} (hN:Kept [(⟨b,o,none⟩,.int .i64 9)] [] w) :
  Calls Tryz.prog 124 #[.pointer (some ⟨b,o,none⟩),RgV x0 x1,RgV y0 y1] w (RetR (cn .f32 x0,cn .f32 x1) w):=by
 have hK:=hN
 simp only [Kept,ka,kb,kc,kd,ke,kf,kg] at hK
 have hb:b < w.heap.size:=some_lt (a:=⟨b,o,none⟩) (by rw [hK];rfl)
 go_enter Tryz.func124,Tryz.ntmps124
 go_upto_region 1 with fail
 clear hK
 generalize hW:((w.alloc (.cells #[F1 x0,F1 x1] 118)).alloc (.cells #[F1 y0,F1 y1] 118)).alloc (.cells #[F1 0,F1 0] 118) = W1 at *
 have W1b:Below w.heap.size w W1:=by subst hW;exact (by repeat' (first | exact Below.refl _ _ | exact Nat.le_refl _ | refine below_drewN ?_ _ | refine Below.alloc ?_ (by simp <;> omega) _ | refine Below.setCell ?_ (by simp <;> omega) _ | refine below_step ?_ (by assumption)))
 have hkept:Kept [(⟨w.heap.size,0,none⟩,F1 x0),(⟨w.heap.size,1,none⟩,F1 x1),(⟨w.heap.size + 1,0,none⟩,F1 y0),(⟨w.heap.size + 1,1,none⟩,F1 y1),(⟨w.heap.size + 1 + 1,0,none⟩,F1 0),(⟨w.heap.size + 1 + 1,1,none⟩,F1 0)] [⟨w.heap.size + 1 + 1,0,none⟩,⟨w.heap.size + 1 + 1,1,none⟩] W1:=by
  subst hW;simp only [Kept,ka,kb,kc,kd,ke,kf,kg];(first | (go_simp;done) | (simp [World.cell?,World.frozen?,World.alloc,Array.getElem?_push];done))
 clear hW
 have hkept:=kept_app (keep hN W1b) hkept
 clear hN
 have hK:=hkept;simp only [Kept,ka,kb,kc,kd,ke,kf,kg] at hK
 have hb1:b < W1.heap.size:=Nat.lt_of_lt_of_le hb W1b.size
 go_wp2_with fail
 exact bodyPost_ret (v:=RgV x0 x1) (by simp [results,Tryz.results124,go_sem,hK,World.cell?_setCell_other,World.cell?_setCell_same'];first | done | exact ⟨rfl,rfl⟩) rfl ⟨_,_,rfl,rfl,bel2 W1b (by omega) ..⟩

set_option maxRecDepth 100000 in
set_option maxHeartbeats 2000000 in
theorem s_mixr_stretch {b o x0 x1 y0 y1:Nat} {w:World} (hN:Kept [(⟨b,o,none⟩,.int .i64 11)] [] w) :
  Calls Tryz.prog 124 #[.pointer (some ⟨b,o,none⟩),RgV x0 x1,RgV y0 y1] w (RetR (cn .f32 x0,cn .f32 x1) w):=by
 have hK:=hN
 simp only [Kept,ka,kb,kc,kd,ke,kf,kg] at hK
 have hb:b < w.heap.size:=some_lt (a:=⟨b,o,none⟩) (by rw [hK];rfl)
 go_enter Tryz.func124,Tryz.ntmps124
 go_upto_region 1 with fail
 clear hK
 generalize hW:((w.alloc (.cells #[F1 x0,F1 x1] 118)).alloc (.cells #[F1 y0,F1 y1] 118)).alloc (.cells #[F1 0,F1 0] 118) = W1 at *
 have W1b:Below w.heap.size w W1:=by subst hW;exact (by repeat' (first | exact Below.refl _ _ | exact Nat.le_refl _ | refine below_drewN ?_ _ | refine Below.alloc ?_ (by simp <;> omega) _ | refine Below.setCell ?_ (by simp <;> omega) _ | refine below_step ?_ (by assumption)))
 have hkept:Kept [(⟨w.heap.size,0,none⟩,F1 x0),(⟨w.heap.size,1,none⟩,F1 x1),(⟨w.heap.size + 1,0,none⟩,F1 y0),(⟨w.heap.size + 1,1,none⟩,F1 y1),(⟨w.heap.size + 1 + 1,0,none⟩,F1 0),(⟨w.heap.size + 1 + 1,1,none⟩,F1 0)] [⟨w.heap.size + 1 + 1,0,none⟩,⟨w.heap.size + 1 + 1,1,none⟩] W1:=by
  subst hW;simp only [Kept,ka,kb,kc,kd,ke,kf,kg];(first | (go_simp;done) | (simp [World.cell?,World.frozen?,World.alloc,Array.getElem?_push];done))
 clear hW
 have hkept:=kept_app (keep hN W1b) hkept
 clear hN
 have hK:=hkept;simp only [Kept,ka,kb,kc,kd,ke,kf,kg] at hK
 have hb1:b < W1.heap.size:=Nat.lt_of_lt_of_le hb W1b.size
 go_wp2_with fail
 exact bodyPost_ret (v:=RgV x0 x1) (by simp [results,Tryz.results124,go_sem,hK,World.cell?_setCell_other,World.cell?_setCell_same'];first | done | exact ⟨rfl,rfl⟩) rfl ⟨_,_,rfl,rfl,bel2 W1b (by omega) ..⟩

set_option maxRecDepth 100000 in
set_option maxHeartbeats 2000000 in
theorem s_mixr_turn {b o x0 x1 y0 y1:Nat} {w:World} (hN:Kept [(⟨b,o,none⟩,.int .i64 12)] [] w) :
  Calls Tryz.prog 124 #[.pointer (some ⟨b,o,none⟩),RgV x0 x1,RgV y0 y1] w (RetR (cn .f32 x0,cn .f32 x1) w):=by
 have hK:=hN
 simp only [Kept,ka,kb,kc,kd,ke,kf,kg] at hK
 have hb:b < w.heap.size:=some_lt (a:=⟨b,o,none⟩) (by rw [hK];rfl)
 go_enter Tryz.func124,Tryz.ntmps124
 go_upto_region 1 with fail
 clear hK
 generalize hW:((w.alloc (.cells #[F1 x0,F1 x1] 118)).alloc (.cells #[F1 y0,F1 y1] 118)).alloc (.cells #[F1 0,F1 0] 118) = W1 at *
 have W1b:Below w.heap.size w W1:=by subst hW;exact (by repeat' (first | exact Below.refl _ _ | exact Nat.le_refl _ | refine below_drewN ?_ _ | refine Below.alloc ?_ (by simp <;> omega) _ | refine Below.setCell ?_ (by simp <;> omega) _ | refine below_step ?_ (by assumption)))
 have hkept:Kept [(⟨w.heap.size,0,none⟩,F1 x0),(⟨w.heap.size,1,none⟩,F1 x1),(⟨w.heap.size + 1,0,none⟩,F1 y0),(⟨w.heap.size + 1,1,none⟩,F1 y1),(⟨w.heap.size + 1 + 1,0,none⟩,F1 0),(⟨w.heap.size + 1 + 1,1,none⟩,F1 0)] [⟨w.heap.size + 1 + 1,0,none⟩,⟨w.heap.size + 1 + 1,1,none⟩] W1:=by
  subst hW;simp only [Kept,ka,kb,kc,kd,ke,kf,kg];(first | (go_simp;done) | (simp [World.cell?,World.frozen?,World.alloc,Array.getElem?_push];done))
 clear hW
 have hkept:=kept_app (keep hN W1b) hkept
 clear hN
 have hK:=hkept;simp only [Kept,ka,kb,kc,kd,ke,kf,kg] at hK
 have hb1:b < W1.heap.size:=Nat.lt_of_lt_of_le hb W1b.size
 go_wp2_with fail
 exact bodyPost_ret (v:=RgV x0 x1) (by simp [results,Tryz.results124,go_sem,hK,World.cell?_setCell_other,World.cell?_setCell_same'];first | done | exact ⟨rfl,rfl⟩) rfl ⟨_,_,rfl,rfl,bel2 W1b (by omega) ..⟩

set_option maxRecDepth 100000 in
set_option maxHeartbeats 2000000 in
theorem s_mixr_mirror {b o x0 x1 y0 y1:Nat} {w:World} (hN:Kept [(⟨b,o,none⟩,.int .i64 13)] [] w) :
  Calls Tryz.prog 124 #[.pointer (some ⟨b,o,none⟩),RgV x0 x1,RgV y0 y1] w (RetR (cn .f32 x0,cn .f32 x1) w):=by
 have hK:=hN
 simp only [Kept,ka,kb,kc,kd,ke,kf,kg] at hK
 have hb:b < w.heap.size:=some_lt (a:=⟨b,o,none⟩) (by rw [hK];rfl)
 go_enter Tryz.func124,Tryz.ntmps124
 go_upto_region 1 with fail
 clear hK
 generalize hW:((w.alloc (.cells #[F1 x0,F1 x1] 118)).alloc (.cells #[F1 y0,F1 y1] 118)).alloc (.cells #[F1 0,F1 0] 118) = W1 at *
 have W1b:Below w.heap.size w W1:=by subst hW;exact (by repeat' (first | exact Below.refl _ _ | exact Nat.le_refl _ | refine below_drewN ?_ _ | refine Below.alloc ?_ (by simp <;> omega) _ | refine Below.setCell ?_ (by simp <;> omega) _ | refine below_step ?_ (by assumption)))
 have hkept:Kept [(⟨w.heap.size,0,none⟩,F1 x0),(⟨w.heap.size,1,none⟩,F1 x1),(⟨w.heap.size + 1,0,none⟩,F1 y0),(⟨w.heap.size + 1,1,none⟩,F1 y1),(⟨w.heap.size + 1 + 1,0,none⟩,F1 0),(⟨w.heap.size + 1 + 1,1,none⟩,F1 0)] [⟨w.heap.size + 1 + 1,0,none⟩,⟨w.heap.size + 1 + 1,1,none⟩] W1:=by
  subst hW;simp only [Kept,ka,kb,kc,kd,ke,kf,kg];(first | (go_simp;done) | (simp [World.cell?,World.frozen?,World.alloc,Array.getElem?_push];done))
 clear hW
 have hkept:=kept_app (keep hN W1b) hkept
 clear hN
 have hK:=hkept;simp only [Kept,ka,kb,kc,kd,ke,kf,kg] at hK
 have hb1:b < W1.heap.size:=Nat.lt_of_lt_of_le hb W1b.size
 go_wp2_with fail
 exact bodyPost_ret (v:=RgV x0 x1) (by simp [results,Tryz.results124,go_sem,hK,World.cell?_setCell_other,World.cell?_setCell_same'];first | done | exact ⟨rfl,rfl⟩) rfl ⟨_,_,rfl,rfl,bel2 W1b (by omega) ..⟩

set_option maxRecDepth 100000 in
set_option maxHeartbeats 2000000 in
theorem s_mixr_fold {b o x0 x1 y0 y1:Nat} {w:World} (hN:Kept [(⟨b,o,none⟩,.int .i64 14)] [] w) :
  Calls Tryz.prog 124 #[.pointer (some ⟨b,o,none⟩),RgV x0 x1,RgV y0 y1] w (RetR (cn .f32 x0,cn .f32 x1) w):=by
 have hK:=hN
 simp only [Kept,ka,kb,kc,kd,ke,kf,kg] at hK
 have hb:b < w.heap.size:=some_lt (a:=⟨b,o,none⟩) (by rw [hK];rfl)
 go_enter Tryz.func124,Tryz.ntmps124
 go_upto_region 1 with fail
 clear hK
 generalize hW:((w.alloc (.cells #[F1 x0,F1 x1] 118)).alloc (.cells #[F1 y0,F1 y1] 118)).alloc (.cells #[F1 0,F1 0] 118) = W1 at *
 have W1b:Below w.heap.size w W1:=by subst hW;exact (by repeat' (first | exact Below.refl _ _ | exact Nat.le_refl _ | refine below_drewN ?_ _ | refine Below.alloc ?_ (by simp <;> omega) _ | refine Below.setCell ?_ (by simp <;> omega) _ | refine below_step ?_ (by assumption)))
 have hkept:Kept [(⟨w.heap.size,0,none⟩,F1 x0),(⟨w.heap.size,1,none⟩,F1 x1),(⟨w.heap.size + 1,0,none⟩,F1 y0),(⟨w.heap.size + 1,1,none⟩,F1 y1),(⟨w.heap.size + 1 + 1,0,none⟩,F1 0),(⟨w.heap.size + 1 + 1,1,none⟩,F1 0)] [⟨w.heap.size + 1 + 1,0,none⟩,⟨w.heap.size + 1 + 1,1,none⟩] W1:=by
  subst hW;simp only [Kept,ka,kb,kc,kd,ke,kf,kg];(first | (go_simp;done) | (simp [World.cell?,World.frozen?,World.alloc,Array.getElem?_push];done))
 clear hW
 have hkept:=kept_app (keep hN W1b) hkept
 clear hN
 have hK:=hkept;simp only [Kept,ka,kb,kc,kd,ke,kf,kg] at hK
 have hb1:b < W1.heap.size:=Nat.lt_of_lt_of_le hb W1b.size
 go_wp2_with fail
 exact bodyPost_ret (v:=RgV x0 x1) (by simp [results,Tryz.results124,go_sem,hK,World.cell?_setCell_other,World.cell?_setCell_same'];first | done | exact ⟨rfl,rfl⟩) rfl ⟨_,_,rfl,rfl,bel2 W1b (by omega) ..⟩

theorem s_mixr_node {n:PN} {b o:Nat} {w:World} (hn:NodeIn n b o w) (hok:n.ok) (hc:(ruleF n.kind).2.1 ≠ 0) (x0 x1 y0 y1:Nat) :
  Calls Tryz.prog 124 #[.pointer (some ⟨b,o,none⟩),RgV x0 x1,RgV y0 y1] w (RetR (mixR n (cn .f32 x0,cn .f32 x1) (cn .f32 y0,cn .f32 y1)) w):=by
 obtain ⟨bp,bv,ov,cap,h1,h2,h3⟩:=hn.nums
 have hk:=hn.kind
 have hr:=hok.kind
 have hl:=hok.nums
 obtain ⟨k,na,nb,nums⟩:=n
 simp only at *
 have:k = 0 ∨ k = 1 ∨ k = 2 ∨ k = 3 ∨ k = 4 ∨ k = 5 ∨ k = 6 ∨ k = 7 ∨ k = 8 ∨ k = 9 ∨ k = 10 ∨ k = 11 ∨ k = 12 ∨ k = 13 ∨ k = 14 ∨ k = 15 ∨ k = 16:=by omega
 have k1:∀ v,w.cell? ⟨b,o,none⟩ = some v → Kept [(⟨b,o,none⟩,v)] [] w:=fun v h => kof (by intro p hp;simp at hp;subst hp;exact h)
 have k3:∀ v s f,w.cell? ⟨b,o,none⟩ = some v → w.cell? ⟨b,o + 3,none⟩ = some s → w.cell? ⟨bv,ov,none⟩ = some f → Kept [(⟨b,o,none⟩,v),(⟨b,o + 3,none⟩,s),(⟨bv,ov,none⟩,f)] [] w:=fun v s f h1 h2 h3 => kof (by intro p hp;simp at hp;rcases hp with rfl | rfl | rfl <;> assumption)
 rcases this with h | h | h | h | h | h | h | h | h | h | h | h | h | h | h | h | h <;> subst h
 iterate 5 exact absurd rfl hc
 ·exact s_mixr_union (k1 _ hk)
 ·exact s_mixr_cut (k1 _ hk)
 ·exact s_mixr_less (k1 _ hk)
 ·obtain ⟨r,rfl⟩:=len1 hl
  have:=h2 (by simp)
  subst this
  exact s_mixr_smooth (k3 _ _ _ hk h1 (h3 0 (by simp)))
 ·exact s_mixr_move (k1 _ hk)
 ·obtain ⟨r,rfl⟩:=len1 hl
  have:=h2 (by simp)
  subst this
  exact s_mixr_scale (k3 _ _ _ hk h1 (h3 0 (by simp)))
 ·exact s_mixr_stretch (k1 _ hk)
 ·exact s_mixr_turn (k1 _ hk)
 ·exact s_mixr_mirror (k1 _ hk)
 ·exact s_mixr_fold (k1 _ hk)
 ·obtain ⟨r,rfl⟩:=len1 hl
  have:=h2 (by simp)
  subst this
  exact s_mixr_round (k3 _ _ _ hk h1 (h3 0 (by simp)))
 ·obtain ⟨r,rfl⟩:=len1 hl
  have:=h2 (by simp)
  subst this
  exact s_mixr_shell (k3 _ _ _ hk h1 (h3 0 (by simp)))
end Go.Proofs.YtbiacfkiakddiaaGreat
