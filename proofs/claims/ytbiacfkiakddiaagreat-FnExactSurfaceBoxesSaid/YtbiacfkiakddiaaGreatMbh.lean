/-
 Lemmas: V9.
-/
import Derived.Test.YtbiacfkiakddiaaGreatMbd
import Derived.Test.YtbiacfkiakddiaaGreatMbg
set_option linter.unusedVariables false
set_option linter.unusedSimpArgs false
namespace Go.Proofs.YtbiacfkiakddiaaGreat
open Go.RowKit Go.Fl
inductive PhiSm (k:Nat) (ra:Addr):FuncId → Array Value → Value → Prop
 | lesser (a b r:Nat) (h:cn .f32 r = lesserF (cn .f32 a) (cn .f32 b)):PhiSm k ra 221 #[F1 a,F1 b] (F1 r)
 | less (a b c d l h:Nat) (e:(cn .f32 l,cn .f32 h) = lessR (cn .f32 a,cn .f32 b) (cn .f32 c,cn .f32 d)):PhiSm k ra 214 #[RgV a b,RgV c d] (RgV l h)
 | apart (a b c d l h:Nat) (e:(cn .f32 l,cn .f32 h) = sizeR (lessR (cn .f32 a,cn .f32 b) (cn .f32 c,cn .f32 d))):PhiSm k ra 156 #[RgV a b,RgV c d] (RgV l h)
 | both (a b l h:Nat) (e:(cn .f32 l,cn .f32 h) = bothR (fun x => bulgeF x (cn .f32 k)) (cn .f32 a,cn .f32 b)):PhiSm k ra 209 #[RgV a b,.func (.func 223) #[] #[.pointer (some ra)]] (RgV l h)


theorem cells2 {w:World} {g:Nat} {x y:Value} {T:TypeId} (h:w.heap[g]? = some (.cells #[x,y] T (0,0))) :
  w.cell? ⟨g,0,none⟩ = some x ∧ w.cell? ⟨g,1,none⟩ = some y ∧ w.frozen? ⟨g,0,none⟩ = false ∧ w.frozen? ⟨g,1,none⟩ = false:=by
 refine ⟨?_,?_,?_,?_⟩ <;> simp [World.cell?,World.frozen?,h]
theorem kept2 {w:World} {g:Nat} {x y:Value} {T:TypeId} (h:w.heap[g]? = some (.cells #[x,y] T (0,0))) :
  Kept [(⟨g,0,none⟩,x),(⟨g,1,none⟩,y)] [⟨g,0,none⟩,⟨g,1,none⟩] w:=by
 obtain ⟨h1,h2,h3,h4⟩:=cells2 h
 simp only [Kept,ka,kb,kc,kd,ke,kf,kg]
 simp [h1,h2,h3,h4]
theorem set2 {w:World} {g:Nat} {a b:Value} {T:TypeId} (h:w.heap[g]? = some (.cells #[a,b] T (0,0))) (x y:Value) :
  ((w.setCell ⟨g,0,none⟩ x).setCell ⟨g,1,none⟩ y).heap[g]? = some (.cells #[x,y] T (0,0)) ∧ Below g w ((w.setCell ⟨g,0,none⟩ x).setCell ⟨g,1,none⟩ y):=by
 refine ⟨?_,?_⟩
 ·simp only [World.setCell,Array.getElem?_modify,if_true,h,Option.map_some]
  rfl
 ·have h1:Below g w (w.setCell ⟨g,0,none⟩ x):=(Below.refl g w).setCell (p:=⟨g,0,none⟩) (Nat.le_refl g) x
  exact h1.setCell (p:=⟨g,1,none⟩) (Nat.le_refl g) y

set_option maxRecDepth 100000 in
set_option maxHeartbeats 2000000 in
theorem mixr_smooth {b o bv ov cap k x0 x1 y0 y1:Nat} {w:World} (hN:Kept [(⟨b,o,none⟩,.int .i64 8),(⟨b,o + 3,none⟩,.slice (some ⟨bv,ov,none⟩) 1 cap),(⟨bv,ov,none⟩,F1 k)] [] w) :
  Calls Tryz.prog 136 #[.pointer (some ⟨b,o,none⟩),RgV x0 x1,RgV y0 y1] w (RetR (lessR (lesserF (cn .f32 x0) (cn .f32 y0),lesserF (cn .f32 x1) (cn .f32 y1)) (bothR (fun x => bulgeF x (cn .f32 k)) (lessR (cn .f32 k,cn .f32 k) (sizeR (lessR (cn .f32 x0,cn .f32 x1) (cn .f32 y0,cn .f32 y1)))))) w):=by
 have hK:=hN
 simp only [Kept,ka,kb,kc,kd,ke,kf,kg] at hK
 have hb:b < w.heap.size:=some_lt (a:=⟨b,o,none⟩) (by rw [hK.1];rfl)
 go_enter Tryz.func136,Tryz.ntmps136
 go_upto_region 1 with fail
 clear hK
 generalize hW:((w.alloc (.cells #[F1 x0,F1 x1] 118)).alloc (.cells #[F1 y0,F1 y1] 118)).alloc (.cells #[F1 0,F1 0] 118) = W1 at *
 have W1b:Below w.heap.size w W1:=by subst hW;exact (by repeat' (first | exact Below.refl _ _ | exact Nat.le_refl _ | refine below_drewN ?_ _ | refine Below.alloc ?_ (by simp <;> omega) _ | refine Below.setCell ?_ (by simp <;> omega) _ | refine below_step ?_ (by assumption)))
 have hkept:Kept [(⟨w.heap.size,0,none⟩,F1 x0),(⟨w.heap.size,1,none⟩,F1 x1),(⟨w.heap.size + 1,0,none⟩,F1 y0),(⟨w.heap.size + 1,1,none⟩,F1 y1),(⟨w.heap.size + 1 + 1,0,none⟩,F1 0),(⟨w.heap.size + 1 + 1,1,none⟩,F1 0)] [⟨w.heap.size + 1 + 1,0,none⟩,⟨w.heap.size + 1 + 1,1,none⟩] W1:=by
  subst hW;simp only [Kept,ka,kb,kc,kd,ke,kf,kg];(first | (go_simp;done) | (simp [World.cell?,World.frozen?,World.alloc,Array.getElem?_push];done))
 clear hW
 have hkept:=kept_app (keep hN W1b) hkept
 clear hN
 have hK:=hkept;simp only [Kept,ka,kb,kc,kd,ke,kf,kg] at hK
 have hb1:b < W1.heap.size:=Nat.lt_of_lt_of_le hb W1b.size
 go_upto_region 10 with fail
 have hbA:Below W1.heap.size W1 (W1.alloc (.cells #[F1 k] 25)):=(Below.refl _ _).alloc (Nat.le_refl _) _
 have hkept:=kept_app (keep hkept hbA) (show Kept [(⟨W1.heap.size,0,none⟩,F1 k)] [] (W1.alloc (.cells #[F1 k] 25)) by simp only [Kept,ka,kb,kc,kd,ke,kf,kg];simp)
 have W2b:=below_step W1b hbA
 generalize W1.alloc (.cells #[F1 k] 25) = W2 at *
 clear hK hbA
 have hK:=hkept;simp only [Kept,ka,kb,kc,kd,ke,kf,kg] at hK
 refine Qr.wp_made 10 9 8 #[F1 0,F1 0] 118 (by kernel_rfl) (by kernel_rfl) (PhiSm k ⟨W1.heap.size,0,none⟩) rfl (by kernel_rfl) ⟨_,rfl,rfl,fun a w => by go_simp⟩ (by kernel_rfl) ?_
 repeat (first | (refine Qr.walk_plain rfl fun K hK => ?_;refine Qr.one_rel (fun v => ∃ g,v = .pointer (some ⟨g,0,none⟩)) (fun w' hw' => ⟨.pointer (some ⟨w'.heap.size,0,none⟩),_,by go_simp;rfl,⟨_,rfl⟩,hw'.alloc hw'.size _,(Below.refl _ _).alloc (Nat.le_refl _) _⟩) (fun v hv => ?_);obtain ⟨g,rfl⟩:=hv;go_simp;refine hK _ ?_;clear hK K) | (first | (refine Qr.walk_plain rfl fun K hK => ?_;apply Qr.one_call;(focus (intro w' hw';go_simp;first | done | exact ⟨rfl,rfl⟩));(focus (intro w' hw'; have HK2:=keep hkept hw';go_at_call 209;refine (both_bulge (fun x => bulgeF x (cn .f32 k)) _ _ _ _ (fun x w'' hb => cl_bulge x k _ _ w'' ((keep HK2 hb).1 (⟨W1.heap.size,0,none⟩,F1 k) (by simp)))).mono ?_;rintro _ w2 ⟨l1,u1,rfl,hr1,hb1⟩ ;exact ⟨_,rfl,by constructor <;> assumption,below_step hw' (by assumption),by assumption⟩));intro v hv;cases hv;go_simp;refine hK _ ?_;clear hK K) | (refine Qr.walk_plain rfl fun K hK => ?_;refine one_bin _ _ _ _ _ rfl _ _ _ rfl rfl rfl (fun r hr => ?_);go_simp;refine hK _ ?_;clear hK K) | (refine Qr.walk_plain rfl fun K hK => ?_;apply Qr.one_det;(focus (intro w' hw';have HK:=keep hkept hw';simp only [Kept,ka,kb,kc,kd,ke,kf,kg] at HK;go_simp;first | done | rfl));go_simp;refine hK _ ?_;clear hK K) | (refine Qr.walk_plain rfl fun K hK => ?_;apply Qr.one_call;(focus (intro w' hw';go_simp;first | done | exact ⟨rfl,rfl⟩));(focus (intro w' hw'; go_at_call 221;refine (lesser_any _ _ _).mono ?_;rintro _ w2 ⟨r1,rfl,hr1,hb1⟩ ;exact ⟨_,rfl,by constructor <;> assumption,below_step hw' (by assumption),by assumption⟩));intro v hv;cases hv;go_simp;refine hK _ ?_;clear hK K) | (refine Qr.walk_plain rfl fun K hK => ?_;apply Qr.one_call;(focus (intro w' hw';go_simp;first | done | exact ⟨rfl,rfl⟩));(focus (intro w' hw'; go_at_call 222;refine (greater_any _ _ _).mono ?_;rintro _ w2 ⟨r1,rfl,hr1,hb1⟩ ;exact ⟨_,rfl,by constructor <;> assumption,below_step hw' (by assumption),by assumption⟩));intro v hv;cases hv;go_simp;refine hK _ ?_;clear hK K) | (refine Qr.walk_plain rfl fun K hK => ?_;apply Qr.one_call;(focus (intro w' hw';go_simp;first | done | exact ⟨rfl,rfl⟩));(focus (intro w' hw'; go_at_call 215;refine (sizer_any _ _ _).mono ?_;rintro _ w2 ⟨l1,u1,rfl,hr1,hb1⟩ ;exact ⟨_,rfl,by constructor <;> assumption,below_step hw' (by assumption),by assumption⟩));intro v hv;cases hv;go_simp;refine hK _ ?_;clear hK K) | (refine Qr.walk_plain rfl fun K hK => ?_;apply Qr.one_call;(focus (intro w' hw';go_simp;first | done | exact ⟨rfl,rfl⟩));(focus (intro w' hw'; go_at_call 212;refine (times_any _ _ _ _).mono ?_;rintro _ w2 ⟨l1,u1,rfl,hr1,hb1⟩ ;exact ⟨_,rfl,by constructor <;> assumption,below_step hw' (by assumption),by assumption⟩));intro v hv;cases hv;go_simp;refine hK _ ?_;clear hK K) | (refine Qr.walk_plain rfl fun K hK => ?_;apply Qr.one_call;(focus (intro w' hw';go_simp;first | done | exact ⟨rfl,rfl⟩));(focus (intro w' hw'; go_at_call 208;refine (down_any _ _ _ _).mono ?_;rintro _ w2 ⟨l1,u1,rfl,hr1,hb1⟩ ;exact ⟨_,rfl,by constructor <;> assumption,below_step hw' (by assumption),by assumption⟩));intro v hv;cases hv;go_simp;refine hK _ ?_;clear hK K) | (refine Qr.walk_plain rfl fun K hK => ?_;apply Qr.one_call;(focus (intro w' hw';go_simp;first | done | exact ⟨rfl,rfl⟩));(focus (intro w' hw'; go_at_call 214;refine (rless_any _ _ _ _ _).mono ?_;rintro _ w2 ⟨l1,u1,rfl,hr1,hb1⟩ ;exact ⟨_,rfl,by constructor <;> assumption,below_step hw' (by assumption),by assumption⟩));intro v hv;cases hv;go_simp;refine hK _ ?_;clear hK K) | (refine Qr.walk_plain rfl fun K hK => ?_;apply Qr.one_call;(focus (intro w' hw';go_simp;first | done | exact ⟨rfl,rfl⟩));(focus (intro w' hw'; go_at_call 156;refine (apart_any _ _ _ _ _).mono ?_;rintro _ w2 ⟨l1,u1,rfl,hr1,hb1⟩ ;exact ⟨_,rfl,by constructor <;> assumption,below_step hw' (by assumption),by assumption⟩));intro v hv;cases hv;go_simp;refine hK _ ?_;clear hK K)))
 rename_i l1 u1 e1 l2 u2 e2 l3 u3 e3
 refine Qr.walk_nil fun w3 hw3 hmade => ?_
 obtain ⟨g3,hg3,hgw,hgc⟩:=hmade _ rfl
 injection hg3 with hg3
 injection hg3 with hg3
 subst hg3
 obtain ⟨hc0,hc1,hf0,hf1⟩:=cells2 hgc
 have hset:=set2 hgc (F1 l3) (F1 u3)
 have hbw:=hw3.trans (hset.2.mono hgw)
 go_upto_region 11 with fail
 clear hc0 hc1 hf0 hf1 hgc hw3
 generalize (w3.setCell ⟨g,0,none⟩ (F1 l3)).setCell ⟨g,1,none⟩ (F1 u3) = w4 at hset hbw ⊢
 have hkept:=kept_app (keep hkept hbw) (kept2 hset.1)
 have W4b:=below_step W2b hbw
 clear hset hbw hK
 have hK:=hkept;simp only [Kept,ka,kb,kc,kd,ke,kf,kg] at hK
 refine Qr.wp_below 13 (by kernel_rfl) (by kernel_rfl) (PhiSm k ⟨W1.heap.size,0,none⟩) ?_
 repeat (first | (refine Qr.walk_plain rfl fun K hK => ?_;apply Qr.one_call;(focus (intro w' hw';go_simp;first | done | exact ⟨rfl,rfl⟩));(focus (intro w' hw'; have HK2:=keep hkept hw';go_at_call 209;refine (both_bulge (fun x => bulgeF x (cn .f32 k)) _ _ _ _ (fun x w'' hb => cl_bulge x k _ _ w'' ((keep HK2 hb).1 (⟨W1.heap.size,0,none⟩,F1 k) (by simp)))).mono ?_;rintro _ w2 ⟨l1,u1,rfl,hr1,hb1⟩ ;exact ⟨_,rfl,by constructor <;> assumption,below_step hw' (by assumption),by assumption⟩));intro v hv;cases hv;go_simp;refine hK _ ?_;clear hK K) | (refine Qr.walk_plain rfl fun K hK => ?_;refine one_bin _ _ _ _ _ rfl _ _ _ rfl rfl rfl (fun r hr => ?_);go_simp;refine hK _ ?_;clear hK K) | (refine Qr.walk_plain rfl fun K hK => ?_;apply Qr.one_det;(focus (intro w' hw';have HK:=keep hkept hw';simp only [Kept,ka,kb,kc,kd,ke,kf,kg] at HK;go_simp;first | done | rfl));go_simp;refine hK _ ?_;clear hK K) | (refine Qr.walk_plain rfl fun K hK => ?_;apply Qr.one_call;(focus (intro w' hw';go_simp;first | done | exact ⟨rfl,rfl⟩));(focus (intro w' hw'; go_at_call 221;refine (lesser_any _ _ _).mono ?_;rintro _ w2 ⟨r1,rfl,hr1,hb1⟩ ;exact ⟨_,rfl,by constructor <;> assumption,below_step hw' (by assumption),by assumption⟩));intro v hv;cases hv;go_simp;refine hK _ ?_;clear hK K) | (refine Qr.walk_plain rfl fun K hK => ?_;apply Qr.one_call;(focus (intro w' hw';go_simp;first | done | exact ⟨rfl,rfl⟩));(focus (intro w' hw'; go_at_call 222;refine (greater_any _ _ _).mono ?_;rintro _ w2 ⟨r1,rfl,hr1,hb1⟩ ;exact ⟨_,rfl,by constructor <;> assumption,below_step hw' (by assumption),by assumption⟩));intro v hv;cases hv;go_simp;refine hK _ ?_;clear hK K) | (refine Qr.walk_plain rfl fun K hK => ?_;apply Qr.one_call;(focus (intro w' hw';go_simp;first | done | exact ⟨rfl,rfl⟩));(focus (intro w' hw'; go_at_call 215;refine (sizer_any _ _ _).mono ?_;rintro _ w2 ⟨l1,u1,rfl,hr1,hb1⟩ ;exact ⟨_,rfl,by constructor <;> assumption,below_step hw' (by assumption),by assumption⟩));intro v hv;cases hv;go_simp;refine hK _ ?_;clear hK K) | (refine Qr.walk_plain rfl fun K hK => ?_;apply Qr.one_call;(focus (intro w' hw';go_simp;first | done | exact ⟨rfl,rfl⟩));(focus (intro w' hw'; go_at_call 212;refine (times_any _ _ _ _).mono ?_;rintro _ w2 ⟨l1,u1,rfl,hr1,hb1⟩ ;exact ⟨_,rfl,by constructor <;> assumption,below_step hw' (by assumption),by assumption⟩));intro v hv;cases hv;go_simp;refine hK _ ?_;clear hK K) | (refine Qr.walk_plain rfl fun K hK => ?_;apply Qr.one_call;(focus (intro w' hw';go_simp;first | done | exact ⟨rfl,rfl⟩));(focus (intro w' hw'; go_at_call 208;refine (down_any _ _ _ _).mono ?_;rintro _ w2 ⟨l1,u1,rfl,hr1,hb1⟩ ;exact ⟨_,rfl,by constructor <;> assumption,below_step hw' (by assumption),by assumption⟩));intro v hv;cases hv;go_simp;refine hK _ ?_;clear hK K) | (refine Qr.walk_plain rfl fun K hK => ?_;apply Qr.one_call;(focus (intro w' hw';go_simp;first | done | exact ⟨rfl,rfl⟩));(focus (intro w' hw'; go_at_call 214;refine (rless_any _ _ _ _ _).mono ?_;rintro _ w2 ⟨l1,u1,rfl,hr1,hb1⟩ ;exact ⟨_,rfl,by constructor <;> assumption,below_step hw' (by assumption),by assumption⟩));intro v hv;cases hv;go_simp;refine hK _ ?_;clear hK K) | (refine Qr.walk_plain rfl fun K hK => ?_;apply Qr.one_call;(focus (intro w' hw';go_simp;first | done | exact ⟨rfl,rfl⟩));(focus (intro w' hw'; go_at_call 156;refine (apart_any _ _ _ _ _).mono ?_;rintro _ w2 ⟨l1,u1,rfl,hr1,hb1⟩ ;exact ⟨_,rfl,by constructor <;> assumption,below_step hw' (by assumption),by assumption⟩));intro v hv;cases hv;go_simp;refine hK _ ?_;clear hK K))
 rename_i r1 h1 r2 h2 r3 r4 h3
 refine Qr.walk_nil fun w6 hw6 => ?_
 have hkept:=keep hkept hw6
 have W6b:=below_step W4b hw6
 clear hK
 have hK:=hkept
 simp only [Kept,ka,kb,kc,kd,ke,kf,kg] at hK
 go_wp2_with fail
 exact bodyPost_ret (v:=RgV r3 r4) (by simp [results,Tryz.results136,go_sem,hK,World.cell?_setCell_other,World.cell?_setCell_same'];first | done | exact ⟨rfl,rfl⟩) rfl ⟨_,_,rfl,by rw [h3,h1,h2,e3,e2,e1],bel2 W6b (by omega) ..⟩

set_option maxRecDepth 100000 in
set_option maxHeartbeats 2000000 in
theorem mixr_move {b o x0 x1 y0 y1:Nat} {w:World} (hN:Kept [(⟨b,o,none⟩,.int .i64 9)] [] w) :
  Calls Tryz.prog 136 #[.pointer (some ⟨b,o,none⟩),RgV x0 x1,RgV y0 y1] w (RetR (cn .f32 x0,cn .f32 x1) w):=by
 have hK:=hN
 simp only [Kept,ka,kb,kc,kd,ke,kf,kg] at hK
 have hb:b < w.heap.size:=some_lt (a:=⟨b,o,none⟩) (by rw [hK];rfl)
 go_enter Tryz.func136,Tryz.ntmps136
 go_upto_region 1 with fail
 clear hK
 generalize hW:((w.alloc (.cells #[F1 x0,F1 x1] 118)).alloc (.cells #[F1 y0,F1 y1] 118)).alloc (.cells #[F1 0,F1 0] 118) = W1 at *
 have W1b:Below w.heap.size w W1:=by subst hW;exact (by repeat' (first | exact Below.refl _ _ | exact Nat.le_refl _ | refine below_drewN ?_ _ | refine Below.alloc ?_ (by simp <;> omega) _ | refine Below.setCell ?_ (by simp <;> omega) _ | refine below_step ?_ (by assumption)))
 have hkept:Kept [(⟨w.heap.size,0,none⟩,F1 x0),(⟨w.heap.size,1,none⟩,F1 x1),(⟨w.heap.size + 1,0,none⟩,F1 y0),(⟨w.heap.size + 1,1,none⟩,F1 y1),(⟨w.heap.size + 1 + 1,0,none⟩,F1 0),(⟨w.heap.size + 1 + 1,1,none⟩,F1 0)] [⟨w.heap.size + 1 + 1,0,none⟩,⟨w.heap.size + 1 + 1,1,none⟩] W1:=by
  subst hW;simp only [Kept,ka,kb,kc,kd,ke,kf,kg];(first | (go_simp;done) | (simp [World.cell?,World.frozen?,World.alloc,Array.getElem?_push];done))
 clear hW
 have hkept:=kept_app (keep hN W1b) hkept
 clear hN
 have hK:=hkept;simp only [Kept,ka,kb,kc,kd,ke,kf,kg] at hK
 have hb1:b < W1.heap.size:=Nat.lt_of_lt_of_le hb W1b.size
 go_wp2_with fail
 exact bodyPost_ret (v:=RgV x0 x1) (by simp [results,Tryz.results136,go_sem,hK,World.cell?_setCell_other,World.cell?_setCell_same'];first | done | exact ⟨rfl,rfl⟩) rfl ⟨_,_,rfl,rfl,bel2 W1b (by omega) ..⟩

set_option maxRecDepth 100000 in
set_option maxHeartbeats 2000000 in
theorem mixr_stretch {b o x0 x1 y0 y1:Nat} {w:World} (hN:Kept [(⟨b,o,none⟩,.int .i64 11)] [] w) :
  Calls Tryz.prog 136 #[.pointer (some ⟨b,o,none⟩),RgV x0 x1,RgV y0 y1] w (RetR (cn .f32 x0,cn .f32 x1) w):=by
 have hK:=hN
 simp only [Kept,ka,kb,kc,kd,ke,kf,kg] at hK
 have hb:b < w.heap.size:=some_lt (a:=⟨b,o,none⟩) (by rw [hK];rfl)
 go_enter Tryz.func136,Tryz.ntmps136
 go_upto_region 1 with fail
 clear hK
 generalize hW:((w.alloc (.cells #[F1 x0,F1 x1] 118)).alloc (.cells #[F1 y0,F1 y1] 118)).alloc (.cells #[F1 0,F1 0] 118) = W1 at *
 have W1b:Below w.heap.size w W1:=by subst hW;exact (by repeat' (first | exact Below.refl _ _ | exact Nat.le_refl _ | refine below_drewN ?_ _ | refine Below.alloc ?_ (by simp <;> omega) _ | refine Below.setCell ?_ (by simp <;> omega) _ | refine below_step ?_ (by assumption)))
 have hkept:Kept [(⟨w.heap.size,0,none⟩,F1 x0),(⟨w.heap.size,1,none⟩,F1 x1),(⟨w.heap.size + 1,0,none⟩,F1 y0),(⟨w.heap.size + 1,1,none⟩,F1 y1),(⟨w.heap.size + 1 + 1,0,none⟩,F1 0),(⟨w.heap.size + 1 + 1,1,none⟩,F1 0)] [⟨w.heap.size + 1 + 1,0,none⟩,⟨w.heap.size + 1 + 1,1,none⟩] W1:=by
  subst hW;simp only [Kept,ka,kb,kc,kd,ke,kf,kg];(first | (go_simp;done) | (simp [World.cell?,World.frozen?,World.alloc,Array.getElem?_push];done))
 clear hW
 have hkept:=kept_app (keep hN W1b) hkept
 clear hN
 have hK:=hkept;simp only [Kept,ka,kb,kc,kd,ke,kf,kg] at hK
 have hb1:b < W1.heap.size:=Nat.lt_of_lt_of_le hb W1b.size
 go_wp2_with fail
 exact bodyPost_ret (v:=RgV x0 x1) (by simp [results,Tryz.results136,go_sem,hK,World.cell?_setCell_other,World.cell?_setCell_same'];first | done | exact ⟨rfl,rfl⟩) rfl ⟨_,_,rfl,rfl,bel2 W1b (by omega) ..⟩

set_option maxRecDepth 100000 in
set_option maxHeartbeats 2000000 in
theorem mixr_turn {b o x0 x1 y0 y1:Nat} {w:World} (hN:Kept [(⟨b,o,none⟩,.int .i64 12)] [] w) :
  Calls Tryz.prog 136 #[.pointer (some ⟨b,o,none⟩),RgV x0 x1,RgV y0 y1] w (RetR (cn .f32 x0,cn .f32 x1) w):=by
 have hK:=hN
 simp only [Kept,ka,kb,kc,kd,ke,kf,kg] at hK
 have hb:b < w.heap.size:=some_lt (a:=⟨b,o,none⟩) (by rw [hK];rfl)
 go_enter Tryz.func136,Tryz.ntmps136
 go_upto_region 1 with fail
 clear hK
 generalize hW:((w.alloc (.cells #[F1 x0,F1 x1] 118)).alloc (.cells #[F1 y0,F1 y1] 118)).alloc (.cells #[F1 0,F1 0] 118) = W1 at *
 have W1b:Below w.heap.size w W1:=by subst hW;exact (by repeat' (first | exact Below.refl _ _ | exact Nat.le_refl _ | refine below_drewN ?_ _ | refine Below.alloc ?_ (by simp <;> omega) _ | refine Below.setCell ?_ (by simp <;> omega) _ | refine below_step ?_ (by assumption)))
 have hkept:Kept [(⟨w.heap.size,0,none⟩,F1 x0),(⟨w.heap.size,1,none⟩,F1 x1),(⟨w.heap.size + 1,0,none⟩,F1 y0),(⟨w.heap.size + 1,1,none⟩,F1 y1),(⟨w.heap.size + 1 + 1,0,none⟩,F1 0),(⟨w.heap.size + 1 + 1,1,none⟩,F1 0)] [⟨w.heap.size + 1 + 1,0,none⟩,⟨w.heap.size + 1 + 1,1,none⟩] W1:=by
  subst hW;simp only [Kept,ka,kb,kc,kd,ke,kf,kg];(first | (go_simp;done) | (simp [World.cell?,World.frozen?,World.alloc,Array.getElem?_push];done))
 clear hW
 have hkept:=kept_app (keep hN W1b) hkept
 clear hN
 have hK:=hkept;simp only [Kept,ka,kb,kc,kd,ke,kf,kg] at hK
 have hb1:b < W1.heap.size:=Nat.lt_of_lt_of_le hb W1b.size
 go_wp2_with fail
 exact bodyPost_ret (v:=RgV x0 x1) (by simp [results,Tryz.results136,go_sem,hK,World.cell?_setCell_other,World.cell?_setCell_same'];first | done | exact ⟨rfl,rfl⟩) rfl ⟨_,_,rfl,rfl,bel2 W1b (by omega) ..⟩

set_option maxRecDepth 100000 in
set_option maxHeartbeats 2000000 in
theorem mixr_mirror {b o x0 x1 y0 y1:Nat} {w:World} (hN:Kept [(⟨b,o,none⟩,.int .i64 13)] [] w) :
  Calls Tryz.prog 136 #[.pointer (some ⟨b,o,none⟩),RgV x0 x1,RgV y0 y1] w (RetR (cn .f32 x0,cn .f32 x1) w):=by
 have hK:=hN
 simp only [Kept,ka,kb,kc,kd,ke,kf,kg] at hK
 have hb:b < w.heap.size:=some_lt (a:=⟨b,o,none⟩) (by rw [hK];rfl)
 go_enter Tryz.func136,Tryz.ntmps136
 go_upto_region 1 with fail
 clear hK
 generalize hW:((w.alloc (.cells #[F1 x0,F1 x1] 118)).alloc (.cells #[F1 y0,F1 y1] 118)).alloc (.cells #[F1 0,F1 0] 118) = W1 at *
 have W1b:Below w.heap.size w W1:=by subst hW;exact (by repeat' (first | exact Below.refl _ _ | exact Nat.le_refl _ | refine below_drewN ?_ _ | refine Below.alloc ?_ (by simp <;> omega) _ | refine Below.setCell ?_ (by simp <;> omega) _ | refine below_step ?_ (by assumption)))
 have hkept:Kept [(⟨w.heap.size,0,none⟩,F1 x0),(⟨w.heap.size,1,none⟩,F1 x1),(⟨w.heap.size + 1,0,none⟩,F1 y0),(⟨w.heap.size + 1,1,none⟩,F1 y1),(⟨w.heap.size + 1 + 1,0,none⟩,F1 0),(⟨w.heap.size + 1 + 1,1,none⟩,F1 0)] [⟨w.heap.size + 1 + 1,0,none⟩,⟨w.heap.size + 1 + 1,1,none⟩] W1:=by
  subst hW;simp only [Kept,ka,kb,kc,kd,ke,kf,kg];(first | (go_simp;done) | (simp [World.cell?,World.frozen?,World.alloc,Array.getElem?_push];done))
 clear hW
 have hkept:=kept_app (keep hN W1b) hkept
 clear hN
 have hK:=hkept;simp only [Kept,ka,kb,kc,kd,ke,kf,kg] at hK
 have hb1:b < W1.heap.size:=Nat.lt_of_lt_of_le hb W1b.size
 go_wp2_with fail
 exact bodyPost_ret (v:=RgV x0 x1) (by simp [results,Tryz.results136,go_sem,hK,World.cell?_setCell_other,World.cell?_setCell_same'];first | done | exact ⟨rfl,rfl⟩) rfl ⟨_,_,rfl,rfl,bel2 W1b (by omega) ..⟩

set_option maxRecDepth 100000 in
set_option maxHeartbeats 2000000 in
theorem mixr_fold {b o x0 x1 y0 y1:Nat} {w:World} (hN:Kept [(⟨b,o,none⟩,.int .i64 14)] [] w) :
  Calls Tryz.prog 136 #[.pointer (some ⟨b,o,none⟩),RgV x0 x1,RgV y0 y1] w (RetR (cn .f32 x0,cn .f32 x1) w):=by
 have hK:=hN
 simp only [Kept,ka,kb,kc,kd,ke,kf,kg] at hK
 have hb:b < w.heap.size:=some_lt (a:=⟨b,o,none⟩) (by rw [hK];rfl)
 go_enter Tryz.func136,Tryz.ntmps136
 go_upto_region 1 with fail
 clear hK
 generalize hW:((w.alloc (.cells #[F1 x0,F1 x1] 118)).alloc (.cells #[F1 y0,F1 y1] 118)).alloc (.cells #[F1 0,F1 0] 118) = W1 at *
 have W1b:Below w.heap.size w W1:=by subst hW;exact (by repeat' (first | exact Below.refl _ _ | exact Nat.le_refl _ | refine below_drewN ?_ _ | refine Below.alloc ?_ (by simp <;> omega) _ | refine Below.setCell ?_ (by simp <;> omega) _ | refine below_step ?_ (by assumption)))
 have hkept:Kept [(⟨w.heap.size,0,none⟩,F1 x0),(⟨w.heap.size,1,none⟩,F1 x1),(⟨w.heap.size + 1,0,none⟩,F1 y0),(⟨w.heap.size + 1,1,none⟩,F1 y1),(⟨w.heap.size + 1 + 1,0,none⟩,F1 0),(⟨w.heap.size + 1 + 1,1,none⟩,F1 0)] [⟨w.heap.size + 1 + 1,0,none⟩,⟨w.heap.size + 1 + 1,1,none⟩] W1:=by
  subst hW;simp only [Kept,ka,kb,kc,kd,ke,kf,kg];(first | (go_simp;done) | (simp [World.cell?,World.frozen?,World.alloc,Array.getElem?_push];done))
 clear hW
 have hkept:=kept_app (keep hN W1b) hkept
 clear hN
 have hK:=hkept;simp only [Kept,ka,kb,kc,kd,ke,kf,kg] at hK
 have hb1:b < W1.heap.size:=Nat.lt_of_lt_of_le hb W1b.size
 go_wp2_with fail
 exact bodyPost_ret (v:=RgV x0 x1) (by simp [results,Tryz.results136,go_sem,hK,World.cell?_setCell_other,World.cell?_setCell_same'];first | done | exact ⟨rfl,rfl⟩) rfl ⟨_,_,rfl,rfl,bel2 W1b (by omega) ..⟩

def mixR (n:PN) (a b:Nat × Nat):Nat × Nat :=
 match n.kind,n.nums.map (cn .f32) with
 | 5,_ => (lesserF a.1 b.1,lesserF a.2 b.2)
 | 6,_ => (greaterF a.1 b.1,greaterF a.2 b.2)
 | 7,_ => (greaterF a.1 (negc .f32 b.2),greaterF a.2 (negc .f32 b.1))
 | 8,[k] => lessR (lesserF a.1 b.1,lesserF a.2 b.2) (bothR (fun x => bulgeF x k) (lessR (k,k) (sizeR (lessR a b))))
 | 10,[r] => timesR a r
 | 15,[r] => downR a r
 | 16,[r] => downR (sizeR a) r
 | _,_ => a

theorem mixr_node {n:PN} {b o:Nat} {w:World} (hn:NodeIn n b o w) (hok:n.ok) (hc:(ruleF n.kind).2.1 ≠ 0) (x0 x1 y0 y1:Nat) :
  Calls Tryz.prog 136 #[.pointer (some ⟨b,o,none⟩),RgV x0 x1,RgV y0 y1] w (RetR (mixR n (cn .f32 x0,cn .f32 x1) (cn .f32 y0,cn .f32 y1)) w):=by
 obtain ⟨bp,bv,ov,cap,h1,h2,h3⟩:=hn.nums
 have hk:=hn.kind
 have hr:=hok.kind
 have hl:=hok.nums
 obtain ⟨k,na,nb,nums⟩:=n
 simp only at *
 have:k = 0 ∨ k = 1 ∨ k = 2 ∨ k = 3 ∨ k = 4 ∨ k = 5 ∨ k = 6 ∨ k = 7 ∨ k = 8 ∨ k = 9 ∨ k = 10 ∨ k = 11 ∨ k = 12 ∨ k = 13 ∨ k = 14 ∨ k = 15 ∨ k = 16:=by omega
 have k1:∀ v,w.cell? ⟨b,o,none⟩ = some v → Kept [(⟨b,o,none⟩,v)] [] w:=fun v h => kof (by intro p hp;simp at hp;subst hp;exact h)
 have k3:∀ v s f,w.cell? ⟨b,o,none⟩ = some v → w.cell? ⟨b,o + 3,none⟩ = some s → w.cell? ⟨bv,ov,none⟩ = some f → Kept [(⟨b,o,none⟩,v),(⟨b,o + 3,none⟩,s),(⟨bv,ov,none⟩,f)] [] w:=fun v s f h1 h2 h3 => kof (by intro p hp;simp at hp;rcases hp with rfl | rfl | rfl <;> assumption)
 rcases this with h | h | h | h | h | h | h | h | h | h | h | h | h | h | h | h | h <;> subst h
 iterate 5 exact absurd rfl hc
 ·exact mixr_union (k1 _ hk)
 ·exact mixr_cut (k1 _ hk)
 ·exact mixr_less (k1 _ hk)
 ·obtain ⟨r,rfl⟩:=len1 hl
  have:=h2 (by simp)
  subst this
  exact mixr_smooth (k3 _ _ _ hk h1 (h3 0 (by simp)))
 ·exact mixr_move (k1 _ hk)
 ·obtain ⟨r,rfl⟩:=len1 hl
  have:=h2 (by simp)
  subst this
  exact mixr_scale (k3 _ _ _ hk h1 (h3 0 (by simp)))
 ·exact mixr_stretch (k1 _ hk)
 ·exact mixr_turn (k1 _ hk)
 ·exact mixr_mirror (k1 _ hk)
 ·exact mixr_fold (k1 _ hk)
 ·obtain ⟨r,rfl⟩:=len1 hl
  have:=h2 (by simp)
  subst this
  exact mixr_round (k3 _ _ _ hk h1 (h3 0 (by simp)))
 ·obtain ⟨r,rfl⟩:=len1 hl
  have:=h2 (by simp)
  subst this
  exact mixr_shell (k3 _ _ _ hk h1 (h3 0 (by simp)))
end Go.Proofs.YtbiacfkiakddiaaGreat
