/-
 Lemmas: V2,V25.
-/
import Derived.Test.YtbiacfkiakddiaaGreatMba
set_option linter.unusedVariables false
set_option linter.unusedSimpArgs false
namespace Go.Proofs.YtbiacfkiakddiaaGreat
open Go.RowKit Go.Fl
inductive PhiRg:FuncId → Array Value → Value → Prop
 | sizer (a b l h:Nat) (e:(cn .f32 l,cn .f32 h) = sizeR (cn .f32 a,cn .f32 b)):PhiRg 215 #[RgV a b] (RgV l h)
 | long (a b c r:Nat) (h:cn .f32 r = longF (cn .f32 a) (cn .f32 b) (cn .f32 c)):PhiRg 250 #[V3 a b c] (F1 r)


set_option maxRecDepth 100000 in
set_option maxHeartbeats 1000000 in
theorem longr_any (a b c d e f:Nat) (w:World) :
  Calls Tryz.prog 220 #[RgV a b,RgV c d,RgV e f] w (RetR (longR (cn .f32 a,cn .f32 b) (cn .f32 c,cn .f32 d) (cn .f32 e,cn .f32 f)) w):=by
 go_enter Tryz.func220,Tryz.ntmps220
 go_upto_region 1 with fail
 generalize hW:(((w.alloc (.cells #[F1 a,F1 b] 118)).alloc (.cells #[F1 c,F1 d] 118)).alloc (.cells #[F1 e,F1 f] 118)).alloc (.cells #[F1 0,F1 0] 118) = W1 at *
 have W1b:Below w.heap.size w W1:=by subst hW;exact (by repeat' (first | exact Below.refl _ _ | exact Nat.le_refl _ | refine below_drewN ?_ _ | refine Below.alloc ?_ (by simp <;> omega) _ | refine Below.setCell ?_ (by simp <;> omega) _ | refine below_step ?_ (by assumption)))
 have hkept:Kept [(⟨w.heap.size,0,none⟩,F1 a),(⟨w.heap.size,1,none⟩,F1 b),(⟨w.heap.size + 1,0,none⟩,F1 c),(⟨w.heap.size + 1,1,none⟩,F1 d),(⟨w.heap.size + 1 + 1,0,none⟩,F1 e),(⟨w.heap.size + 1 + 1,1,none⟩,F1 f),(⟨w.heap.size + 1 + 1 + 1,0,none⟩,F1 0),(⟨w.heap.size + 1 + 1 + 1,1,none⟩,F1 0)] [⟨w.heap.size,0,none⟩,⟨w.heap.size,1,none⟩,⟨w.heap.size + 1,0,none⟩,⟨w.heap.size + 1,1,none⟩,⟨w.heap.size + 1 + 1,0,none⟩,⟨w.heap.size + 1 + 1,1,none⟩,⟨w.heap.size + 1 + 1 + 1,0,none⟩,⟨w.heap.size + 1 + 1 + 1,1,none⟩] W1:=by
  subst hW;simp only [Kept,ka,kb,kc,kd,ke,kf,kg];(first | (go_simp;done) | (simp [World.cell?,World.frozen?,World.alloc,Array.getElem?_push];done))
 clear hW
 have hK:=hkept;simp only [Kept,ka,kb,kc,kd,ke,kf,kg] at hK
 refine Qr.wp_below 6 (by kernel_rfl) (by kernel_rfl) PhiRg ?_
 repeat (first | (refine Qr.walk_plain rfl fun K hK => ?_;refine one_bin _ _ _ _ _ rfl _ _ _ rfl rfl rfl (fun r hr => ?_);go_simp;refine hK _ ?_;clear hK K) | (refine Qr.walk_plain rfl fun K hK => ?_;apply Qr.one_det;(focus (intro w' hw';have HK:=keep hkept hw';simp only [Kept,ka,kb,kc,kd,ke,kf,kg] at HK;go_simp;first | done | rfl));go_simp;refine hK _ ?_;clear hK K) | (refine Qr.walk_plain rfl fun K hK => ?_;apply Qr.one_call;(focus (intro w' hw';go_simp;first | done | exact ⟨rfl,rfl⟩));(focus (intro w' hw'; go_at_call 250;refine (long_any _ _ _ _).mono ?_;rintro _ w2 ⟨r1,rfl,hr1,hb1⟩ ;exact ⟨_,rfl,by constructor <;> assumption,below_step hw' (by assumption),by assumption⟩));intro v hv;cases hv;go_simp;refine hK _ ?_;clear hK K) | (refine Qr.walk_plain rfl fun K hK => ?_;apply Qr.one_call;(focus (intro w' hw';go_simp;first | done | exact ⟨rfl,rfl⟩));(focus (intro w' hw'; go_at_call 215;refine (sizer_any _ _ _).mono ?_;rintro _ w2 ⟨l1,u1,rfl,hr1,hb1⟩ ;exact ⟨_,rfl,by constructor <;> assumption,below_step hw' (by assumption),by assumption⟩));intro v hv;cases hv;go_simp;refine hK _ ?_;clear hK K))
 rename_i l1 u1 e1 l2 u2 e2 l3 u3 e3
 refine Qr.walk_nil fun w6 hw6 => ?_
 have hkept:=keep hkept hw6
 have W6b:=below_step W1b hw6
 clear hK
 have hK:=hkept
 simp only [Kept,ka,kb,kc,kd,ke,kf,kg] at hK
 go_upto_region 2 with fail
 have W7b:=bel2 (bel2 (bel2 W6b (g:=w.heap.size) (by omega) (F1 l1) (F1 u1)) (g:=w.heap.size + 1) (by omega) (F1 l2) (F1 u2)) (g:=w.heap.size + 1 + 1) (by omega) (F1 l3) (F1 u3)
 have hkept:Kept [(⟨w.heap.size,0,none⟩,F1 l1),(⟨w.heap.size,1,none⟩,F1 u1),(⟨w.heap.size + 1,0,none⟩,F1 l2),(⟨w.heap.size + 1,1,none⟩,F1 u2),(⟨w.heap.size + 1 + 1,0,none⟩,F1 l3),(⟨w.heap.size + 1 + 1,1,none⟩,F1 u3),(⟨w.heap.size + 1 + 1 + 1,0,none⟩,F1 0),(⟨w.heap.size + 1 + 1 + 1,1,none⟩,F1 0)] [⟨w.heap.size + 1 + 1 + 1,0,none⟩,⟨w.heap.size + 1 + 1 + 1,1,none⟩] ((((((w6.setCell ⟨w.heap.size,0,none⟩ (F1 l1)).setCell ⟨w.heap.size,1,none⟩ (F1 u1)).setCell ⟨w.heap.size + 1,0,none⟩ (F1 l2)).setCell ⟨w.heap.size + 1,1,none⟩ (F1 u2)).setCell ⟨w.heap.size + 1 + 1,0,none⟩ (F1 l3)).setCell ⟨w.heap.size + 1 + 1,1,none⟩ (F1 u3)):=by simp only [Kept,ka,kb,kc,kd,ke,kf,kg];simp [hK,go_sem,World.cell?_setCell_other,World.cell?_setCell_same',World.frozen?_setCell]
 clear hK
 generalize (((((w6.setCell ⟨w.heap.size,0,none⟩ (F1 l1)).setCell ⟨w.heap.size,1,none⟩ (F1 u1)).setCell ⟨w.heap.size + 1,0,none⟩ (F1 l2)).setCell ⟨w.heap.size + 1,1,none⟩ (F1 u2)).setCell ⟨w.heap.size + 1 + 1,0,none⟩ (F1 l3)).setCell ⟨w.heap.size + 1 + 1,1,none⟩ (F1 u3) = W7 at *
 have hK:=hkept;simp only [Kept,ka,kb,kc,kd,ke,kf,kg] at hK
 refine Qr.wp_below 17 (by kernel_rfl) (by kernel_rfl) PhiRg ?_
 repeat (first | (refine Qr.walk_plain rfl fun K hK => ?_;refine one_bin _ _ _ _ _ rfl _ _ _ rfl rfl rfl (fun r hr => ?_);go_simp;refine hK _ ?_;clear hK K) | (refine Qr.walk_plain rfl fun K hK => ?_;apply Qr.one_det;(focus (intro w' hw';have HK:=keep hkept hw';simp only [Kept,ka,kb,kc,kd,ke,kf,kg] at HK;go_simp;first | done | rfl));go_simp;refine hK _ ?_;clear hK K) | (refine Qr.walk_plain rfl fun K hK => ?_;apply Qr.one_call;(focus (intro w' hw';go_simp;first | done | exact ⟨rfl,rfl⟩));(focus (intro w' hw'; go_at_call 250;refine (long_any _ _ _ _).mono ?_;rintro _ w2 ⟨r1,rfl,hr1,hb1⟩ ;exact ⟨_,rfl,by constructor <;> assumption,below_step hw' (by assumption),by assumption⟩));intro v hv;cases hv;go_simp;refine hK _ ?_;clear hK K) | (refine Qr.walk_plain rfl fun K hK => ?_;apply Qr.one_call;(focus (intro w' hw';go_simp;first | done | exact ⟨rfl,rfl⟩));(focus (intro w' hw'; go_at_call 215;refine (sizer_any _ _ _).mono ?_;rintro _ w2 ⟨l1,u1,rfl,hr1,hb1⟩ ;exact ⟨_,rfl,by constructor <;> assumption,below_step hw' (by assumption),by assumption⟩));intro v hv;cases hv;go_simp;refine hK _ ?_;clear hK K))
 rename_i r1 hr1 r2 hr2
 refine Qr.walk_nil fun w8 hw8 => ?_
 have hkept:=keep hkept hw8
 have W8b:=below_step W7b hw8
 clear hK
 have hK:=hkept
 simp only [Kept,ka,kb,kc,kd,ke,kf,kg] at hK
 go_wp2_with fail
 exact bodyPost_ret (v:=RgV r1 r2) (by simp [results,Tryz.results220,go_sem,hK,World.cell?_setCell_other,World.cell?_setCell_same'];first | done | exact ⟨rfl,rfl⟩) rfl ⟨_,_,rfl,by rw [hr1,hr2];unfold longR;rw [← e1,← e2,← e3],bel2 W8b (by omega) ..⟩

set_option maxRecDepth 100000 in
set_option maxHeartbeats 1000000 in
theorem s_longr_any (a b c d e f:Nat) (w:World) :
  Calls Tryz.prog 199 #[RgV a b,RgV c d,RgV e f] w (RetR (longR (cn .f32 a,cn .f32 b) (cn .f32 c,cn .f32 d) (cn .f32 e,cn .f32 f)) w):=by
 go_enter Tryz.func199,Tryz.ntmps199
 go_upto_region 1 with fail
 generalize hW:(((w.alloc (.cells #[F1 a,F1 b] 118)).alloc (.cells #[F1 c,F1 d] 118)).alloc (.cells #[F1 e,F1 f] 118)).alloc (.cells #[F1 0,F1 0] 118) = W1 at *
 have W1b:Below w.heap.size w W1:=by subst hW;exact (by repeat' (first | exact Below.refl _ _ | exact Nat.le_refl _ | refine below_drewN ?_ _ | refine Below.alloc ?_ (by simp <;> omega) _ | refine Below.setCell ?_ (by simp <;> omega) _ | refine below_step ?_ (by assumption)))
 have hkept:Kept [(⟨w.heap.size,0,none⟩,F1 a),(⟨w.heap.size,1,none⟩,F1 b),(⟨w.heap.size + 1,0,none⟩,F1 c),(⟨w.heap.size + 1,1,none⟩,F1 d),(⟨w.heap.size + 1 + 1,0,none⟩,F1 e),(⟨w.heap.size + 1 + 1,1,none⟩,F1 f),(⟨w.heap.size + 1 + 1 + 1,0,none⟩,F1 0),(⟨w.heap.size + 1 + 1 + 1,1,none⟩,F1 0)] [⟨w.heap.size,0,none⟩,⟨w.heap.size,1,none⟩,⟨w.heap.size + 1,0,none⟩,⟨w.heap.size + 1,1,none⟩,⟨w.heap.size + 1 + 1,0,none⟩,⟨w.heap.size + 1 + 1,1,none⟩,⟨w.heap.size + 1 + 1 + 1,0,none⟩,⟨w.heap.size + 1 + 1 + 1,1,none⟩] W1:=by
  subst hW;simp only [Kept,ka,kb,kc,kd,ke,kf,kg];(first | (go_simp;done) | (simp [World.cell?,World.frozen?,World.alloc,Array.getElem?_push];done))
 clear hW
 have hK:=hkept;simp only [Kept,ka,kb,kc,kd,ke,kf,kg] at hK
 go_upto_region 2 with (go_at_call 194;refine (s_sizer_any _ _ _).mono ?_;rintro _ w2 ⟨l1,u1,rfl,e1,hb1⟩;have hkept:=keepT hkept hb1 rfl;clear hK;have hK:=hkept;simp only [Kept,ka,kb,kc,kd,ke,kf,kg] at hK)
 have W2b:=bel2 (below_step W1b hb1) (g:=w.heap.size) (by omega) (F1 l1) (F1 u1)
 have hkept:Kept [(⟨w.heap.size,0,none⟩,F1 l1),(⟨w.heap.size,1,none⟩,F1 u1),(⟨w.heap.size + 1,0,none⟩,F1 c),(⟨w.heap.size + 1,1,none⟩,F1 d),(⟨w.heap.size + 1 + 1,0,none⟩,F1 e),(⟨w.heap.size + 1 + 1,1,none⟩,F1 f),(⟨w.heap.size + 1 + 1 + 1,0,none⟩,F1 0),(⟨w.heap.size + 1 + 1 + 1,1,none⟩,F1 0)] [⟨w.heap.size,0,none⟩,⟨w.heap.size,1,none⟩,⟨w.heap.size + 1,0,none⟩,⟨w.heap.size + 1,1,none⟩,⟨w.heap.size + 1 + 1,0,none⟩,⟨w.heap.size + 1 + 1,1,none⟩,⟨w.heap.size + 1 + 1 + 1,0,none⟩,⟨w.heap.size + 1 + 1 + 1,1,none⟩] ((w2.setCell ⟨w.heap.size,0,none⟩ (F1 l1)).setCell ⟨w.heap.size,1,none⟩ (F1 u1)):=by simp only [Kept,ka,kb,kc,kd,ke,kf,kg];simp [hK,go_sem,World.cell?_setCell_other,World.cell?_setCell_same',World.frozen?_setCell]
 clear hK
 generalize ((w2.setCell ⟨w.heap.size,0,none⟩ (F1 l1)).setCell ⟨w.heap.size,1,none⟩ (F1 u1)) = W2 at *
 have hK:=hkept;simp only [Kept,ka,kb,kc,kd,ke,kf,kg] at hK
 go_upto_region 3 with (go_at_call 194;refine (s_sizer_any _ _ _).mono ?_;rintro _ w3 ⟨l2,u2,rfl,e2,hb1⟩;have hkept:=keepT hkept hb1 rfl;clear hK;have hK:=hkept;simp only [Kept,ka,kb,kc,kd,ke,kf,kg] at hK)
 have W3b:=bel2 (below_step W2b hb1) (g:=w.heap.size + 1) (by omega) (F1 l2) (F1 u2)
 have hkept:Kept [(⟨w.heap.size,0,none⟩,F1 l1),(⟨w.heap.size,1,none⟩,F1 u1),(⟨w.heap.size + 1,0,none⟩,F1 l2),(⟨w.heap.size + 1,1,none⟩,F1 u2),(⟨w.heap.size + 1 + 1,0,none⟩,F1 e),(⟨w.heap.size + 1 + 1,1,none⟩,F1 f),(⟨w.heap.size + 1 + 1 + 1,0,none⟩,F1 0),(⟨w.heap.size + 1 + 1 + 1,1,none⟩,F1 0)] [⟨w.heap.size,0,none⟩,⟨w.heap.size,1,none⟩,⟨w.heap.size + 1,0,none⟩,⟨w.heap.size + 1,1,none⟩,⟨w.heap.size + 1 + 1,0,none⟩,⟨w.heap.size + 1 + 1,1,none⟩,⟨w.heap.size + 1 + 1 + 1,0,none⟩,⟨w.heap.size + 1 + 1 + 1,1,none⟩] ((w3.setCell ⟨w.heap.size + 1,0,none⟩ (F1 l2)).setCell ⟨w.heap.size + 1,1,none⟩ (F1 u2)):=by simp only [Kept,ka,kb,kc,kd,ke,kf,kg];simp [hK,go_sem,World.cell?_setCell_other,World.cell?_setCell_same',World.frozen?_setCell]
 clear hK
 generalize ((w3.setCell ⟨w.heap.size + 1,0,none⟩ (F1 l2)).setCell ⟨w.heap.size + 1,1,none⟩ (F1 u2)) = W3 at *
 have hK:=hkept;simp only [Kept,ka,kb,kc,kd,ke,kf,kg] at hK
 go_upto_region 4 with (go_at_call 194;refine (s_sizer_any _ _ _).mono ?_;rintro _ w4 ⟨l3,u3,rfl,e3,hb1⟩;have hkept:=keepT hkept hb1 rfl;clear hK;have hK:=hkept;simp only [Kept,ka,kb,kc,kd,ke,kf,kg] at hK)
 have W4b:=bel2 (below_step W3b hb1) (g:=w.heap.size + 1 + 1) (by omega) (F1 l3) (F1 u3)
 have hkept:Kept [(⟨w.heap.size,0,none⟩,F1 l1),(⟨w.heap.size,1,none⟩,F1 u1),(⟨w.heap.size + 1,0,none⟩,F1 l2),(⟨w.heap.size + 1,1,none⟩,F1 u2),(⟨w.heap.size + 1 + 1,0,none⟩,F1 l3),(⟨w.heap.size + 1 + 1,1,none⟩,F1 u3),(⟨w.heap.size + 1 + 1 + 1,0,none⟩,F1 0),(⟨w.heap.size + 1 + 1 + 1,1,none⟩,F1 0)] [⟨w.heap.size,0,none⟩,⟨w.heap.size,1,none⟩,⟨w.heap.size + 1,0,none⟩,⟨w.heap.size + 1,1,none⟩,⟨w.heap.size + 1 + 1,0,none⟩,⟨w.heap.size + 1 + 1,1,none⟩,⟨w.heap.size + 1 + 1 + 1,0,none⟩,⟨w.heap.size + 1 + 1 + 1,1,none⟩] ((w4.setCell ⟨w.heap.size + 1 + 1,0,none⟩ (F1 l3)).setCell ⟨w.heap.size + 1 + 1,1,none⟩ (F1 u3)):=by simp only [Kept,ka,kb,kc,kd,ke,kf,kg];simp [hK,go_sem,World.cell?_setCell_other,World.cell?_setCell_same',World.frozen?_setCell]
 clear hK
 generalize ((w4.setCell ⟨w.heap.size + 1 + 1,0,none⟩ (F1 l3)).setCell ⟨w.heap.size + 1 + 1,1,none⟩ (F1 u3)) = W4 at *
 have hK:=hkept;simp only [Kept,ka,kb,kc,kd,ke,kf,kg] at hK
 go_upto_region 5 with (go_at_call 242;refine (s_long_any _ _ _ _).mono ?_;rintro _ w5 ⟨r1,rfl,hr1,hb1⟩;have W5b:=below_step W4b hb1;have hkept:=keepT hkept hb1 rfl;clear hK;have hK:=hkept;simp only [Kept,ka,kb,kc,kd,ke,kf,kg] at hK)
 go_wp2_with (go_at_call 242;refine (s_long_any _ _ _ _).mono ?_;rintro _ w6 ⟨r2,rfl,hr2,hb1⟩;have hkept:=keepT hkept hb1 rfl;clear hK;have hK:=hkept;simp only [Kept,ka,kb,kc,kd,ke,kf,kg] at hK)
 exact bodyPost_ret (v:=RgV r1 r2) (by simp [results,Tryz.results199,go_sem,hK,World.cell?_setCell_other,World.cell?_setCell_same'];first | done | exact ⟨rfl,rfl⟩) rfl ⟨_,_,rfl,by rw [hr1,hr2];unfold longR;rw [← e1,← e2,← e3],bel2 (below_step W5b hb1) (by omega) ..⟩
end Go.Proofs.YtbiacfkiakddiaaGreat

namespace Go.Proofs.YtbiacfkiakddiaaGreat
open Go.RowKit Go.Fl
/-- Two cells are set,nothing comes back. -/
def RetSet (p q:Addr) (a b:Nat) (w:World) (e:Ending) (w':World):Prop:=e = .returned (.tuple #[]) ∧ ∃ W1,Below w.heap.size w W1 ∧ w' = (W1.setCell p (F1 a)).setCell q (F1 b)

set_option maxRecDepth 100000 in
set_option maxHeartbeats 1000000 in
theorem s_rpick0 {g p x0 x1:Nat} {w:World} (hN:Kept [(⟨g,p,none⟩,F1 x0),(⟨g,p + 1,none⟩,F1 x1)] [] w) :
  Calls Tryz.prog 190 #[.pointer (some ⟨g,p,none⟩),.int .i64 0] w (fun e w' => e = .returned (RgV x0 x1) ∧ Below w.heap.size w w'):=by
 go_enter Tryz.func190,Tryz.ntmps190
 go_upto_region 1 with fail
 generalize hW:w.alloc (.cells #[F1 0,F1 0] 118) = W1 at *
 have W1b:Below w.heap.size w W1:=by subst hW;exact (by repeat' (first | exact Below.refl _ _ | exact Nat.le_refl _ | refine below_drewN ?_ _ | refine Below.alloc ?_ (by simp <;> omega) _ | refine Below.setCell ?_ (by simp <;> omega) _ | refine below_step ?_ (by assumption)))
 have hkept:Kept [(⟨w.heap.size,0,none⟩,F1 0),(⟨w.heap.size,1,none⟩,F1 0)] [⟨w.heap.size,0,none⟩,⟨w.heap.size,1,none⟩] W1:=by
  subst hW;simp only [Kept,ka,kb,kc,kd,ke,kf,kg];(first | (go_simp;done) | (simp [World.cell?,World.frozen?,World.alloc,Array.getElem?_push];done))
 clear hW
 have hkept:=kept_app (keep hN W1b) hkept
 clear hN
 have hK:=hkept;simp only [Kept,ka,kb,kc,kd,ke,kf,kg] at hK
 go_wp2_with fail
 exact bodyPost_ret (v:=RgV x0 x1) (by simp [results,Tryz.results190,go_sem,hK,World.cell?_setCell_other,World.cell?_setCell_same'];first | done | exact ⟨rfl,rfl⟩) rfl ⟨rfl,bel2 W1b (by omega) ..⟩

set_option maxRecDepth 100000 in
set_option maxHeartbeats 1000000 in
theorem s_rpick1 {g p x0 x1:Nat} {w:World} (hN:Kept [(⟨g,p + 2,none⟩,F1 x0),(⟨g,p + 3,none⟩,F1 x1)] [] w) :
  Calls Tryz.prog 190 #[.pointer (some ⟨g,p,none⟩),.int .i64 1] w (fun e w' => e = .returned (RgV x0 x1) ∧ Below w.heap.size w w'):=by
 go_enter Tryz.func190,Tryz.ntmps190
 go_upto_region 1 with fail
 generalize hW:w.alloc (.cells #[F1 0,F1 0] 118) = W1 at *
 have W1b:Below w.heap.size w W1:=by subst hW;exact (by repeat' (first | exact Below.refl _ _ | exact Nat.le_refl _ | refine below_drewN ?_ _ | refine Below.alloc ?_ (by simp <;> omega) _ | refine Below.setCell ?_ (by simp <;> omega) _ | refine below_step ?_ (by assumption)))
 have hkept:Kept [(⟨w.heap.size,0,none⟩,F1 0),(⟨w.heap.size,1,none⟩,F1 0)] [⟨w.heap.size,0,none⟩,⟨w.heap.size,1,none⟩] W1:=by
  subst hW;simp only [Kept,ka,kb,kc,kd,ke,kf,kg];(first | (go_simp;done) | (simp [World.cell?,World.frozen?,World.alloc,Array.getElem?_push];done))
 clear hW
 have hkept:=kept_app (keep hN W1b) hkept
 clear hN
 have hK:=hkept;simp only [Kept,ka,kb,kc,kd,ke,kf,kg] at hK
 go_wp2_with fail
 exact bodyPost_ret (v:=RgV x0 x1) (by simp [results,Tryz.results190,go_sem,hK,World.cell?_setCell_other,World.cell?_setCell_same'];first | done | exact ⟨rfl,rfl⟩) rfl ⟨rfl,bel2 W1b (by omega) ..⟩

set_option maxRecDepth 100000 in
set_option maxHeartbeats 1000000 in
theorem s_rpick2 {g p x0 x1:Nat} {w:World} (hN:Kept [(⟨g,p + 4,none⟩,F1 x0),(⟨g,p + 5,none⟩,F1 x1)] [] w) :
  Calls Tryz.prog 190 #[.pointer (some ⟨g,p,none⟩),.int .i64 2] w (fun e w' => e = .returned (RgV x0 x1) ∧ Below w.heap.size w w'):=by
 go_enter Tryz.func190,Tryz.ntmps190
 go_upto_region 1 with fail
 generalize hW:w.alloc (.cells #[F1 0,F1 0] 118) = W1 at *
 have W1b:Below w.heap.size w W1:=by subst hW;exact (by repeat' (first | exact Below.refl _ _ | exact Nat.le_refl _ | refine below_drewN ?_ _ | refine Below.alloc ?_ (by simp <;> omega) _ | refine Below.setCell ?_ (by simp <;> omega) _ | refine below_step ?_ (by assumption)))
 have hkept:Kept [(⟨w.heap.size,0,none⟩,F1 0),(⟨w.heap.size,1,none⟩,F1 0)] [⟨w.heap.size,0,none⟩,⟨w.heap.size,1,none⟩] W1:=by
  subst hW;simp only [Kept,ka,kb,kc,kd,ke,kf,kg];(first | (go_simp;done) | (simp [World.cell?,World.frozen?,World.alloc,Array.getElem?_push];done))
 clear hW
 have hkept:=kept_app (keep hN W1b) hkept
 clear hN
 have hK:=hkept;simp only [Kept,ka,kb,kc,kd,ke,kf,kg] at hK
 go_wp2_with fail
 exact bodyPost_ret (v:=RgV x0 x1) (by simp [results,Tryz.results190,go_sem,hK,World.cell?_setCell_other,World.cell?_setCell_same'];first | done | exact ⟨rfl,rfl⟩) rfl ⟨rfl,bel2 W1b (by omega) ..⟩

set_option maxRecDepth 100000 in
set_option maxHeartbeats 1000000 in
theorem s_rset0 {g p a b x0 x1:Nat} {w:World} (hN:Kept [(⟨g,p,none⟩,F1 x0),(⟨g,p + 1,none⟩,F1 x1)] [⟨g,p,none⟩,⟨g,p + 1,none⟩] w) :
  Calls Tryz.prog 191 #[.pointer (some ⟨g,p,none⟩),.int .i64 0,RgV a b] w (RetSet ⟨g,p,none⟩ ⟨g,p + 1,none⟩ a b w):=by
 go_enter Tryz.func191,Tryz.ntmps191
 go_upto_region 1 with fail
 generalize hW:w.alloc (.cells #[F1 a,F1 b] 118) = W1 at *
 have W1b:Below w.heap.size w W1:=by subst hW;exact (by repeat' (first | exact Below.refl _ _ | exact Nat.le_refl _ | refine below_drewN ?_ _ | refine Below.alloc ?_ (by simp <;> omega) _ | refine Below.setCell ?_ (by simp <;> omega) _ | refine below_step ?_ (by assumption)))
 have hkept:Kept [(⟨w.heap.size,0,none⟩,F1 a),(⟨w.heap.size,1,none⟩,F1 b)] [] W1:=by
  subst hW;simp only [Kept,ka,kb,kc,kd,ke,kf,kg];(first | (go_simp;done) | (simp [World.cell?,World.frozen?,World.alloc,Array.getElem?_push];done))
 clear hW
 have hkept:=kept_app (keep hN W1b) hkept
 clear hN
 have hK:=hkept;simp only [Kept,ka,kb,kc,kd,ke,kf,kg] at hK
 go_wp2_with fail
 exact bodyPost_ret (v:=.tuple #[]) (by simp [results,Tryz.results191,go_sem];try rfl) rfl ⟨rfl,W1,W1b,rfl⟩

set_option maxRecDepth 100000 in
set_option maxHeartbeats 1000000 in
theorem s_rset1 {g p a b x0 x1:Nat} {w:World} (hN:Kept [(⟨g,p + 2,none⟩,F1 x0),(⟨g,p + 3,none⟩,F1 x1)] [⟨g,p + 2,none⟩,⟨g,p + 3,none⟩] w) :
  Calls Tryz.prog 191 #[.pointer (some ⟨g,p,none⟩),.int .i64 1,RgV a b] w (RetSet ⟨g,p + 2,none⟩ ⟨g,p + 3,none⟩ a b w):=by
 go_enter Tryz.func191,Tryz.ntmps191
 go_upto_region 1 with fail
 generalize hW:w.alloc (.cells #[F1 a,F1 b] 118) = W1 at *
 have W1b:Below w.heap.size w W1:=by subst hW;exact (by repeat' (first | exact Below.refl _ _ | exact Nat.le_refl _ | refine below_drewN ?_ _ | refine Below.alloc ?_ (by simp <;> omega) _ | refine Below.setCell ?_ (by simp <;> omega) _ | refine below_step ?_ (by assumption)))
 have hkept:Kept [(⟨w.heap.size,0,none⟩,F1 a),(⟨w.heap.size,1,none⟩,F1 b)] [] W1:=by
  subst hW;simp only [Kept,ka,kb,kc,kd,ke,kf,kg];(first | (go_simp;done) | (simp [World.cell?,World.frozen?,World.alloc,Array.getElem?_push];done))
 clear hW
 have hkept:=kept_app (keep hN W1b) hkept
 clear hN
 have hK:=hkept;simp only [Kept,ka,kb,kc,kd,ke,kf,kg] at hK
 go_wp2_with fail
 exact bodyPost_ret (v:=.tuple #[]) (by simp [results,Tryz.results191,go_sem];try rfl) rfl ⟨rfl,W1,W1b,rfl⟩

set_option maxRecDepth 100000 in
set_option maxHeartbeats 1000000 in
theorem s_rset2 {g p a b x0 x1:Nat} {w:World} (hN:Kept [(⟨g,p + 4,none⟩,F1 x0),(⟨g,p + 5,none⟩,F1 x1)] [⟨g,p + 4,none⟩,⟨g,p + 5,none⟩] w) :
  Calls Tryz.prog 191 #[.pointer (some ⟨g,p,none⟩),.int .i64 2,RgV a b] w (RetSet ⟨g,p + 4,none⟩ ⟨g,p + 5,none⟩ a b w):=by
 go_enter Tryz.func191,Tryz.ntmps191
 go_upto_region 1 with fail
 generalize hW:w.alloc (.cells #[F1 a,F1 b] 118) = W1 at *
 have W1b:Below w.heap.size w W1:=by subst hW;exact (by repeat' (first | exact Below.refl _ _ | exact Nat.le_refl _ | refine below_drewN ?_ _ | refine Below.alloc ?_ (by simp <;> omega) _ | refine Below.setCell ?_ (by simp <;> omega) _ | refine below_step ?_ (by assumption)))
 have hkept:Kept [(⟨w.heap.size,0,none⟩,F1 a),(⟨w.heap.size,1,none⟩,F1 b)] [] W1:=by
  subst hW;simp only [Kept,ka,kb,kc,kd,ke,kf,kg];(first | (go_simp;done) | (simp [World.cell?,World.frozen?,World.alloc,Array.getElem?_push];done))
 clear hW
 have hkept:=kept_app (keep hN W1b) hkept
 clear hN
 have hK:=hkept;simp only [Kept,ka,kb,kc,kd,ke,kf,kg] at hK
 go_wp2_with fail
 exact bodyPost_ret (v:=.tuple #[]) (by simp [results,Tryz.results191,go_sem];try rfl) rfl ⟨rfl,W1,W1b,rfl⟩

end Go.Proofs.YtbiacfkiakddiaaGreat
