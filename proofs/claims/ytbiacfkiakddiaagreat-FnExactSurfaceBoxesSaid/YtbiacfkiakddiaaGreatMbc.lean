/-
 Lemmas: V3,V4,V5.
-/
import Derived.Test.YtbiacfkiakddiaaGreatMba
set_option linter.unusedVariables false
set_option linter.unusedSimpArgs false
namespace Go.Proofs.YtbiacfkiakddiaaGreat
open Go.RowKit Go.Fl
theorem nanP_is {x:Nat} (h:nanP x = true):(FloatKind.f32.decode x).isNaN = true:=by
 cases hn:(FloatKind.f32.decode x).isNaN
 ·rw [nanP,eqk,order_self hn] at h;cases h
 ·rfl
theorem nanP_of {x:Nat} {b:Bool} (h:(FloatKind.f32.format.order x x == some .eq) = b):nanP (cn .f32 x) = !b:=by
 rw [nanP,eqk_cn,eqk,h]
theorem add_nan_l {x y:Nat} (h:nanP x = true):B .add x y = nanw .f32:=by
 have e:(FloatKind.f32.format.read x).isNaN = true:=nanP_is h
 show ((Ieee.Datum.sum (FloatKind.f32.format.read x) (FloatKind.f32.format.read y)).map FloatKind.f32.format.write).getD _ = _
 rw [sum_nan_l e];rfl
theorem add_nan_r {x y:Nat} (h:nanP y = true):B .add x y = nanw .f32:=by
 have e:(FloatKind.f32.format.read y).isNaN = true:=nanP_is h
 show ((Ieee.Datum.sum (FloatKind.f32.format.read x) (FloatKind.f32.format.read y)).map FloatKind.f32.format.write).getD _ = _
 rw [sum_nan_r e];rfl
theorem sub_nan_l {x y:Nat} (h:nanP x = true):B .sub x y = nanw .f32:=by
 have e:(FloatKind.f32.format.read x).isNaN = true:=nanP_is h
 show ((Ieee.Datum.sum (FloatKind.f32.format.read x) (FloatKind.f32.format.read y).opposite).map FloatKind.f32.format.write).getD _ = _
 rw [sum_nan_l e];rfl
theorem sub_nan_r {x y:Nat} (h:nanP y = true):B .sub x y = nanw .f32:=by
 have e:(FloatKind.f32.format.read y).isNaN = true:=nanP_is h
 show ((Ieee.Datum.sum (FloatKind.f32.format.read x) (FloatKind.f32.format.read y).opposite).map FloatKind.f32.format.write).getD _ = _
 rw [sum_nan_r (by rw [opp_nan];exact e)];rfl
theorem nanP_nanw:nanP (nanw .f32) = true:=by decide +kernel

inductive PhiNone:FuncId → Array Value → Value → Prop

theorem times_nan {v a b:Nat} {p q:Nat} (ha:cn .f32 a = B .mul p v) (hb:cn .f32 b = B .mul q v) (h:nanP (cn .f32 a) = true ∨ nanP (cn .f32 b) = true):timesR (p,q) v = (nanw .f32,nanw .f32):=by
 unfold timesR
 simp only
 rw [← ha,← hb,if_pos (by rcases h with h | h <;> rw [h] <;> simp)]
theorem times_not {v a b:Nat} {p q:Nat} (ha:cn .f32 a = B .mul p v) (hb:cn .f32 b = B .mul q v) (h1:nanP (cn .f32 a) = false) (h2:nanP (cn .f32 b) = false):timesR (p,q) v = (lesserF (cn .f32 a) (cn .f32 b),greaterF (cn .f32 a) (cn .f32 b)):=by
 unfold timesR
 simp only
 rw [← ha,← hb,h1,h2];rfl
/-- a - a + b - b,where a or b is none. -/
theorem four_nan {a b r s t:Nat} (h1:cn .f32 r = B .sub (cn .f32 a) (cn .f32 a)) (h2:cn .f32 s = B .add (cn .f32 r) (cn .f32 b)) (h3:cn .f32 t = B .sub (cn .f32 s) (cn .f32 b)) (h:nanP (cn .f32 a) = true ∨ nanP (cn .f32 b) = true):cn .f32 t = nanw .f32:=by
 rcases h with h | h
 ·rw [sub_nan_l h] at h1;rw [h1,add_nan_l nanP_nanw] at h2;rw [h3,h2,sub_nan_l nanP_nanw]
 ·rw [h3,sub_nan_r h]

set_option maxRecDepth 100000 in
set_option maxHeartbeats 1000000 in
theorem times_any (a b v:Nat) (w:World) :
  Calls Tryz.prog 212 #[RgV a b,F1 v] w (RetR (timesR (cn .f32 a,cn .f32 b) (cn .f32 v)) w):=by
 go_enter Tryz.func212,Tryz.ntmps212
 go_upto_region 1 with fail
 generalize hW:(w.alloc (.cells #[F1 a,F1 b] 118)).alloc (.cells #[F1 0,F1 0] 118) = W1 at *
 have W1b:Below w.heap.size w W1:=by subst hW;exact (by repeat' (first | exact Below.refl _ _ | exact Nat.le_refl _ | refine below_drewN ?_ _ | refine Below.alloc ?_ (by simp <;> omega) _ | refine Below.setCell ?_ (by simp <;> omega) _ | refine below_step ?_ (by assumption)))
 have hkept:Kept [(⟨w.heap.size,0,none⟩,F1 a),(⟨w.heap.size,1,none⟩,F1 b),(⟨w.heap.size + 1,0,none⟩,F1 0),(⟨w.heap.size + 1,1,none⟩,F1 0)] [⟨w.heap.size + 1,0,none⟩,⟨w.heap.size + 1,1,none⟩] W1:=by
  subst hW;simp only [Kept,ka,kb,kc,kd,ke,kf,kg];(first | (go_simp;done) | (simp [World.cell?,World.frozen?,World.alloc,Array.getElem?_push];done))
 clear hW
 have hK:=hkept;simp only [Kept,ka,kb,kc,kd,ke,kf,kg] at hK
 refine Qr.wp_below_all (by kernel_rfl) (by kernel_rfl) PhiNone ?_
 repeat (first | (refine Qr.walk_plain rfl fun K hK => ?_;refine one_bin _ _ _ _ _ rfl _ _ _ rfl rfl rfl (fun r hr => ?_);go_simp;refine hK _ ?_;clear hK K) | (refine Qr.walk_plain rfl fun K hK => ?_;apply Qr.one_det;(focus (intro w' hw';have HK:=keep hkept hw';simp only [Kept,ka,kb,kc,kd,ke,kf,kg] at HK;go_simp;first | done | rfl));go_simp;refine hK _ ?_;clear hK K))
 rename_i ra hra
 revert r
 intro rb hrb
 refine Qr.walk_nil fun w6 hw6 => ?_
 have hkept:=keep hkept hw6
 have W6b:=below_step W1b hw6
 clear hK
 have hK:=hkept
 simp only [Kept,ka,kb,kc,kd,ke,kf,kg] at hK
 clear W1b hw6
 cases h1:(FloatKind.f32.format.order ra ra == some .eq)
 ·have hn:nanP (cn .f32 ra) = true ∨ nanP (cn .f32 rb) = true:=.inl (nanP_of h1)
  go_wp2_with (first | (refine wp_bin rfl _ _ _ _ _ rfl _ _ _ rfl rfl rfl ?_;intro r n hr) | (go_at_call 137;refine (isnan_any _ _).mono ?_;rintro _ w4 ⟨rfl,hb1⟩;have W7b:=below_step W6b hb1;have hkept:=keepT hkept hb1 rfl;clear hK;have hK:=hkept;simp only [Kept,ka,kb,kc,kd,ke,kf,kg] at hK;simp only [h1,Bool.not_true,Bool.not_false]))
  rename_i c1 n1 hc1 c2 n2 hc2
  have e:=four_nan hc1 hc2 hr hn
  exact bodyPost_ret (v:=RgV r r) (by simp [results,Tryz.results212,go_sem,hK,World.cell?_setCell_other,World.cell?_setCell_same'];first | done | exact ⟨rfl,rfl⟩) rfl ⟨_,_,rfl,by rw [times_nan hra hrb hn,e],bel2 (below_drewN W7b _) (by omega) ..⟩
 ·cases h2:(FloatKind.f32.format.order rb rb == some .eq)
  ·have hn:nanP (cn .f32 ra) = true ∨ nanP (cn .f32 rb) = true:=.inr (nanP_of h2)
   go_upto_region 3 with (first | (go_at_call 137;refine (isnan_any _ _).mono ?_;rintro _ w4 ⟨rfl,hb1⟩;have W6b:=below_step W6b hb1;have hkept:=keepT hkept hb1 rfl;clear hK;have hK:=hkept;simp only [Kept,ka,kb,kc,kd,ke,kf,kg] at hK;simp only [h1,h2,Bool.not_true,Bool.not_false]))
   go_wp2_with (refine wp_bin rfl _ _ _ _ _ rfl _ _ _ rfl rfl rfl ?_;intro r n hr)
   rename_i c1 n1 hc1 c2 n2 hc2
   have e:=four_nan hc1 hc2 hr hn
   exact bodyPost_ret (v:=RgV r r) (by simp [results,Tryz.results212,go_sem,hK,World.cell?_setCell_other,World.cell?_setCell_same'];first | done | exact ⟨rfl,rfl⟩) rfl ⟨_,_,rfl,by rw [times_nan hra hrb hn,e],bel2 (below_drewN W6b _) (by omega) ..⟩
  ·go_upto_region 5 with (first | (go_at_call 137;refine (isnan_any _ _).mono ?_;rintro _ w4 ⟨rfl,hb1⟩;have W6b:=below_step W6b hb1;have hkept:=keepT hkept hb1 rfl;clear hK;have hK:=hkept;simp only [Kept,ka,kb,kc,kd,ke,kf,kg] at hK;simp only [h1,h2,Bool.not_true,Bool.not_false]))
   go_wp2_with (first | (go_at_call 221;refine (lesser_any _ _ _).mono ?_;rintro _ w5 ⟨c1,rfl,hc1,hb1⟩;have W6b:=below_step W6b hb1;have hkept:=keepT hkept hb1 rfl;clear hK;have hK:=hkept;simp only [Kept,ka,kb,kc,kd,ke,kf,kg] at hK) | (go_at_call 222;refine (greater_any _ _ _).mono ?_;rintro _ w7 ⟨c2,rfl,hc2,hb1⟩;have W6b:=below_step W6b hb1;have hkept:=keepT hkept hb1 rfl;clear hK;have hK:=hkept;simp only [Kept,ka,kb,kc,kd,ke,kf,kg] at hK))
   exact bodyPost_ret (v:=RgV c1 c2) (by simp [results,Tryz.results212,go_sem,hK,World.cell?_setCell_other,World.cell?_setCell_same'];first | done | exact ⟨rfl,rfl⟩) rfl ⟨_,_,rfl,by rw [times_not hra hrb (nanP_of h1) (nanP_of h2)];exact pr hc1 hc2,bel2 W6b (by omega) ..⟩

theorem two_nan {x y:Nat} (h:nanP x = true ∨ nanP y = true):B .add x y = nanw .f32:=by
 rcases h with h | h
 ·exact add_nan_l h
 ·exact add_nan_r h
theorem nanP_ne {x:Nat} {b:Bool} (h:(FloatKind.f32.format.order x x != some .eq) = b):nanP (cn .f32 x) = b:=by
 rw [nanP_of rfl,← h];rfl

set_option maxRecDepth 100000 in
set_option maxHeartbeats 1000000 in
theorem s_times_any (a b v:Nat) (w:World) :
  Calls Tryz.prog 193 #[RgV a b,F1 v] w (RetR (timesR (cn .f32 a,cn .f32 b) (cn .f32 v)) w):=by
 go_enter Tryz.func193,Tryz.ntmps193
 go_upto_region 1 with fail
 generalize hW:(w.alloc (.cells #[F1 a,F1 b] 118)).alloc (.cells #[F1 0,F1 0] 118) = W1 at *
 have W1b:Below w.heap.size w W1:=by subst hW;exact (by repeat' (first | exact Below.refl _ _ | exact Nat.le_refl _ | refine below_drewN ?_ _ | refine Below.alloc ?_ (by simp <;> omega) _ | refine Below.setCell ?_ (by simp <;> omega) _ | refine below_step ?_ (by assumption)))
 have hkept:Kept [(⟨w.heap.size,0,none⟩,F1 a),(⟨w.heap.size,1,none⟩,F1 b),(⟨w.heap.size + 1,0,none⟩,F1 0),(⟨w.heap.size + 1,1,none⟩,F1 0)] [⟨w.heap.size + 1,0,none⟩,⟨w.heap.size + 1,1,none⟩] W1:=by
  subst hW;simp only [Kept,ka,kb,kc,kd,ke,kf,kg];(first | (go_simp;done) | (simp [World.cell?,World.frozen?,World.alloc,Array.getElem?_push];done))
 clear hW
 have hK:=hkept;simp only [Kept,ka,kb,kc,kd,ke,kf,kg] at hK
 go_upto_region 2 with (refine wp_bin rfl _ _ _ _ _ rfl _ _ _ rfl rfl rfl ?_;intro r n hr)
 revert n;intro n1;revert r;intro ra hra
 go_upto_region 3 with (refine wp_bin rfl _ _ _ _ _ rfl _ _ _ rfl rfl rfl ?_;intro r n hr)
 revert n;intro n2;revert r;intro rb hrb
 have W6b:=below_drewN W1b (n1 + n2)
 cases h1:(FloatKind.f32.format.order ra ra != some .eq)
 ·cases h2:(FloatKind.f32.format.order rb rb != some .eq)
  ·go_wp2_with (first | (go_at_call 197;refine (s_lesser_any _ _ _).mono ?_;rintro _ w5 ⟨c1,rfl,hc1,hb1⟩;have W6b:=below_step W6b hb1;have hkept:=keepT hkept hb1 rfl;clear hK;have hK:=hkept;simp only [Kept,ka,kb,kc,kd,ke,kf,kg] at hK) | (go_at_call 198;refine (s_greater_any _ _ _).mono ?_;rintro _ w7 ⟨c2,rfl,hc2,hb1⟩;have W6b:=below_step W6b hb1;have hkept:=keepT hkept hb1 rfl;clear hK;have hK:=hkept;simp only [Kept,ka,kb,kc,kd,ke,kf,kg] at hK))
   exact bodyPost_ret (v:=RgV c1 c2) (by simp [results,Tryz.results193,go_sem,hK,World.cell?_setCell_other,World.cell?_setCell_same'];first | done | exact ⟨rfl,rfl⟩) rfl ⟨_,_,rfl,by rw [times_not hra hrb (nanP_ne h1) (nanP_ne h2)];exact pr hc1 hc2,bel2 W6b (by omega) ..⟩
  ·go_wp2_with (refine wp_bin rfl _ _ _ _ _ rfl _ _ _ rfl rfl rfl ?_;intro r n hr)
   rename_i c1 m1 hc1
   have hn:nanP (cn .f32 ra) = true ∨ nanP (cn .f32 rb) = true:=.inr (nanP_ne h2)
   exact bodyPost_ret (v:=RgV c1 r) (by simp [results,Tryz.results193,go_sem,hK,World.cell?_setCell_other,World.cell?_setCell_same'];first | done | exact ⟨rfl,rfl⟩) rfl ⟨_,_,rfl,by rw [times_nan hra hrb hn];exact pr (hc1.trans (two_nan hn)) (hr.trans (two_nan hn)),bel2 (below_drewN W1b _) (by omega) ..⟩
 ·go_wp2_with (refine wp_bin rfl _ _ _ _ _ rfl _ _ _ rfl rfl rfl ?_;intro r n hr)
  rename_i c1 m1 hc1
  have hn:nanP (cn .f32 ra) = true ∨ nanP (cn .f32 rb) = true:=.inl (nanP_ne h1)
  exact bodyPost_ret (v:=RgV c1 r) (by simp [results,Tryz.results193,go_sem,hK,World.cell?_setCell_other,World.cell?_setCell_same'];first | done | exact ⟨rfl,rfl⟩) rfl ⟨_,_,rfl,by rw [times_nan hra hrb hn];exact pr (hc1.trans (two_nan hn)) (hr.trans (two_nan hn)),bel2 (below_drewN W1b _) (by omega) ..⟩
end Go.Proofs.YtbiacfkiakddiaaGreat

namespace Go.Proofs.YtbiacfkiakddiaaGreat
open Go.RowKit Go.Fl
def infw:Nat:=2139095040
def minw:Nat:=4286578688

set_option maxHeartbeats 400000 in
theorem minf_pos (w:World):Calls Tryz.prog 126 #[.int .i64 1] w (Ret .f64 9218868437227405312 w):=by
 go_enter Tryz.func126,Tryz.ntmps126
 go_wp2_with (first
  | (refine wp_entry rfl 202 _ _ rfl rfl _ ext_frombits _ (run_frombits _ _) ?_;rintro _ n rfl))
 go_ret
 exact ⟨_,rfl,by decide +kernel,(by repeat' (first | exact Below.refl _ _ | exact Nat.le_refl _ | refine below_drewN ?_ _ | refine Below.alloc ?_ (by simp <;> omega) _ | refine Below.setCell ?_ (by simp <;> omega) _ | refine below_step ?_ (by assumption)))⟩
set_option maxHeartbeats 400000 in
theorem minf_neg (w:World):Calls Tryz.prog 126 #[.int .i64 (-1)] w (Ret .f64 18442240474082181120 w):=by
 go_enter Tryz.func126,Tryz.ntmps126
 go_wp2_with (first
  | (refine wp_entry rfl 202 _ _ rfl rfl _ ext_frombits _ (run_frombits _ _) ?_;rintro _ n rfl))
 go_ret
 exact ⟨_,rfl,by decide +kernel,(by repeat' (first | exact Below.refl _ _ | exact Nat.le_refl _ | refine below_drewN ?_ _ | refine Below.alloc ?_ (by simp <;> omega) _ | refine Below.setCell ?_ (by simp <;> omega) _ | refine below_step ?_ (by assumption)))⟩

theorem fits_pinf:fits 9218868437227405312:=by
 intro s m e h
 have:FloatKind.f64.decode 9218868437227405312 = .infinity false:=by rfl
 rw [this] at h;cases h

set_option maxHeartbeats 400000 in
theorem inf_any (w:World):Calls Tryz.prog 225 #[] w (Ret .f32 infw w):=by
 go_enter Tryz.func225,Tryz.ntmps225
 go_wp2_with (first | (go_at_call 126;refine (minf_pos _).mono ?_;rintro _ w2 ⟨r1,rfl,hr1,hb1⟩) | (refine wp_nar rfl _ _ _ rfl _ rfl ?_ ?_ ?_ ?_;exact some_f64;exact Tryz.underlying25;(simp only [*];exact fits_pinf);intro r2 n hr2))
 go_ret
 exact ⟨_,rfl,by rw [hr2,hr1];decide +kernel,(by repeat' (first | exact Below.refl _ _ | exact Nat.le_refl _ | refine below_drewN ?_ _ | refine Below.alloc ?_ (by simp <;> omega) _ | refine Below.setCell ?_ (by simp <;> omega) _ | refine below_step ?_ (by assumption)))⟩

set_option maxRecDepth 100000 in
set_option maxHeartbeats 1000000 in
theorem apart_any (a b c d:Nat) (w:World) :
  Calls Tryz.prog 156 #[RgV a b,RgV c d] w (RetR (sizeR (lessR (cn .f32 a,cn .f32 b) (cn .f32 c,cn .f32 d))) w):=by
 go_enter Tryz.func156,Tryz.ntmps156
 go_upto_region 1 with fail
 generalize hW:((w.alloc (.cells #[F1 a,F1 b] 118)).alloc (.cells #[F1 c,F1 d] 118)).alloc (.cells #[F1 0,F1 0] 118) = W1 at *
 have W1b:Below w.heap.size w W1:=by subst hW;exact (by repeat' (first | exact Below.refl _ _ | exact Nat.le_refl _ | refine below_drewN ?_ _ | refine Below.alloc ?_ (by simp <;> omega) _ | refine Below.setCell ?_ (by simp <;> omega) _ | refine below_step ?_ (by assumption)))
 have hkept:Kept [(⟨w.heap.size,0,none⟩,F1 a),(⟨w.heap.size,1,none⟩,F1 b),(⟨w.heap.size + 1,0,none⟩,F1 c),(⟨w.heap.size + 1,1,none⟩,F1 d),(⟨w.heap.size + 1 + 1,0,none⟩,F1 0),(⟨w.heap.size + 1 + 1,1,none⟩,F1 0)] [⟨w.heap.size + 1 + 1,0,none⟩,⟨w.heap.size + 1 + 1,1,none⟩] W1:=by
  subst hW;simp only [Kept,ka,kb,kc,kd,ke,kf,kg];(first | (go_simp;done) | (simp [World.cell?,World.frozen?,World.alloc,Array.getElem?_push];done))
 clear hW
 have hK:=hkept;simp only [Kept,ka,kb,kc,kd,ke,kf,kg] at hK
 go_wp2_with (first | (go_at_call 214;refine (rless_any _ _ _ _ _).mono ?_;rintro _ w5 ⟨l1,u1,rfl,e1,hb1⟩;have W6b:=below_step W1b hb1;have hkept:=keepT hkept hb1 rfl;clear hK;have hK:=hkept;simp only [Kept,ka,kb,kc,kd,ke,kf,kg] at hK) | (go_at_call 215;refine (sizer_any _ _ _).mono ?_;rintro _ w7 ⟨l2,u2,rfl,e2,hb1⟩;have W7b:=below_step W6b hb1;have hkept:=keepT hkept hb1 rfl;clear hK;have hK:=hkept;simp only [Kept,ka,kb,kc,kd,ke,kf,kg] at hK))
 exact bodyPost_ret (v:=RgV l2 u2) (by simp [results,Tryz.results156,go_sem,hK,World.cell?_setCell_other,World.cell?_setCell_same'];first | done | exact ⟨rfl,rfl⟩) rfl ⟨_,_,rfl,by rw [e2,e1],bel2 W7b (by omega) ..⟩

set_option maxRecDepth 100000 in
set_option maxHeartbeats 1000000 in
theorem s_near_any (a b c d:Nat) (w:World) :
  Calls Tryz.prog 200 #[RgV a b,RgV c d] w (RetR (sizeR (lessR (cn .f32 a,cn .f32 b) (cn .f32 c,cn .f32 d))) w):=by
 go_enter Tryz.func200,Tryz.ntmps200
 go_upto_region 1 with fail
 generalize hW:((w.alloc (.cells #[F1 a,F1 b] 118)).alloc (.cells #[F1 c,F1 d] 118)).alloc (.cells #[F1 0,F1 0] 118) = W1 at *
 have W1b:Below w.heap.size w W1:=by subst hW;exact (by repeat' (first | exact Below.refl _ _ | exact Nat.le_refl _ | refine below_drewN ?_ _ | refine Below.alloc ?_ (by simp <;> omega) _ | refine Below.setCell ?_ (by simp <;> omega) _ | refine below_step ?_ (by assumption)))
 have hkept:Kept [(⟨w.heap.size,0,none⟩,F1 a),(⟨w.heap.size,1,none⟩,F1 b),(⟨w.heap.size + 1,0,none⟩,F1 c),(⟨w.heap.size + 1,1,none⟩,F1 d),(⟨w.heap.size + 1 + 1,0,none⟩,F1 0),(⟨w.heap.size + 1 + 1,1,none⟩,F1 0)] [⟨w.heap.size + 1 + 1,0,none⟩,⟨w.heap.size + 1 + 1,1,none⟩] W1:=by
  subst hW;simp only [Kept,ka,kb,kc,kd,ke,kf,kg];(first | (go_simp;done) | (simp [World.cell?,World.frozen?,World.alloc,Array.getElem?_push];done))
 clear hW
 have hK:=hkept;simp only [Kept,ka,kb,kc,kd,ke,kf,kg] at hK
 go_wp2_with (first | (go_at_call 187;refine (s_rless_any _ _ _ _ _).mono ?_;rintro _ w5 ⟨l1,u1,rfl,e1,hb1⟩;have W6b:=below_step W1b hb1;have hkept:=keepT hkept hb1 rfl;clear hK;have hK:=hkept;simp only [Kept,ka,kb,kc,kd,ke,kf,kg] at hK) | (go_at_call 194;refine (s_sizer_any _ _ _).mono ?_;rintro _ w7 ⟨l2,u2,rfl,e2,hb1⟩;have W7b:=below_step W6b hb1;have hkept:=keepT hkept hb1 rfl;clear hK;have hK:=hkept;simp only [Kept,ka,kb,kc,kd,ke,kf,kg] at hK))
 exact bodyPost_ret (v:=RgV l2 u2) (by simp [results,Tryz.results200,go_sem,hK,World.cell?_setCell_other,World.cell?_setCell_same'];first | done | exact ⟨rfl,rfl⟩) rfl ⟨_,_,rfl,by rw [e2,e1],bel2 W7b (by omega) ..⟩

set_option maxRecDepth 100000 in
set_option maxHeartbeats 1000000 in
theorem s_one_any (a:Nat) (w:World) :
  Calls Tryz.prog 188 #[F1 a] w (RetR (cn .f32 a,cn .f32 a) w):=by
 go_enter Tryz.func188,Tryz.ntmps188
 go_upto_region 1 with fail
 generalize hW:w.alloc (.cells #[F1 0,F1 0] 118) = W1 at *
 have W1b:Below w.heap.size w W1:=by subst hW;exact (by repeat' (first | exact Below.refl _ _ | exact Nat.le_refl _ | refine below_drewN ?_ _ | refine Below.alloc ?_ (by simp <;> omega) _ | refine Below.setCell ?_ (by simp <;> omega) _ | refine below_step ?_ (by assumption)))
 have hkept:Kept [(⟨w.heap.size,0,none⟩,F1 0),(⟨w.heap.size,1,none⟩,F1 0)] [⟨w.heap.size,0,none⟩,⟨w.heap.size,1,none⟩] W1:=by
  subst hW;simp only [Kept,ka,kb,kc,kd,ke,kf,kg];(first | (go_simp;done) | (simp [World.cell?,World.frozen?,World.alloc,Array.getElem?_push];done))
 clear hW
 have hK:=hkept;simp only [Kept,ka,kb,kc,kd,ke,kf,kg] at hK
 go_wp2_with fail
 exact bodyPost_ret (v:=RgV a a) (by simp [results,Tryz.results188,go_sem,hK,World.cell?_setCell_other,World.cell?_setCell_same'];first | done | exact ⟨rfl,rfl⟩) rfl ⟨_,_,rfl,rfl,bel2 W1b (by omega) ..⟩

theorem neg_inf {r:Nat} (h:cn .f32 r = infw):cn .f32 (Op.negFloat .f32 r) = minw:=by rw [← negc_cn,h];decide +kernel

set_option maxRecDepth 100000 in
set_option maxHeartbeats 1000000 in
theorem anywhere_any (w:World):Calls Tryz.prog 138 #[] w (RetR (minw,infw) w):=by
 go_enter Tryz.func138,Tryz.ntmps138
 go_upto_region 1 with fail
 generalize hW:w.alloc (.cells #[F1 0,F1 0] 118) = W1 at *
 have W1b:Below w.heap.size w W1:=by subst hW;exact (by repeat' (first | exact Below.refl _ _ | exact Nat.le_refl _ | refine below_drewN ?_ _ | refine Below.alloc ?_ (by simp <;> omega) _ | refine Below.setCell ?_ (by simp <;> omega) _ | refine below_step ?_ (by assumption)))
 have hkept:Kept [(⟨w.heap.size,0,none⟩,F1 0),(⟨w.heap.size,1,none⟩,F1 0)] [⟨w.heap.size,0,none⟩,⟨w.heap.size,1,none⟩] W1:=by
  subst hW;simp only [Kept,ka,kb,kc,kd,ke,kf,kg];(first | (go_simp;done) | (simp [World.cell?,World.frozen?,World.alloc,Array.getElem?_push];done))
 clear hW
 have hK:=hkept;simp only [Kept,ka,kb,kc,kd,ke,kf,kg] at hK
 go_wp2_with (go_at_call 225;refine (inf_any _).mono ?_;rintro _ w5 ⟨r1,rfl,hr1,hb1⟩;have W1b:=below_step W1b hb1;have hkept:=keepT hkept hb1 rfl;clear hK;have hK:=hkept;simp only [Kept,ka,kb,kc,kd,ke,kf,kg] at hK)
 exact bodyPost_ret (v:=RgV _ _) (by simp [results,Tryz.results138,go_sem,hK,World.cell?_setCell_other,World.cell?_setCell_same'];first | done | exact ⟨rfl,rfl⟩) rfl ⟨_,_,rfl,pr (neg_inf (by with_reducible assumption)) (by with_reducible assumption),bel2 W1b (by omega) ..⟩
end Go.Proofs.YtbiacfkiakddiaaGreat

namespace Go.Proofs.YtbiacfkiakddiaaGreat
open Go.RowKit Go.Fl
def foldFar (lo hi a b:Nat):Bool:=gek .f32 lo 3397386240 && lek .f32 lo 1249902592 && gek .f32 hi 3397386240 && lek .f32 hi 1249902592 && (finB a && finB b)
def foldPick (lo hi a b:Nat) (x:Nat × Nat) (s:Nat):Nat × Nat:=if eqk .f32 lo hi then sizeR x else if foldFar lo hi a b then (0,B .mul 1082130432 s) else (0,infw)
def foldRF (r:Nat × Nat) (s:Nat):Nat × Nat:=foldPick (nearF (B .quo r.1 (B .mul 1073741824 s))) (nearF (B .quo r.2 (B .mul 1073741824 s))) (foldF r.1 s) (foldF r.2 s) (B .sub r.1 (foldF r.1 s),B .sub r.2 (foldF r.2 s)) s
def foldRS (r:Nat × Nat) (s:Nat):Nat × Nat:=foldPick (nearF (B .quo r.1 (B .mul 1073741824 s))) (nearF (B .quo r.2 (B .mul 1073741824 s))) (foldF r.1 s) (foldF r.2 s) (B .sub r.1 (foldF r.1 s),B .sub r.2 (foldF r.1 s)) s

theorem near_lo {a v m q r:Nat} (h1:cn .f32 m = bin .mul .f32 (cn .f32 1073741824) (cn .f32 v)) (h2:cn .f32 q = bin .quo .f32 (cn .f32 a) (cn .f32 m)) (h3:cn .f32 r = nearF (cn .f32 q)):cn .f32 r = nearF (B .quo (cn .f32 a) (B .mul 1073741824 (cn .f32 v))):=by
 rw [h3,h2,h1]
 rfl
theorem lek_c {k:FloatKind} {x c:Nat} (hc:cn k c = c):lek k (cn k x) c = (k.format.order x c == some .lt || k.format.order x c == some .eq):=by unfold lek;rw [ord_c k x hc]
theorem pick_eq (lo hi fa fb:Nat) (x:Nat × Nat) (s:Nat):foldPick (cn .f32 lo) (cn .f32 hi) (cn .f32 fa) (cn .f32 fb) x s = if (FloatKind.f32.format.order lo hi == some .eq) then sizeR x else if ((FloatKind.f32.format.order lo 3397386240 == some .gt || FloatKind.f32.format.order lo 3397386240 == some .eq) && (FloatKind.f32.format.order lo 1249902592 == some .lt || FloatKind.f32.format.order lo 1249902592 == some .eq) && (FloatKind.f32.format.order hi 3397386240 == some .gt || FloatKind.f32.format.order hi 3397386240 == some .eq) && (FloatKind.f32.format.order hi 1249902592 == some .lt || FloatKind.f32.format.order hi 1249902592 == some .eq) && (finB (cn .f32 fa) && finB (cn .f32 fb))) then (0,B .mul 1082130432 s) else (0,infw):=by
 unfold foldPick foldFar
 rw [Fl.gek_c (by decide +kernel),lek_c (by decide +kernel),Fl.gek_c (by decide +kernel),lek_c (by decide +kernel),eqk_cn,eqk]
theorem way6 (u p q r s t:Bool):u = true ∨ (u = false ∧ p = false) ∨ (u = false ∧ p = true ∧ q = false) ∨ (u = false ∧ p = true ∧ q = true ∧ r = false) ∨ (u = false ∧ p = true ∧ q = true ∧ r = true ∧ s = false) ∨ (u = false ∧ p = true ∧ q = true ∧ r = true ∧ s = true ∧ t = false) ∨ (u = false ∧ p = true ∧ q = true ∧ r = true ∧ s = true ∧ t = true):=by
 cases u <;> cases p <;> cases q <;> cases r <;> cases s <;> cases t <;> simp

inductive PhiFo:FuncId → Array Value → Value → Prop
 | near (a r:Nat) (h:cn .f32 r = nearF (cn .f32 a)):PhiFo 261 #[F1 a] (F1 r)
 | fold (a b r:Nat) (h:cn .f32 r = foldF (cn .f32 a) (cn .f32 b)):PhiFo 262 #[F1 a,F1 b] (F1 r)


set_option maxRecDepth 100000 in
set_option maxHeartbeats 1000000 in
theorem foldr_any (a b v:Nat) (w:World) :
  Calls Tryz.prog 216 #[RgV a b,F1 v] w (RetR (foldRF (cn .f32 a,cn .f32 b) (cn .f32 v)) w):=by
 go_enter Tryz.func216,Tryz.ntmps216
 go_upto_region 1 with fail
 generalize hW:(w.alloc (.cells #[F1 a,F1 b] 118)).alloc (.cells #[F1 0,F1 0] 118) = W1 at *
 have W1b:Below w.heap.size w W1:=by subst hW;exact (by repeat' (first | exact Below.refl _ _ | exact Nat.le_refl _ | refine below_drewN ?_ _ | refine Below.alloc ?_ (by simp <;> omega) _ | refine Below.setCell ?_ (by simp <;> omega) _ | refine below_step ?_ (by assumption)))
 have hkept:Kept [(⟨w.heap.size,0,none⟩,F1 a),(⟨w.heap.size,1,none⟩,F1 b),(⟨w.heap.size + 1,0,none⟩,F1 0),(⟨w.heap.size + 1,1,none⟩,F1 0)] [⟨w.heap.size + 1,0,none⟩,⟨w.heap.size + 1,1,none⟩] W1:=by
  subst hW;simp only [Kept,ka,kb,kc,kd,ke,kf,kg];(first | (go_simp;done) | (simp [World.cell?,World.frozen?,World.alloc,Array.getElem?_push];done))
 clear hW
 have hK:=hkept;simp only [Kept,ka,kb,kc,kd,ke,kf,kg] at hK
 refine Qr.wp_below_all (by kernel_rfl) (by kernel_rfl) PhiFo ?_
 repeat (first | (refine Qr.walk_plain rfl fun K hK => ?_;refine one_bin _ _ _ _ _ rfl _ _ _ rfl rfl rfl (fun r hr => ?_);go_simp;refine hK _ ?_;clear hK K) | (refine Qr.walk_plain rfl fun K hK => ?_;apply Qr.one_det;(focus (intro w' hw';have HK:=keep hkept hw';simp only [Kept,ka,kb,kc,kd,ke,kf,kg] at HK;go_simp;first | done | rfl));go_simp;refine hK _ ?_;clear hK K) | (refine Qr.walk_plain rfl fun K hK => ?_;apply Qr.one_call;(focus (intro w' hw';go_simp;first | done | exact ⟨rfl,rfl⟩));(focus (intro w' hw'; go_at_call 261;refine (near_any _ _).mono ?_;rintro _ w2 ⟨r1,rfl,hr1,hb1⟩ ;exact ⟨_,rfl,by constructor <;> assumption,below_step hw' (by assumption),by assumption⟩));intro v hv;cases hv;go_simp;refine hK _ ?_;clear hK K) | (refine Qr.walk_plain rfl fun K hK => ?_;apply Qr.one_call;(focus (intro w' hw';go_simp;first | done | exact ⟨rfl,rfl⟩));(focus (intro w' hw'; go_at_call 262;refine (fold_any _ _ _).mono ?_;rintro _ w2 ⟨r1,rfl,hr1,hb1⟩ ;exact ⟨_,rfl,by constructor <;> assumption,below_step hw' (by assumption),by assumption⟩));intro v hv;cases hv;go_simp;refine hK _ ?_;clear hK K))
 rename_i m1 hm1 q1 hq1 lo hlo m2 hm2 hi hhi
 have hlo:=near_lo hm1 hq1 hlo
 have hhi:=near_lo hm2 hr hhi
 clear hm1 hq1 hm2 hr
 refine Qr.walk_nil fun w6 hw6 => ?_
 have hkept:=keep hkept hw6
 have W6b:=below_step W1b hw6
 clear hK
 have hK:=hkept
 simp only [Kept,ka,kb,kc,kd,ke,kf,kg] at hK
 go_upto_region 2 with fail
 refine Qr.wp_below_all (by kernel_rfl) (by kernel_rfl) PhiFo ?_
 repeat (first | (refine Qr.walk_plain rfl fun K hK => ?_;refine one_bin _ _ _ _ _ rfl _ _ _ rfl rfl rfl (fun r hr => ?_);go_simp;refine hK _ ?_;clear hK K) | (refine Qr.walk_plain rfl fun K hK => ?_;apply Qr.one_det;(focus (intro w' hw';have HK:=keep hkept hw';simp only [Kept,ka,kb,kc,kd,ke,kf,kg] at HK;go_simp;first | done | rfl));go_simp;refine hK _ ?_;clear hK K) | (refine Qr.walk_plain rfl fun K hK => ?_;apply Qr.one_call;(focus (intro w' hw';go_simp;first | done | exact ⟨rfl,rfl⟩));(focus (intro w' hw'; go_at_call 261;refine (near_any _ _).mono ?_;rintro _ w2 ⟨r1,rfl,hr1,hb1⟩ ;exact ⟨_,rfl,by constructor <;> assumption,below_step hw' (by assumption),by assumption⟩));intro v hv;cases hv;go_simp;refine hK _ ?_;clear hK K) | (refine Qr.walk_plain rfl fun K hK => ?_;apply Qr.one_call;(focus (intro w' hw';go_simp;first | done | exact ⟨rfl,rfl⟩));(focus (intro w' hw'; go_at_call 262;refine (fold_any _ _ _).mono ?_;rintro _ w2 ⟨r1,rfl,hr1,hb1⟩ ;exact ⟨_,rfl,by constructor <;> assumption,below_step hw' (by assumption),by assumption⟩));intro v hv;cases hv;go_simp;refine hK _ ?_;clear hK K))
 rename_i fa hfa fb hfb
 refine Qr.walk_nil fun w7 hw7 => ?_
 have hkept:=keep hkept hw7
 have W7b:=below_step W6b hw7
 clear hK
 have hK:=hkept
 simp only [Kept,ka,kb,kc,kd,ke,kf,kg] at hK
 have e0:foldRF (cn .f32 a,cn .f32 b) (cn .f32 v) = foldPick (cn .f32 lo) (cn .f32 hi) (cn .f32 fa) (cn .f32 fb) (B .sub (cn .f32 a) (cn .f32 fa),B .sub (cn .f32 b) (cn .f32 fb)) (cn .f32 v):=by rw [hlo,hhi,hfa,hfb];rfl
 obtain ⟨U,hU⟩:∃ U,Hid (foldRF (cn .f32 a,cn .f32 b) (cn .f32 v) = U):=⟨_,rfl⟩
 have hUo:=hU.out
 rw [e0,pick_eq] at hUo
 clear e0 hlo hhi hfa hfb W6b hw6 hw7
 have hv:(!([fa,fb]:List Nat).any (fun x => !finP x)) = (finB (cn .f32 fa) && finB (cn .f32 fb)):=by
  unfold finB
  simp only [List.any_cons,List.any_nil,finP,Bool.or_false,Bool.not_or,Bool.not_not]
 generalize (finB (cn .f32 fa) && finB (cn .f32 fb)) = FB at *
 rcases way6 (FloatKind.f32.format.order lo hi == some .eq) (FloatKind.f32.format.order lo 3397386240 == some .gt || FloatKind.f32.format.order lo 3397386240 == some .eq) (FloatKind.f32.format.order lo 1249902592 == some .lt || FloatKind.f32.format.order lo 1249902592 == some .eq) (FloatKind.f32.format.order hi 3397386240 == some .gt || FloatKind.f32.format.order hi 3397386240 == some .eq) (FloatKind.f32.format.order hi 1249902592 == some .lt || FloatKind.f32.format.order hi 1249902592 == some .eq) FB with h1 | ⟨h1,h2⟩ | ⟨h1,h2,h3⟩ | ⟨h1,h2,h3,h4⟩ | ⟨h1,h2,h3,h4,h5⟩ | ⟨h1,h2,h3,h4,h5,h6⟩ | ⟨h1,h2,h3,h4,h5,h6⟩
 ·rw [h1,if_pos rfl] at hUo
  subst hUo
  go_wp2_with (first | (refine wp_bin rfl _ _ _ _ _ rfl _ _ _ rfl rfl rfl ?_;intro r n hr) | (go_at_call 215;refine (sizer_any _ _ _).mono ?_;rintro _ w8 ⟨l2,u2,rfl,e2,hb1⟩;have W8b:=below_step (below_drewN W7b _) hb1;have hkept:=keepT hkept hb1 rfl;clear hK;have hK:=hkept;simp only [Kept,ka,kb,kc,kd,ke,kf,kg] at hK))
  rename_i c1 n1 hc1
  exact bodyPost_ret (v:=RgV l2 u2) (by simp [results,Tryz.results216,go_sem,hK,World.cell?_setCell_other,World.cell?_setCell_same'];first | done | exact ⟨rfl,rfl⟩) rfl ⟨_,_,rfl,(e2.trans (congrArg sizeR (pr hc1 hr))).trans hU.out.symm,bel2 W8b (by omega) ..⟩
 all_goals
  simp only [*,Bool.and_true,Bool.and_false,Bool.false_and,Bool.true_and,Bool.false_eq_true,if_true,if_false] at hUo
  subst hUo
  try rw [‹FB = _›] at hv
  try clear h6
  go_wp2_with (first | (refine wp_bin rfl _ _ _ _ _ rfl _ _ _ rfl rfl rfl ?_;intro r n hr) | (go_at_call 204;refine (finite_any [fa,fb] (some ⟨_,0,none⟩) _ 0 2 _ (fun _ => rfl) ?_ (by simp)).mono ?_;(focus (intro i hi;have h3:i = 0 ∨ i = 1:=(by simp at hi;omega);rcases h3 with rfl | rfl <;> simp));rintro _ w8 ⟨rfl,hb1⟩;have W7b:=below_step (W7b.alloc W7b.size _) hb1;have hkept:=keepT (keep hkept ((Below.refl _ _).alloc (Nat.le_refl _) _)) hb1 rfl;clear hK;have hK:=hkept;simp only [Kept,ka,kb,kc,kd,ke,kf,kg] at hK;rw [hv]) | (go_at_call 225;refine (inf_any _).mono ?_;rintro _ w9 ⟨r1,rfl,hr1,hb1⟩;have W7b:=below_step W7b hb1;have hkept:=keepT hkept hb1 rfl;clear hK;have hK:=hkept;simp only [Kept,ka,kb,kc,kd,ke,kf,kg] at hK))
  first
   | exact bodyPost_ret (v:=RgV 0 r1) (by simp [results,Tryz.results216,go_sem,hK,World.cell?_setCell_other,World.cell?_setCell_same'];first | done | exact ⟨rfl,rfl⟩) rfl ⟨_,_,rfl,(pr (cn_zero _) hr1).trans hU.out.symm,bel2 W7b (by omega) ..⟩
   | exact bodyPost_ret (v:=RgV 0 r) (by simp [results,Tryz.results216,go_sem,hK,World.cell?_setCell_other,World.cell?_setCell_same'];first | done | exact ⟨rfl,rfl⟩) rfl ⟨_,_,rfl,(pr (cn_zero _) (hr.trans (by rfl))).trans hU.out.symm,bel2 (below_drewN W7b _) (by omega) ..⟩
end Go.Proofs.YtbiacfkiakddiaaGreat
