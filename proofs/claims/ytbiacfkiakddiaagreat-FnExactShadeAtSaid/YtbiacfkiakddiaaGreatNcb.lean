/-
 Lemmas: D6,D9,Y16.
-/
import Derived.Test.YtbiacfkiakddiaaGreatNbt
set_option linter.unusedVariables false
set_option linter.unusedSimpArgs false
namespace Go.Proofs.YtbiacfkiakddiaaGreat
open Go.RowKit Go.Fl
def fi (k:Int):Nat:=cn .f32 (floatOfInt .f32 k)
def sharF (x k:Int):Nat:=B .mul (B .quo (B .add (fi x) (cn .f32 1056964608)) (fi k)) (cn .f32 1073741824)
def uF (x nx ny:Int) (wd:Nat):Nat:=B .mul (B .mul (B .sub (sharF x nx) (cn .f32 1065353216)) wd) (B .quo (fi nx) (fi ny))
def vF (y ny:Int) (wd:Nat):Nat:=B .mul (B .sub (cn .f32 1065353216) (sharF y ny)) wd
def wayP (f t:Nat × Nat × Nat) (wd:Nat) (nx ny x y:Int):Nat × Nat × Nat:=addV (addV (fwdV f t) (scaleV (rightV f t) (uF x nx ny wd))) (scaleV (crossV (rightV f t) (fwdV f t)) (vF y ny wd))
theorem way_mk {f t:Nat × Nat × Nat} {wd:Nat} {nx ny x y:Int} {a b c d e u p:Nat × Nat × Nat} {r s:Nat} (h1:a = rightV f t) (h2:b = crossV (rightV f t) (fwdV f t)) (h3:c = fwdV f t) (hr:r = uF x nx ny wd) (hs:s = vF y ny wd)
  (h4:d = scaleV a r) (h5:e = addV c d) (h6:u = scaleV b s) (h7:p = addV e u):p = wayP f t wd nx ny x y:=by
 rw [h7,h6,h5,h4,h3,h2,h1,hr,hs];rfl

set_option maxRecDepth 100000 in
set_option maxHeartbeats 1000000 in
theorem share_any (x k:Int) (w:World) :
  Calls Tryz.prog 245 #[.int .i64 x,.int .i64 k] w (Ret .f32 (sharF x k) w):=by
 go_enter Tryz.func245,Tryz.ntmps245
 go_wp2_with (refine wp_bin rfl _ _ _ _ _ rfl _ _ _ rfl rfl rfl ?_;intro r n hr)
 go_ret
 exact ⟨_,rfl,by simp only [*];rfl,(by repeat' (first | exact Below.refl _ _ | exact Nat.le_refl _ | refine below_drewN ?_ _ | refine Below.alloc ?_ (by simp <;> omega) _ | refine Below.setCell ?_ (by simp <;> omega) _ | refine below_step ?_ (by assumption)))⟩

inductive PhiSh (fo:FuncId):FuncId → Array Value → Value → Prop
 | share (x k:Int) (r:Nat) (h:cn .f32 r = sharF x k):PhiSh fo fo #[.int .i64 x,.int .i64 k] (F1 r)
inductive PhiWa (fs fa:FuncId):FuncId → Array Value → Value → Prop
 | scale (x y z f a b c:Nat) (h:cv a b c = scaleV (cv x y z) (cn .f32 f)):PhiWa fs fa fs #[V3 x y z,F1 f] (V3 a b c)
 | add (x y z x' y' z' a b c:Nat) (h:cv a b c = addV (cv x y z) (cv x' y' z')):PhiWa fs fa fa #[V3 x y z,V3 x' y' z'] (V3 a b c)

/-- A ray comes back. -/
def RetRay (a b c:Nat) (W:Nat × Nat × Nat) (w:World) (e:Ending) (w':World):Prop:=∃ x y z,e = .returned (.agg #[F1 a,F1 b,F1 c,F1 x,F1 y,F1 z]) ∧ cv x y z = W ∧ Below w.heap.size w w'

set_option maxRecDepth 100000 in
set_option maxHeartbeats 4000000 in
theorem cray_any (a b c d e f wd:Nat) (nx ny x y:Int) (cb c0:Nat) (w:World) (hc:CamIn a b c d e f wd nx ny cb c0 w) :
  Calls Tryz.prog 172 #[.pointer (some ⟨cb,c0,none⟩),.int .i64 x,.int .i64 y] w (RetRay a b c (wayP (cv a b c) (cv d e f) (cn .f32 wd) nx ny x y) w):=by
 obtain ⟨R,hR⟩:∃ R,Hid (R = wayP (cv a b c) (cv d e f) (cn .f32 wd) nx ny x y):=⟨_,rfl⟩
 rw [← hR.out]
 have hax:∀ w',Below w.heap.size w w' → Calls Tryz.prog 243 #[.pointer (some ⟨cb,c0,none⟩)] w' (RetAx (axesV (cv a b c) (cv d e f)) w'):=fun w' hb => axes_any a b c d e f wd nx ny cb c0 w' (hc.keep hb)
 go_enter Tryz.func172,Tryz.ntmps172
 go_upto_region 1 with fail
 generalize hW:w.alloc (.cells #[F1 0,F1 0,F1 0,F1 0,F1 0,F1 0] 225) = W1 at *
 have W1b:Below w.heap.size w W1:=by subst hW;exact (by repeat' (first | exact Below.refl _ _ | exact Nat.le_refl _ | refine below_drewN ?_ _ | refine Below.alloc ?_ (by simp <;> omega) _ | refine Below.setCell ?_ (by simp <;> omega) _ | refine below_step ?_ (by assumption)))
 have hkept:Kept [(⟨w.heap.size,0,none⟩,F1 0),(⟨w.heap.size,1,none⟩,F1 0),(⟨w.heap.size,2,none⟩,F1 0),(⟨w.heap.size,3,none⟩,F1 0),(⟨w.heap.size,4,none⟩,F1 0),(⟨w.heap.size,5,none⟩,F1 0)] [⟨w.heap.size,0,none⟩,⟨w.heap.size,1,none⟩,⟨w.heap.size,2,none⟩,⟨w.heap.size,3,none⟩,⟨w.heap.size,4,none⟩,⟨w.heap.size,5,none⟩] W1:=by
  subst hW;simp only [Kept,ka,kb,kc,kd,ke,and_true,true_and];(first | (go_simp;done) | (simp [World.cell?,World.frozen?,World.alloc,Array.getElem?_push];done))
 clear hW
 have hkept:=kept_app (keep hc.kept W1b) hkept
 clear hc
 go_upto_region 2 with (go_at_call 243;refine (hax _ W1b).mono ?_;rintro _ w2 ⟨a1,b1,c1,a2,b2,c2,a3,b3,c3,rfl,e1,e2,e3,hb1⟩;have W1b:=below_step W1b hb1;have hkept:=keepT hkept hb1 rfl)
 rw [ax1] at e1
 rw [ax2] at e2
 rw [ax3] at e3
 clear hax
 have hb2:Below w2.heap.size w2 (((w2.alloc (.cells #[F1 a1,F1 b1,F1 c1] 38)).alloc (.cells #[F1 a2,F1 b2,F1 c2] 38)).alloc (.cells #[F1 a3,F1 b3,F1 c3] 38)):=(by repeat' (first | exact Below.refl _ _ | exact Nat.le_refl _ | refine below_drewN ?_ _ | refine Below.alloc ?_ (by simp <;> omega) _ | refine Below.setCell ?_ (by simp <;> omega) _ | refine below_step ?_ (by assumption)))
 have hkept:=kept_app (keep hkept hb2) (show Kept [(⟨w2.heap.size,0,none⟩,F1 a1),(⟨w2.heap.size,1,none⟩,F1 b1),(⟨w2.heap.size,2,none⟩,F1 c1),(⟨w2.heap.size + 1,0,none⟩,F1 a2),(⟨w2.heap.size + 1,1,none⟩,F1 b2),(⟨w2.heap.size + 1,2,none⟩,F1 c2),(⟨w2.heap.size + 1 + 1,0,none⟩,F1 a3),(⟨w2.heap.size + 1 + 1,1,none⟩,F1 b3),(⟨w2.heap.size + 1 + 1,2,none⟩,F1 c3)] [] (((w2.alloc (.cells #[F1 a1,F1 b1,F1 c1] 38)).alloc (.cells #[F1 a2,F1 b2,F1 c2] 38)).alloc (.cells #[F1 a3,F1 b3,F1 c3] 38)) by simp only [Kept,ka,kb,kc,kd,ke,and_true,true_and];(first | (go_simp;done) | (simp [World.cell?,World.frozen?,World.alloc,Array.getElem?_push];done)))
 have W1b:=below_step W1b hb2
 generalize (((w2.alloc (.cells #[F1 a1,F1 b1,F1 c1] 38)).alloc (.cells #[F1 a2,F1 b2,F1 c2] 38)).alloc (.cells #[F1 a3,F1 b3,F1 c3] 38)) = w3 at *
 clear hb2 hb1
 refine Qr.wp_below_all (by kernel_rfl) (by kernel_rfl) (PhiSh 245) ?_
 repeat (first
  | (refine Qr.walk_plain rfl fun K hK => ?_;refine one_bin _ _ _ _ _ rfl _ _ _ rfl rfl rfl (fun r hr => ?_);go_simp;refine hK _ ?_;clear hK K)
  | (refine Qr.walk_plain rfl fun K hK => ?_;apply Qr.one_det;(focus (intro w' hw';have HK:=keep hkept hw';simp only [Kept,ka,kb,kc,kd,ke,and_true,true_and] at HK;go_simp;first | done | rfl));go_simp;refine hK _ ?_;clear hK K)
  | (refine Qr.walk_plain rfl fun K hK => ?_;apply Qr.one_call;(focus (intro w' hw';go_simp;first | done | exact ⟨rfl,rfl⟩));(focus (intro w' hw'; go_at_call 245;refine (share_any _ _ _).mono ?_;rintro _ w4 ⟨r1,rfl,hr1,hb1⟩;exact ⟨_,rfl,.share _ _ _ hr1,below_step hw' (by assumption),by assumption⟩));intro v hv;cases hv;go_simp;refine hK _ ?_;clear hK K))
 rename_i s1 k1 s2 k2 s3 k3 s4 k4
 refine Qr.walk_nil fun w4 hw4 => ?_
 have hu:cn .f32 r = uF x nx ny (cn .f32 wd):=by rw [hr,k3,k2,k1,k4];rfl
 clear hr k1 k2 k3 k4
 generalize r = ru at *
 have hkept:=keep hkept hw4
 have W1b:=below_step W1b hw4
 clear hw4
 go_upto_region 3 with fail
 refine Qr.wp_below_all (by kernel_rfl) (by kernel_rfl) (PhiSh 245) ?_
 repeat (first
  | (refine Qr.walk_plain rfl fun K hK => ?_;refine one_bin _ _ _ _ _ rfl _ _ _ rfl rfl rfl (fun r hr => ?_);go_simp;refine hK _ ?_;clear hK K)
  | (refine Qr.walk_plain rfl fun K hK => ?_;apply Qr.one_det;(focus (intro w' hw';have HK:=keep hkept hw';simp only [Kept,ka,kb,kc,kd,ke,and_true,true_and] at HK;go_simp;first | done | rfl));go_simp;refine hK _ ?_;clear hK K)
  | (refine Qr.walk_plain rfl fun K hK => ?_;apply Qr.one_call;(focus (intro w' hw';go_simp;first | done | exact ⟨rfl,rfl⟩));(focus (intro w' hw'; go_at_call 245;refine (share_any _ _ _).mono ?_;rintro _ w4 ⟨r1,rfl,hr1,hb1⟩;exact ⟨_,rfl,.share _ _ _ hr1,below_step hw' (by assumption),by assumption⟩));intro v hv;cases hv;go_simp;refine hK _ ?_;clear hK K))
 rename_i s1 k1 s2 k2
 refine Qr.walk_nil fun w5 hw5 => ?_
 have hv:cn .f32 r = vF y ny (cn .f32 wd):=by rw [hr,k2,k1];rfl
 clear hr k1 k2
 generalize r = rv at *
 have hkept:=keep hkept hw5
 have W1b:=below_step W1b hw5
 clear hw5
 go_upto_region 4 with fail
 refine Qr.wp_below 14 (by kernel_rfl) (by kernel_rfl) (PhiWa 233 232) ?_
 repeat (first
  | (refine Qr.walk_plain rfl fun K hK => ?_;apply Qr.one_det;(focus (intro w' hw';have HK:=keep hkept hw';simp only [Kept,ka,kb,kc,kd,ke,and_true,true_and] at HK;go_simp;first | done | rfl));go_simp;refine hK _ ?_;clear hK K)
  | (refine Qr.walk_plain rfl fun K hK => ?_;apply Qr.one_call;(focus (intro w' hw';go_simp;first | done | exact ⟨rfl,rfl⟩));(focus (intro w' hw'; go_at_call 233;refine (scale_any _ _ _ _ _).mono ?_;rintro _ w3 ⟨r1,r2,r3,rfl,hr1,hr2,hr3,hb1⟩;exact ⟨_,rfl,.scale _ _ _ _ _ _ _ (v3_mk hr1 hr2 hr3),below_step hw' (by assumption),by assumption⟩));intro v hv;cases hv;go_simp;refine hK _ ?_;clear hK K)
  | (refine Qr.walk_plain rfl fun K hK => ?_;apply Qr.one_call;(focus (intro w' hw';go_simp;first | done | exact ⟨rfl,rfl⟩));(focus (intro w' hw'; go_at_call 232;refine (add_any _ _ _ _ _ _ _).mono ?_;rintro _ w3 ⟨r1,r2,r3,rfl,hr1,hr2,hr3,hb1⟩;exact ⟨_,rfl,.add _ _ _ _ _ _ _ _ _ (v3_mk hr1 hr2 hr3),below_step hw' (by assumption),by assumption⟩));intro v hv;cases hv;go_simp;refine hK _ ?_;clear hK K))
 rename_i p1 p2 p3 k1 q1 q2 q3 k2 x1 x2 x3 k3 y1 y2 y3 k4
 refine Qr.walk_nil fun w6 hw6 => ?_
 have hfin:cv y1 y2 y3 = R:=by rw [hR.out];exact way_mk e1 e2 e3 hu hv k1 k2 k3 k4
 clear k1 k2 k3 k4 e1 e2 e3 hu hv hR
 have hkept:=keep hkept hw6
 have W1b:=below_step W1b hw6
 have hK:=hkept;simp only [Kept,ka,kb,kc,kd,ke,and_true,true_and] at hK
 go_wp2_with fail
 exact bodyPost_ret (v:=.agg #[F1 a,F1 b,F1 c,F1 y1,F1 y2,F1 y3]) (by simp [results,Tryz.results172,go_sem,hK,World.cell?_setCell_other,World.cell?_setCell_same'];first | done | (repeat' constructor)) rfl ⟨y1,y2,y3,rfl,hfin,bel6 W1b (Nat.le_refl _) _ _ _ _ _ _⟩
end Go.Proofs.YtbiacfkiakddiaaGreat

namespace Go.Proofs.YtbiacfkiakddiaaGreat
open Go.RowKit Go.Fl
set_option maxRecDepth 100000 in
set_option maxHeartbeats 4000000 in
theorem s_cray_any (a b c d e f wd:Nat) (nx ny x y:Int) (cb c0:Nat) (w:World) (hc:CamIn a b c d e f wd nx ny cb c0 w) :
  Calls Tryz.prog 161 #[.pointer (some ⟨cb,c0,none⟩),.int .i64 x,.int .i64 y] w (RetRay a b c (wayP (cv a b c) (cv d e f) (cn .f32 wd) nx ny x y) w):=by
 obtain ⟨R,hR⟩:∃ R,Hid (R = wayP (cv a b c) (cv d e f) (cn .f32 wd) nx ny x y):=⟨_,rfl⟩
 rw [← hR.out]
 have hax:∀ w',Below w.heap.size w w' → Calls Tryz.prog 238 #[.pointer (some ⟨cb,c0,none⟩)] w' (RetAx (axesV (cv a b c) (cv d e f)) w'):=fun w' hb => s_axes_any a b c d e f wd nx ny cb c0 w' (hc.keep hb)
 go_enter Tryz.func161,Tryz.ntmps161
 go_upto_region 1 with fail
 generalize hW:w.alloc (.cells #[F1 0,F1 0,F1 0,F1 0,F1 0,F1 0] 225) = W1 at *
 have W1b:Below w.heap.size w W1:=by subst hW;exact (by repeat' (first | exact Below.refl _ _ | exact Nat.le_refl _ | refine below_drewN ?_ _ | refine Below.alloc ?_ (by simp <;> omega) _ | refine Below.setCell ?_ (by simp <;> omega) _ | refine below_step ?_ (by assumption)))
 have hkept:Kept [(⟨w.heap.size,0,none⟩,F1 0),(⟨w.heap.size,1,none⟩,F1 0),(⟨w.heap.size,2,none⟩,F1 0),(⟨w.heap.size,3,none⟩,F1 0),(⟨w.heap.size,4,none⟩,F1 0),(⟨w.heap.size,5,none⟩,F1 0)] [⟨w.heap.size,0,none⟩,⟨w.heap.size,1,none⟩,⟨w.heap.size,2,none⟩,⟨w.heap.size,3,none⟩,⟨w.heap.size,4,none⟩,⟨w.heap.size,5,none⟩] W1:=by
  subst hW;simp only [Kept,ka,kb,kc,kd,ke,and_true,true_and];(first | (go_simp;done) | (simp [World.cell?,World.frozen?,World.alloc,Array.getElem?_push];done))
 clear hW
 have hkept:=kept_app (keep hc.kept W1b) hkept
 clear hc
 go_upto_region 2 with (go_at_call 238;refine (hax _ W1b).mono ?_;rintro _ w2 ⟨a1,b1,c1,a2,b2,c2,a3,b3,c3,rfl,e1,e2,e3,hb1⟩;have W1b:=below_step W1b hb1;have hkept:=keepT hkept hb1 rfl)
 rw [ax1] at e1
 rw [ax2] at e2
 rw [ax3] at e3
 clear hax
 have hb2:Below w2.heap.size w2 (((w2.alloc (.cells #[F1 a1,F1 b1,F1 c1] 38)).alloc (.cells #[F1 a2,F1 b2,F1 c2] 38)).alloc (.cells #[F1 a3,F1 b3,F1 c3] 38)):=(by repeat' (first | exact Below.refl _ _ | exact Nat.le_refl _ | refine below_drewN ?_ _ | refine Below.alloc ?_ (by simp <;> omega) _ | refine Below.setCell ?_ (by simp <;> omega) _ | refine below_step ?_ (by assumption)))
 have hkept:=kept_app (keep hkept hb2) (show Kept [(⟨w2.heap.size,0,none⟩,F1 a1),(⟨w2.heap.size,1,none⟩,F1 b1),(⟨w2.heap.size,2,none⟩,F1 c1),(⟨w2.heap.size + 1,0,none⟩,F1 a2),(⟨w2.heap.size + 1,1,none⟩,F1 b2),(⟨w2.heap.size + 1,2,none⟩,F1 c2),(⟨w2.heap.size + 1 + 1,0,none⟩,F1 a3),(⟨w2.heap.size + 1 + 1,1,none⟩,F1 b3),(⟨w2.heap.size + 1 + 1,2,none⟩,F1 c3)] [] (((w2.alloc (.cells #[F1 a1,F1 b1,F1 c1] 38)).alloc (.cells #[F1 a2,F1 b2,F1 c2] 38)).alloc (.cells #[F1 a3,F1 b3,F1 c3] 38)) by simp only [Kept,ka,kb,kc,kd,ke,and_true,true_and];(first | (go_simp;done) | (simp [World.cell?,World.frozen?,World.alloc,Array.getElem?_push];done)))
 have W1b:=below_step W1b hb2
 generalize (((w2.alloc (.cells #[F1 a1,F1 b1,F1 c1] 38)).alloc (.cells #[F1 a2,F1 b2,F1 c2] 38)).alloc (.cells #[F1 a3,F1 b3,F1 c3] 38)) = w3 at *
 clear hb2 hb1
 have hK:=hkept;simp only [Kept,ka,kb,kc,kd,ke,and_true,true_and] at hK
 go_upto_region 4 with fail
 go_upto_region 5 with (refine wp_bin rfl _ _ _ _ _ rfl _ _ _ rfl rfl rfl ?_;intro r n hr)
 rename_i s1 m1 k1 s2 m2 k2 s3 m3 k3 _ _
 have hu1:cn .f32 r = B .sub (sharF x nx) (cn .f32 1065353216):=by rw [hr,k3,k2,k1];rfl
 generalize r = ru at *
 generalize n = n1 at *
 clear hr k1 k2 k3
 go_upto_region 6 with (refine wp_bin rfl _ _ _ _ _ rfl _ _ _ rfl rfl rfl ?_;intro r n hr)
 rename_i s1 l1 k1 s2 l2 k2 _ _
 have hu:cn .f32 r = uF x nx ny (cn .f32 wd):=by rw [hr,k2,k1,hu1];rfl
 generalize r = rw at *
 generalize n = n2 at *
 clear hr k1 k2 hu1
 go_upto_region 8 with (refine wp_bin rfl _ _ _ _ _ rfl _ _ _ rfl rfl rfl ?_;intro r n hr)
 rename_i s1 q1 k1 s2 q2 k2 s3 q3 k3 s4 q4 k4 _ _
 have hv:cn .f32 r = vF y ny (cn .f32 wd):=by rw [hr,k4,k3,k2,k1];rfl
 generalize r = rv at *
 clear hr k1 k2 k3 k4 hK
 have hkept:=kept_drewN hkept (m1 + m2 + m3 + n1 + l1 + l2 + n2 + q1 + q2 + q3 + q4 + n)
 have W1b:=below_drewN W1b (m1 + m2 + m3 + n1 + l1 + l2 + n2 + q1 + q2 + q3 + q4 + n)
 generalize w3.drewN (m1 + m2 + m3 + n1 + l1 + l2 + n2 + q1 + q2 + q3 + q4 + n) = w4 at *
 refine Qr.wp_made 10 9 14 #[F1 0,F1 0,F1 0] 38 (by kernel_rfl) (by kernel_rfl) (PhiWa 229 228) rfl (by kernel_rfl) ⟨_,rfl,rfl,fun a w => by go_simp⟩ (by kernel_rfl) ?_
 repeat (first
  | (refine Qr.walk_plain rfl fun K hK => ?_;apply Qr.one_det;(focus (intro w' hw';have HK:=keep hkept hw';simp only [Kept,ka,kb,kc,kd,ke,and_true,true_and] at HK;go_simp;first | done | rfl));go_simp;refine hK _ ?_;clear hK K)
  | (refine Qr.walk_plain rfl fun K hK => ?_;refine Qr.one_rel (fun v => ∃ g,v = .pointer (some ⟨g,0,none⟩)) (fun w' hw' => ⟨.pointer (some ⟨w'.heap.size,0,none⟩),_,by go_simp;rfl,⟨_,rfl⟩,hw'.alloc hw'.size _,(Below.refl _ _).alloc (Nat.le_refl _) _⟩) (fun v hv => ?_);obtain ⟨g,rfl⟩:=hv;go_simp;refine hK _ ?_;clear hK K)
  | (refine Qr.walk_plain rfl fun K hK => ?_;apply Qr.one_call;(focus (intro w' hw';go_simp;first | done | exact ⟨rfl,rfl⟩));(focus (intro w' hw'; go_at_call 229;refine (s_scale_any _ _ _ _ _).mono ?_;rintro _ w3 ⟨r1,r2,r3,rfl,hr1,hr2,hr3,hb1⟩;exact ⟨_,rfl,.scale _ _ _ _ _ _ _ (v3_mk hr1 hr2 hr3),below_step hw' (by assumption),by assumption⟩));intro v hv;cases hv;go_simp;refine hK _ ?_;clear hK K)
  | (refine Qr.walk_plain rfl fun K hK => ?_;apply Qr.one_call;(focus (intro w' hw';go_simp;first | done | exact ⟨rfl,rfl⟩));(focus (intro w' hw'; go_at_call 228;refine (s_add_any _ _ _ _ _ _ _).mono ?_;rintro _ w3 ⟨r1,r2,r3,rfl,hr1,hr2,hr3,hb1⟩;exact ⟨_,rfl,.add _ _ _ _ _ _ _ _ _ (v3_mk hr1 hr2 hr3),below_step hw' (by assumption),by assumption⟩));intro v hv;cases hv;go_simp;refine hK _ ?_;clear hK K))
 rename_i p1 p2 p3 k1 q1 q2 q3 k2 x1 x2 x3 k3 y1 y2 y3 k4
 refine Qr.walk_nil fun w6 hw6 hmade => ?_
 have hfin:cv y1 y2 y3 = R:=by rw [hR.out];exact way_mk e1 e2 e3 hu hv k1 k2 k3 k4
 clear k1 k2 k3 k4 e1 e2 e3 hu hv hR
 obtain ⟨g3,hg3,hgw,hgc⟩:=hmade _ rfl
 injection hg3 with hg3
 injection hg3 with hg3
 subst hg3
 obtain ⟨hc0,hc1,hc2,hf0,hf1,hf2⟩:=cells3 hgc
 go_upto_region 9 with fail
 have hset:=set3 hgc (F1 y1) (F1 y2) (F1 y3)
 have hbw:=hw6.trans (hset.2.mono hgw)
 clear hc0 hc1 hc2 hf0 hf1 hf2 hgc hw6
 generalize ((w6.setCell ⟨g,0,none⟩ (F1 y1)).setCell ⟨g,1,none⟩ (F1 y2)).setCell ⟨g,2,none⟩ (F1 y3) = w7 at hset hbw ⊢
 have hkept:=kept_app (keep hkept hbw) (kept3 hset.1)
 have W1b:=below_step W1b hbw
 clear hset hbw hgw
 refine Qr.wp_below 6 (by kernel_rfl) (by kernel_rfl) (PhiWa 229 228) ?_
 repeat (refine Qr.walk_plain rfl fun K hK => ?_;apply Qr.one_det;(focus (intro w' hw';have HK:=keep hkept hw';simp only [Kept,ka,kb,kc,kd,ke,and_true,true_and] at HK;go_simp;first | done | rfl));go_simp;refine hK _ ?_;clear hK K)
 refine Qr.walk_nil fun w8 hw8 => ?_
 have hkept:=keep hkept hw8
 have W1b:=below_step W1b hw8
 have hK:=hkept;simp only [Kept,ka,kb,kc,kd,ke,and_true,true_and] at hK
 go_wp2_with fail
 exact bodyPost_ret (v:=.agg #[F1 a,F1 b,F1 c,F1 y1,F1 y2,F1 y3]) (by simp [results,Tryz.results161,go_sem,hK,World.cell?_setCell_other,World.cell?_setCell_same'];first | done | (repeat' constructor)) rfl ⟨y1,y2,y3,rfl,hfin,bel6 W1b (Nat.le_refl _) _ _ _ _ _ _⟩
end Go.Proofs.YtbiacfkiakddiaaGreat

namespace Go.Proofs.YtbiacfkiakddiaaGreat
open Go.RowKit Go.Fl
set_option maxRecDepth 100000 in
set_option maxHeartbeats 4000000 in
theorem s_shadow_any (ns:List PN) (hv:validS ns = true) (hnum:∀ n ∈ ns,n.nums.length < 10000000) (hok:OkAll ns) (hl:1 ≤ ns.length ∧ ns.length ≤ 16) (sb so nb no cap mb mo0 x y z nx ny nz lx ly lz near most:Nat) (m:Nat) (hn:m ≤ 64) (w:World) (hsh:ShapeIn ns sb so nb no cap w) (hma:MarIn near most (m:Int) mb mo0 w) :
  Calls Tryz.prog 168 #[.pointer (some ⟨sb,so,none⟩),V3 x y z,V3 nx ny nz,V3 lx ly lz,.pointer (some ⟨mb,mo0,none⟩)] w
   (RetS (shadow (fun F T mo => marchGs (atS ns) F T (slopeF ns) (cn .f32 near) mo m 1 0) (cn .f32 x,cn .f32 y,cn .f32 z) (cn .f32 nx,cn .f32 ny,cn .f32 nz) (cn .f32 lx,cn .f32 ly,cn .f32 lz) (cn .f32 near) (cn .f32 most)) w):=by
 have hmc:∀ (a b c d e f mo rb ro tb to':Nat) w',Below w.heap.size w w' → RayIn a b c d e f rb ro w' → MarIn near mo (m:Int) tb to' w' → Calls Tryz.prog 163 #[.pointer (some ⟨sb,so,none⟩),.pointer (some ⟨rb,ro,none⟩),.pointer (some ⟨tb,to',none⟩)] w' (RetHit (cn .f32 a,cn .f32 b,cn .f32 c) (cn .f32 d,cn .f32 e,cn .f32 f) (marchGs (atS ns) (cn .f32 a,cn .f32 b,cn .f32 c) (cn .f32 d,cn .f32 e,cn .f32 f) (slopeF ns) (cn .f32 near) (cn .f32 mo) m 1 0) w'):=fun a b c d e f mo rb ro tb to' w' hb hr hm => s_march_any ns hv hnum hok hl sb so nb no cap rb ro tb to' a b c d e f near mo m hn w' (hsh.keep hb) hr hm
 generalize hGo:(fun F T mo => marchGs (atS ns) F T (slopeF ns) (cn .f32 near) mo m 1 0) = Go at *
 have hgo2:∀ F T mo,marchGs (atS ns) F T (slopeF ns) (cn .f32 near) mo m 1 0 = Go F T mo:=fun F T mo => by rw [← hGo]
 simp only [hgo2] at hmc
 clear hgo2 hGo hsh hok hnum hv
 obtain ⟨FF,hFF⟩:∃ FF,Hid (FF = fromF (cn .f32 x,cn .f32 y,cn .f32 z) (cn .f32 nx,cn .f32 ny,cn .f32 nz) (cn .f32 near)):=⟨_,rfl⟩
 obtain ⟨TT,hTT⟩:∃ TT,Hid (TT = wayT (cn .f32 x,cn .f32 y,cn .f32 z) (cn .f32 nx,cn .f32 ny,cn .f32 nz) (cn .f32 lx,cn .f32 ly,cn .f32 lz) (cn .f32 near)):=⟨_,rfl⟩
 obtain ⟨RR,hRR⟩:∃ RR,Hid (shadow Go (cn .f32 x,cn .f32 y,cn .f32 z) (cn .f32 nx,cn .f32 ny,cn .f32 nz) (cn .f32 lx,cn .f32 ly,cn .f32 lz) (cn .f32 near) (cn .f32 most) = RR):=⟨_,rfl⟩
 rw [hRR.out]
 have hml:=hma.lt
 go_enter Tryz.func168,Tryz.ntmps168
 go_upto_region 1 with fail
 generalize hW:((w.alloc (.cells #[F1 x,F1 y,F1 z] 38)).alloc (.cells #[F1 nx,F1 ny,F1 nz] 38)).alloc (.cells #[F1 lx,F1 ly,F1 lz] 38) = W1 at *
 have W1b:Below w.heap.size w W1:=by subst hW;exact (by repeat' (first | exact Below.refl _ _ | exact Nat.le_refl _ | refine below_drewN ?_ _ | refine Below.alloc ?_ (by simp <;> omega) _ | refine Below.setCell ?_ (by simp <;> omega) _ | refine below_step ?_ (by assumption)))
 have hkept:Kept [(⟨w.heap.size,0,none⟩,F1 x),(⟨w.heap.size,1,none⟩,F1 y),(⟨w.heap.size,2,none⟩,F1 z),(⟨w.heap.size + 1,0,none⟩,F1 nx),(⟨w.heap.size + 1,1,none⟩,F1 ny),(⟨w.heap.size + 1,2,none⟩,F1 nz),(⟨w.heap.size + 1 + 1,0,none⟩,F1 lx),(⟨w.heap.size + 1 + 1,1,none⟩,F1 ly),(⟨w.heap.size + 1 + 1,2,none⟩,F1 lz)] [] W1:=by
  subst hW;simp only [Kept,ka,kb,kc,kd,ke,and_true,true_and];(first | (go_simp;done) | (simp [World.cell?,World.frozen?,World.alloc,Array.getElem?_push];done))
 clear hW
 have hkept:=kept_app hkept (hma.keep W1b).kept
 clear hma
 have W3b:=W1b
 refine Qr.wp_made 11 10 12 #[F1 0,F1 0,F1 0,F1 0,F1 0,F1 0] 225 (by kernel_rfl) (by kernel_rfl) (PhiO 0 229 228) rfl (by kernel_rfl) ⟨_,rfl,rfl,fun a w => by go_simp⟩ (by kernel_rfl) ?_
 repeat (first
  | (refine Qr.walk_plain rfl fun K hK => ?_;refine one_bin _ _ _ _ _ rfl _ _ _ rfl rfl rfl (fun r hr => ?_);go_simp;refine hK _ ?_;clear hK K)
  | (refine Qr.walk_plain rfl fun K hK => ?_;refine Qr.one_rel (fun v => ∃ g,v = .pointer (some ⟨g,0,none⟩)) (fun w' hw' => ⟨.pointer (some ⟨w'.heap.size,0,none⟩),_,by go_simp;rfl,⟨_,rfl⟩,hw'.alloc hw'.size _,(Below.refl _ _).alloc (Nat.le_refl _) _⟩) (fun v hv => ?_);obtain ⟨g,rfl⟩:=hv;go_simp;refine hK _ ?_;clear hK K)
  | (refine Qr.walk_plain rfl fun K hK => ?_;apply Qr.one_det;(focus (intro w' hw';have HK:=keep hkept hw';simp only [Kept,ka,kb,kc,kd,ke,and_true,true_and] at HK;go_simp;first | done | rfl));go_simp;refine hK _ ?_;clear hK K)
  | (refine Qr.walk_plain rfl fun K hK => ?_;apply Qr.one_call;(focus (intro w' hw';go_simp;first | done | exact ⟨rfl,rfl⟩));(focus (intro w' hw'; go_at_call 229;refine (s_scale_any _ _ _ _ _).mono ?_;rintro _ w3 ⟨r1,r2,r3,rfl,hr1,hr2,hr3,hb1⟩;exact ⟨_,rfl,PhiO.scale _ _ _ _ _ _ _ hr1 hr2 hr3,below_step hw' (by assumption),by assumption⟩));intro v hv;cases hv;go_simp;refine hK _ ?_;clear hK K)
  | (refine Qr.walk_plain rfl fun K hK => ?_;apply Qr.one_call;(focus (intro w' hw';go_simp;first | done | exact ⟨rfl,rfl⟩));(focus (intro w' hw'; go_at_call 228;refine (s_add_any _ _ _ _ _ _ _).mono ?_;rintro _ w3 ⟨r1,r2,r3,rfl,hr1,hr2,hr3,hb1⟩;exact ⟨_,rfl,PhiO.add _ _ _ _ _ _ _ _ _ hr1 hr2 hr3,below_step hw' (by assumption),by assumption⟩));intro v hv;cases hv;go_simp;refine hK _ ?_;clear hK K))
 rename_i a1 b1 c1 g1 g2 g3 a2 b2 c2 g4 g5 g6
 refine Qr.walk_nil fun w4 hw4 hmade => ?_
 obtain ⟨g3',hg3,hgw,hgc⟩:=hmade _ rfl
 injection hg3 with hg3
 injection hg3 with hg3
 subst hg3
 have hF:Hid ((cn .f32 a2,cn .f32 b2,cn .f32 c2) = FF):=by
  unfold Hid
  rw [hFF.out,fromF,addV,scaleV,g4,g5,g6,g1,g2,g3,hr]
 clear g1 g2 g3 g4 g5 g6 hr hmade
 obtain ⟨⟨p0,p1,p2,p3,p4,p5⟩,q0,q1,q2,q3,q4,q5⟩:=cells6 hgc
 go_upto_region 2 with fail
 obtain ⟨h6,hb6⟩:=set6 hgc (Nat.le_refl g) (F1 a2) (F1 b2) (F1 c2) (F1 0) (F1 0) (F1 0)
 clear p0 p1 p2 p3 p4 p5 q0 q1 q2 q3 q4 q5 hgc
 have hkept3:=hkept
 have hw5:=hw4.trans (hb6.mono hgw)
 clear hw4 hb6
 generalize (((((w4.setCell ⟨g,0,none⟩ (F1 a2)).setCell ⟨g,1,none⟩ (F1 b2)).setCell ⟨g,2,none⟩ (F1 c2)).setCell ⟨g,3,none⟩ (F1 0)).setCell ⟨g,4,none⟩ (F1 0)).setCell ⟨g,5,none⟩ (F1 0) = w5 at *
 have hkept:=keep hkept hw5
 have W5b:=below_step W3b hw5
 have hw53:=hw5
 clear hw5
 obtain ⟨⟨p0,p1,p2,p3,p4,p5⟩,q0,q1,q2,q3,q4,q5⟩:=cells6 h6
 have hs5:g < w5.heap.size:=(Array.getElem?_eq_some_iff.1 h6).1
 have hg3:w.heap.size ≤ g:=Nat.le_trans W3b.size hgw
 have hgm:g ≠ mb:=by omega
 have hK:=hkept;simp only [Kept,ka,kb,kc,kd,ke,and_true,true_and] at hK
 go_upto_region 3 with (go_at_call 167;refine (s_less_any _ _ _ _ _ _ _).mono ?_;rintro _ w6 ⟨t0,t1,t2,rfl,ht0,ht1,ht2,hb1⟩;have HK6:=lift hb1;have HF6:=liftF hb1)
 have h6':w6.heap[g]? = some (.cells #[F1 a2,F1 b2,F1 c2,F1 0,F1 0,F1 0] 225 (0,0)):=by rw [hb1.block g hs5];exact h6
 obtain ⟨h7,hb7⟩:=set6b h6' (Nat.le_refl g) (F1 t0) (F1 t1) (F1 t2)
 have hT:Hid ((cn .f32 t0,cn .f32 t1,cn .f32 t2) = TT):=by
  unfold Hid
  rw [hTT.out,wayT,← hFF.out,← hF.out,lessV,ht0,ht1,ht2]
 have W6b:=below_step W5b hb1
 clear h6 h6' p0 p1 p2 p3 p4 p5 q0 q1 q2 q3 q4 q5 HK6 HF6 hK ht0 ht1 ht2
 have W7b:=W6b.trans (hb7.mono hg3)
 have hkW:=keep hkept3 (((show Below W1.heap.size W1 w5 from hw53).trans (hb1.mono (by omega))).trans (hb7.mono hgw))
 clear hkept hkept3
 have hkept:=kept_app hkW (kept6 h7)
 clear hkW hb7 hb1 W6b W5b hs5
 generalize ((w6.setCell ⟨g,3,none⟩ (F1 t0)).setCell ⟨g,4,none⟩ (F1 t1)).setCell ⟨g,5,none⟩ (F1 t2) = w7 at *
 have hSh:Hid (RR = if rayOk FF TT then (decide ((Go FF TT (lesserF (cn .f32 most) (longF TT.1 TT.2.1 TT.2.2))).1 = 1),true) else (false,false)):=by unfold Hid;rw [← hRR.out,shadow,mostT,← hFF.out,← hTT.out]
 clear hRR hFF hTT
 rw [← hF.out,← hT.out] at hSh
 clear hF hT h7
 have hK:=hkept;simp only [Kept,ka,kb,kc,kd,ke,and_true,true_and] at hK
 have hri:RayIn a2 b2 c2 t0 t1 t2 g 0 w7:=⟨by simp only [Kept,ka,kb,kc,kd,ke,and_true,true_and];simp [hK]⟩
 cases hray:rayOk (cn .f32 a2,cn .f32 b2,cn .f32 c2) (cn .f32 t0,cn .f32 t1,cn .f32 t2)
 ·have hres:=hSh.out
  rw [hray] at hres
  simp only [Bool.false_eq_true,if_false] at hres
  go_wp2_with (go_at_call 162;refine (s_ray_any _ _ _ _ _ _ _ 0 _ hri).mono ?_;rintro _ w8 ⟨rfl,hb1⟩;have hkept:=keepT hkept hb1 rfl;clear hK;have hK:=hkept;simp only [Kept,ka,kb,kc,kd,ke,and_true,true_and] at hK;rw [hray])
  go_ret2
  exact ⟨by rw [hres];rfl,below_step W7b hb1⟩
 ·have hres:=hSh.out
  rw [hray] at hres
  simp only [if_true] at hres
  go_upto_region 6 with (go_at_call 162;refine (s_ray_any _ _ _ _ _ _ _ 0 _ hri).mono ?_;rintro _ w8 ⟨rfl,hb1⟩;have W8b:=below_step W7b hb1;have hkept:=keepT hkept hb1 rfl;clear hK;have hK:=hkept;simp only [Kept,ka,kb,kc,kd,ke,and_true,true_and] at hK;rw [hray])
  have hri8:=hri.keep hb1
  have hbA:Below w8.heap.size w8 (w8.alloc (.cells #[F1 near,F1 most,.int .i64 (m:Int)] 84)):=(Below.refl _ _).alloc (Nat.le_refl _) _
  have hriA:=hri8.keep hbA
  have WAb:=below_step W8b hbA
  have hkept:=kept_app (keep hkept hbA) (show Kept [(⟨w8.heap.size,0,none⟩,F1 near),(⟨w8.heap.size,1,none⟩,F1 most),(⟨w8.heap.size,2,none⟩,.int .i64 (m:Int))] [⟨w8.heap.size,1,none⟩] (w8.alloc (.cells #[F1 near,F1 most,.int .i64 (m:Int)] 84)) by simp only [Kept,ka,kb,kc,kd,ke,and_true,true_and];simp)
  have hg8:g < w8.heap.size:=hri8.lt
  have hgh:g ≠ w8.heap.size:=by omega
  have hw8s:=W8b.size
  clear hK hb1 W7b hri hri8 hbA W8b
  generalize w8.alloc (.cells #[F1 near,F1 most,.int .i64 (m:Int)] 84) = wA at *
  generalize w8.heap.size = h8 at *
  refine Qr.wp_below_all (by kernel_rfl) (by kernel_rfl) PhiFs ?_
  repeat (first
   | (refine Qr.walk_plain rfl fun K hK => ?_;apply Qr.one_det;(focus (intro w' hw';have HK:=keep hkept hw';simp only [Kept,ka,kb,kc,kd,ke,and_true,true_and] at HK;go_simp;first | done | rfl));go_simp;refine hK _ ?_;clear hK K)
   | (refine Qr.walk_plain rfl fun K hK => ?_;apply Qr.one_call;(focus (intro w' hw';go_simp;first | done | exact ⟨rfl,rfl⟩));(focus (intro w' hw'; go_at_call 242;refine (s_long_any _ _ _ _).mono ?_;rintro _ w2 ⟨r1,rfl,hr1,hb1⟩ ;exact ⟨_,rfl,by constructor <;> assumption,below_step hw' (by assumption),by assumption⟩));intro v hv;cases hv;go_simp;refine hK _ ?_;clear hK K))
  rename_i lo hlo
  refine Qr.walk_nil fun w9 hw9 => ?_
  have hkept:=keep hkept hw9
  have W9b:=below_step WAb hw9
  have hri9:=hriA.keep hw9
  clear hriA hSh hw9 WAb
  have hK:=hkept;simp only [Kept,ka,kb,kc,kd,ke,and_true,true_and] at hK
  cases hlt:(FloatKind.f32.format.order lo most == some .lt)
  ·have hres:Hid (RR = (decide ((Go (cn .f32 a2,cn .f32 b2,cn .f32 c2) (cn .f32 t0,cn .f32 t1,cn .f32 t2) (cn .f32 most)).1 = 1),true)):=by
    unfold Hid
    rw [hres,lesserF,← hlo,ltk_cn,ltk,hlt]
    rfl
   have hmar:MarIn near most (m:Int) h8 0 w9:=⟨by simp only [Kept,ka,kb,kc,kd,ke,and_true,true_and];simp [hK]⟩
   generalize hh:Go (cn .f32 a2,cn .f32 b2,cn .f32 c2) (cn .f32 t0,cn .f32 t1,cn .f32 t2) (cn .f32 most) = hit at hres
   have hm2:=hmc a2 b2 c2 t0 t1 t2 most g 0 h8 0 w9 W9b hri9 hmar
   rw [hh] at hm2
   clear hmc hh hlo
   go_wp2_with (go_at_call 163;refine hm2.mono ?_;rintro _ w10 ⟨far,px,py,pz,rfl,_,_,hb1⟩;have hkept:=keepT hkept hb1 rfl;clear hK;have hK:=hkept;simp only [Kept,ka,kb,kc,kd,ke,and_true,true_and] at hK)
   go_ret2
   exact ⟨by rw [hres.out];exact congrArg (fun b => Ending.returned (.tuple #[.bool b,.bool true])) (decide_eq_decide.2 (by omega)),(below_step W9b hb1).alloc (below_step W9b hb1).size _⟩
  ·go_upto_region 8 with (go_at_call 242;refine (s_long_any _ _ _ _).mono ?_;rintro _ w10 ⟨lo2,rfl,hlo2,hb1⟩;have W10b:=below_step W9b hb1;have hri10:=hri9.keep hb1;have hkept:=keepT hkept hb1 rfl;clear hK;have hK:=hkept;simp only [Kept,ka,kb,kc,kd,ke,and_true,true_and] at hK)
   have hres:Hid (RR = (decide ((Go (cn .f32 a2,cn .f32 b2,cn .f32 c2) (cn .f32 t0,cn .f32 t1,cn .f32 t2) (cn .f32 lo2)).1 = 1),true)):=by
    unfold Hid
    rw [hres,lesserF,← hlo,ltk_cn,ltk,hlt,hlo2,hlo]
    rfl
   have W11b:=W10b.setCell (p:=⟨h8,1,none⟩) hw8s (F1 lo2)
   have hmar:MarIn near lo2 (m:Int) h8 0 (w10.setCell ⟨h8,1,none⟩ (F1 lo2)):=⟨by simp only [Kept,ka,kb,kc,kd,ke,and_true,true_and];simp [hK,World.cell?_setCell_other,World.cell?_setCell_same']⟩
   have hri11:RayIn a2 b2 c2 t0 t1 t2 g 0 (w10.setCell ⟨h8,1,none⟩ (F1 lo2)):=⟨by simp only [Kept,ka,kb,kc,kd,ke,and_true,true_and];simp [hK,hgh,Ne.symm hgh,World.cell?_setCell_other,World.cell?_setCell_same']⟩
   generalize hh:Go (cn .f32 a2,cn .f32 b2,cn .f32 c2) (cn .f32 t0,cn .f32 t1,cn .f32 t2) (cn .f32 lo2) = hit at hres
   have hm2:=hmc a2 b2 c2 t0 t1 t2 lo2 g 0 h8 0 _ W11b hri11 hmar
   rw [hh] at hm2
   clear hmc hh hlo hlo2 hri10 hri9
   go_wp2_with (go_at_call 163;refine hm2.mono ?_;rintro _ w12 ⟨far,px,py,pz,rfl,_,_,hb1⟩)
   go_ret2
   exact ⟨by rw [hres.out];exact congrArg (fun b => Ending.returned (.tuple #[.bool b,.bool true])) (decide_eq_decide.2 (by omega)),(below_step W11b hb1).alloc (below_step W11b hb1).size _⟩
end Go.Proofs.YtbiacfkiakddiaaGreat
