/-
 Lemmas: D4,D6,D9.
-/
import Derived.Test.YtbiacfkiakddiaaGreatObm
import Derived.Test.YtbiacfkiakddiaaGreatObt
set_option linter.unusedVariables false
set_option linter.unusedSimpArgs false
namespace Go.Proofs.YtbiacfkiakddiaaGreat
open Go.RowKit Go.Fl
inductive PhiNs (ns:List PN) (fa fl ft fu:FuncId):FuncId → Array Value → Value → Prop
 | add (x y z x' y' z' a b c:Nat) (h:cv a b c = addV (cv x y z) (cv x' y' z')):PhiNs ns fa fl ft fu fa #[V3 x y z,V3 x' y' z'] (V3 a b c)
 | less (x y z x' y' z' a b c:Nat) (h:cv a b c = lessV (cv x y z) (cv x' y' z')):PhiNs ns fa fl ft fu fl #[V3 x y z,V3 x' y' z'] (V3 a b c)
 | at_ (sa:Addr) (x y z r:Nat) (h:cn .f32 r = atS ns (cv x y z)):PhiNs ns fa fl ft fu ft #[.pointer (some sa),V3 x y z] (F1 r)
 | unit (x y z a b c:Nat) (h:cv a b c = unitF (cv x y z)):PhiNs ns fa fl ft fu fu #[V3 x y z] (V3 a b c)


set_option maxRecDepth 100000 in
set_option maxHeartbeats 8000000 in
theorem s_normal_any (ns:List PN) (hok:OkAll ns) (hl:1 ≤ ns.length ∧ ns.length ≤ 16) (sb so nb no cap x y z st:Nat) (w:World) (hsh:ShapeIn ns sb so nb no cap w) :
  Calls Tryz.prog 164 #[.pointer (some ⟨sb,so,none⟩),V3 x y z,F1 st] w (RetVv (normF (atS ns) (cv x y z) (cn .f32 st)) w):=by
 obtain ⟨R,hR⟩:∃ R,Hid (R = normF (atS ns) (cv x y z) (cn .f32 st)):=⟨_,rfl⟩
 rw [← hR.out]
 have hat:∀ (x y z:Nat) (w':World),Below w.heap.size w w' → Calls Tryz.prog 80 #[.pointer (some ⟨sb,so,none⟩),V3 x y z] w' (Ret .f32 (atS ns (cv x y z)) w'):=fun x y z w' hb => s_at_any ns hok hl sb so nb no cap x y z w' (hsh.keep hb)
 clear hsh hok
 go_enter Tryz.func164,Tryz.ntmps164
 go_upto_region 4 with fail
 generalize hW:((((w.alloc (.cells #[F1 x,F1 y,F1 z] 38)).alloc (.cells #[F1 0,F1 0,F1 0] 38)).alloc (.cells #[F1 st,F1 0,F1 0] 38)).alloc (.cells #[F1 0,F1 st,F1 0] 38)).alloc (.cells #[F1 0,F1 0,F1 st] 38) = W1 at *
 have W1b:Below w.heap.size w W1:=by subst hW;exact (by repeat' (first | exact Below.refl _ _ | exact Nat.le_refl _ | refine below_drewN ?_ _ | refine Below.alloc ?_ (by simp <;> omega) _ | refine Below.setCell ?_ (by simp <;> omega) _ | refine below_step ?_ (by assumption)))
 have hkept:Kept [(⟨w.heap.size,0,none⟩,F1 x),(⟨w.heap.size,1,none⟩,F1 y),(⟨w.heap.size,2,none⟩,F1 z),(⟨w.heap.size + 1,0,none⟩,F1 0),(⟨w.heap.size + 1,1,none⟩,F1 0),(⟨w.heap.size + 1,2,none⟩,F1 0),(⟨w.heap.size + 1 + 1,0,none⟩,F1 st),(⟨w.heap.size + 1 + 1,1,none⟩,F1 0),(⟨w.heap.size + 1 + 1,2,none⟩,F1 0),(⟨w.heap.size + 1 + 1 + 1,0,none⟩,F1 0),(⟨w.heap.size + 1 + 1 + 1,1,none⟩,F1 st),(⟨w.heap.size + 1 + 1 + 1,2,none⟩,F1 0),(⟨w.heap.size + 1 + 1 + 1 + 1,0,none⟩,F1 0),(⟨w.heap.size + 1 + 1 + 1 + 1,1,none⟩,F1 0),(⟨w.heap.size + 1 + 1 + 1 + 1,2,none⟩,F1 st)] [⟨w.heap.size + 1,0,none⟩,⟨w.heap.size + 1,1,none⟩,⟨w.heap.size + 1,2,none⟩] W1:=by
  subst hW;simp only [Kept,ka,kb,kc,kd,ke,kfa,kga];(first | (go_simp;done) | (simp [World.cell?,World.frozen?,World.alloc,Array.getElem?_push];done))
 clear hW
 refine Qr.wp_below 35 (by kernel_rfl) (by kernel_rfl) (PhiNs ns 228 167 80 166) ?_
 repeat (first
  | (refine Qr.walk_plain rfl fun K hK => ?_;refine one_bin _ _ _ _ _ rfl _ _ _ rfl rfl rfl (fun r hr => ?_);go_simp;refine hK _ ?_;clear hK K)
  | (refine Qr.walk_plain rfl fun K hK => ?_;apply Qr.one_det;(focus (intro w' hw';have HK:=keep hkept hw';simp only [Kept,ka,kb,kc,kd,ke,kfa,kga] at HK;go_simp;first | done | rfl));go_simp;refine hK _ ?_;clear hK K)
  | (refine Qr.walk_plain rfl fun K hK => ?_;apply Qr.one_call;(focus (intro w' hw';go_simp;first | done | exact ⟨rfl,rfl⟩));(focus (intro w' hw'; go_at_call 228;refine (s_add_any _ _ _ _ _ _ _).mono ?_;rintro _ w3 ⟨r1,r2,r3,rfl,hr1,hr2,hr3,hb1⟩;exact ⟨_,rfl,.add _ _ _ _ _ _ _ _ _ (v3_mk hr1 hr2 hr3),below_step hw' (by assumption),by assumption⟩));intro v hv;cases hv;go_simp;refine hK _ ?_;clear hK K)
  | (refine Qr.walk_plain rfl fun K hK => ?_;apply Qr.one_call;(focus (intro w' hw';go_simp;first | done | exact ⟨rfl,rfl⟩));(focus (intro w' hw'; go_at_call 167;refine (s_less_any _ _ _ _ _ _ _).mono ?_;rintro _ w3 ⟨r1,r2,r3,rfl,hr1,hr2,hr3,hb1⟩;exact ⟨_,rfl,.less _ _ _ _ _ _ _ _ _ (v3_mk hr1 hr2 hr3),below_step hw' (by assumption),by assumption⟩));intro v hv;cases hv;go_simp;refine hK _ ?_;clear hK K)
  | (refine Qr.walk_plain rfl fun K hK => ?_;apply Qr.one_call;(focus (intro w' hw';go_simp;first | done | exact ⟨rfl,rfl⟩));(focus (intro w' hw'; go_at_call 80;refine (hat _ _ _ _ (below_step W1b hw')).mono ?_;rintro _ w3 ⟨r1,rfl,hr1,hb1⟩;exact ⟨_,rfl,.at_ _ _ _ _ _ hr1,below_step hw' (by assumption),by assumption⟩));intro v hv;cases hv;go_simp;refine hK _ ?_;clear hK K)
  | (refine Qr.walk_plain rfl fun K hK => ?_;apply Qr.one_call;(focus (intro w' hw';go_simp;first | done | exact ⟨rfl,rfl⟩));(focus (intro w' hw'; go_at_call 166;refine (s_unit_any _ _ _ _).mono ?_;rintro _ w3 ⟨r1,r2,r3,rfl,hr1,hr2,hr3,hb1⟩;exact ⟨_,rfl,.unit _ _ _ _ _ _ (v3_mk hr1 hr2 hr3),below_step hw' (by assumption),by assumption⟩));intro v hv;cases hv;go_simp;refine hK _ ?_;clear hK K))
 rename_i a1 b1 c1 h1 r1 k1 a2 b2 c2 h2 r2 k2 r3 k3 a4 b4 c4 h4 r4 k4 a5 b5 c5 h5 r5 k5 r6 k6 a7 b7 c7 h7 r7 k7 a8 b8 c8 h8 r8 k8 xa xb xc hx
 refine Qr.walk_nil fun w5 hw5 => ?_
 have hfin:cv xa xb xc = R:=by
  rw [hx,hR.out]
  show unitF (cn .f32 r3,cn .f32 r6,cn .f32 r) = _
  rw [k3,k6,hr,k1,k2,k4,k5,k7,k8,h1,h2,h4,h5,h7,h8]
  unfold normF cv
  simp only [cn_zero]
 clear hx k3 k6 hr k1 k2 k4 k5 k7 k8 h1 h2 h4 h5 h7 h8 hR
 have W5b:=below_step W1b hw5
 have hkept:=keep hkept hw5
 have hK:=hkept;simp only [Kept,ka,kb,kc,kd,ke,kfa,kga] at hK
 go_wp2_with fail
 exact bodyPost_ret (v:=V3 xa xb xc) (by simp [results,Tryz.results164,go_sem,hK,World.cell?_setCell_other,World.cell?_setCell_same'];first | done | exact ⟨rfl,rfl,rfl⟩) rfl ⟨xa,xb,xc,rfl,hfin,bel3 W5b (by omega) _ _ _⟩
end Go.Proofs.YtbiacfkiakddiaaGreat

namespace Go.Proofs.YtbiacfkiakddiaaGreat
open Go.RowKit Go.Fl
def fi (k:Int):Nat:=cn .f32 (floatOfInt .f32 k)
def sharF (x k:Int):Nat:=B .mul (B .quo (B .add (fi x) (cn .f32 1056964608)) (fi k)) (cn .f32 1073741824)
def uF (x nx ny:Int) (wd:Nat):Nat:=B .mul (B .mul (B .sub (sharF x nx) (cn .f32 1065353216)) wd) (B .quo (fi nx) (fi ny))
def vF (y ny:Int) (wd:Nat):Nat:=B .mul (B .sub (cn .f32 1065353216) (sharF y ny)) wd
def wayP (f t:Nat × Nat × Nat) (wd:Nat) (nx ny x y:Int):Nat × Nat × Nat:=addV (addV (fwdV f t) (scaleV (rightV f t) (uF x nx ny wd))) (scaleV (crossV (rightV f t) (fwdV f t)) (vF y ny wd))
theorem way_mk {f t:Nat × Nat × Nat} {wd:Nat} {nx ny x y:Int} {a b c d e u p:Nat × Nat × Nat} {r s:Nat} (h1:a = rightV f t) (h2:b = crossV (rightV f t) (fwdV f t)) (h3:c = fwdV f t) (hr:r = uF x nx ny wd) (hs:s = vF y ny wd)
  (h4:d = scaleV a r) (h5:e = addV c d) (h6:u = scaleV b s) (h7:p = addV e u):p = wayP f t wd nx ny x y:=by
 rw [h7,h6,h5,h4,h3,h2,h1,hr,hs];rfl

set_option maxRecDepth 100000 in
set_option maxHeartbeats 1000000 in
theorem share_any (x k:Int) (w:World) :
  Calls Tryz.prog 245 #[.int .i64 x,.int .i64 k] w (Ret .f32 (sharF x k) w):=by
 go_enter Tryz.func245,Tryz.ntmps245
 go_wp2_with (refine wp_bin rfl _ _ _ _ _ rfl _ _ _ rfl rfl rfl ?_;intro r n hr)
 go_ret
 exact ⟨_,rfl,by simp only [*];rfl,(by repeat' (first | exact Below.refl _ _ | exact Nat.le_refl _ | refine below_drewN ?_ _ | refine Below.alloc ?_ (by simp <;> omega) _ | refine Below.setCell ?_ (by simp <;> omega) _ | refine below_step ?_ (by assumption)))⟩

inductive PhiSh (fo:FuncId):FuncId → Array Value → Value → Prop
 | share (x k:Int) (r:Nat) (h:cn .f32 r = sharF x k):PhiSh fo fo #[.int .i64 x,.int .i64 k] (F1 r)
inductive PhiWa (fs fa:FuncId):FuncId → Array Value → Value → Prop
 | scale (x y z f a b c:Nat) (h:cv a b c = scaleV (cv x y z) (cn .f32 f)):PhiWa fs fa fs #[V3 x y z,F1 f] (V3 a b c)
 | add (x y z x' y' z' a b c:Nat) (h:cv a b c = addV (cv x y z) (cv x' y' z')):PhiWa fs fa fa #[V3 x y z,V3 x' y' z'] (V3 a b c)

/-- A ray comes back. -/
def RetRay (a b c:Nat) (W:Nat × Nat × Nat) (w:World) (e:Ending) (w':World):Prop:=∃ x y z,e = .returned (.agg #[F1 a,F1 b,F1 c,F1 x,F1 y,F1 z]) ∧ cv x y z = W ∧ Below w.heap.size w w'

set_option maxRecDepth 100000 in
set_option maxHeartbeats 4000000 in
theorem cray_any (a b c d e f wd:Nat) (nx ny x y:Int) (cb c0:Nat) (w:World) (hc:CamIn a b c d e f wd nx ny cb c0 w) :
  Calls Tryz.prog 172 #[.pointer (some ⟨cb,c0,none⟩),.int .i64 x,.int .i64 y] w (RetRay a b c (wayP (cv a b c) (cv d e f) (cn .f32 wd) nx ny x y) w):=by
 obtain ⟨R,hR⟩:∃ R,Hid (R = wayP (cv a b c) (cv d e f) (cn .f32 wd) nx ny x y):=⟨_,rfl⟩
 rw [← hR.out]
 have hax:∀ w',Below w.heap.size w w' → Calls Tryz.prog 243 #[.pointer (some ⟨cb,c0,none⟩)] w' (RetAx (axesV (cv a b c) (cv d e f)) w'):=fun w' hb => axes_any a b c d e f wd nx ny cb c0 w' (hc.keep hb)
 go_enter Tryz.func172,Tryz.ntmps172
 go_upto_region 1 with fail
 generalize hW:w.alloc (.cells #[F1 0,F1 0,F1 0,F1 0,F1 0,F1 0] 225) = W1 at *
 have W1b:Below w.heap.size w W1:=by subst hW;exact (by repeat' (first | exact Below.refl _ _ | exact Nat.le_refl _ | refine below_drewN ?_ _ | refine Below.alloc ?_ (by simp <;> omega) _ | refine Below.setCell ?_ (by simp <;> omega) _ | refine below_step ?_ (by assumption)))
 have hkept:Kept [(⟨w.heap.size,0,none⟩,F1 0),(⟨w.heap.size,1,none⟩,F1 0),(⟨w.heap.size,2,none⟩,F1 0),(⟨w.heap.size,3,none⟩,F1 0),(⟨w.heap.size,4,none⟩,F1 0),(⟨w.heap.size,5,none⟩,F1 0)] [⟨w.heap.size,0,none⟩,⟨w.heap.size,1,none⟩,⟨w.heap.size,2,none⟩,⟨w.heap.size,3,none⟩,⟨w.heap.size,4,none⟩,⟨w.heap.size,5,none⟩] W1:=by
  subst hW;simp only [Kept,ka,kb,kc,kd,ke,kfa,kga];(first | (go_simp;done) | (simp [World.cell?,World.frozen?,World.alloc,Array.getElem?_push];done))
 clear hW
 have hkept:=kept_app (keep hc.kept W1b) hkept
 clear hc
 go_upto_region 2 with (go_at_call 243;refine (hax _ W1b).mono ?_;rintro _ w2 ⟨a1,b1,c1,a2,b2,c2,a3,b3,c3,rfl,e1,e2,e3,hb1⟩;have W1b:=below_step W1b hb1;have hkept:=keepT hkept hb1 rfl)
 rw [ax1] at e1
 rw [ax2] at e2
 rw [ax3] at e3
 clear hax
 have hb2:Below w2.heap.size w2 (((w2.alloc (.cells #[F1 a1,F1 b1,F1 c1] 38)).alloc (.cells #[F1 a2,F1 b2,F1 c2] 38)).alloc (.cells #[F1 a3,F1 b3,F1 c3] 38)):=(by repeat' (first | exact Below.refl _ _ | exact Nat.le_refl _ | refine below_drewN ?_ _ | refine Below.alloc ?_ (by simp <;> omega) _ | refine Below.setCell ?_ (by simp <;> omega) _ | refine below_step ?_ (by assumption)))
 have hkept:=kept_app (keep hkept hb2) (show Kept [(⟨w2.heap.size,0,none⟩,F1 a1),(⟨w2.heap.size,1,none⟩,F1 b1),(⟨w2.heap.size,2,none⟩,F1 c1),(⟨w2.heap.size + 1,0,none⟩,F1 a2),(⟨w2.heap.size + 1,1,none⟩,F1 b2),(⟨w2.heap.size + 1,2,none⟩,F1 c2),(⟨w2.heap.size + 1 + 1,0,none⟩,F1 a3),(⟨w2.heap.size + 1 + 1,1,none⟩,F1 b3),(⟨w2.heap.size + 1 + 1,2,none⟩,F1 c3)] [] (((w2.alloc (.cells #[F1 a1,F1 b1,F1 c1] 38)).alloc (.cells #[F1 a2,F1 b2,F1 c2] 38)).alloc (.cells #[F1 a3,F1 b3,F1 c3] 38)) by simp only [Kept,ka,kb,kc,kd,ke,kfa,kga];(first | (go_simp;done) | (simp [World.cell?,World.frozen?,World.alloc,Array.getElem?_push];done)))
 have W1b:=below_step W1b hb2
 generalize (((w2.alloc (.cells #[F1 a1,F1 b1,F1 c1] 38)).alloc (.cells #[F1 a2,F1 b2,F1 c2] 38)).alloc (.cells #[F1 a3,F1 b3,F1 c3] 38)) = w3 at *
 clear hb2 hb1
 refine Qr.wp_below_all (by kernel_rfl) (by kernel_rfl) (PhiSh 245) ?_
 repeat (first
  | (refine Qr.walk_plain rfl fun K hK => ?_;refine one_bin _ _ _ _ _ rfl _ _ _ rfl rfl rfl (fun r hr => ?_);go_simp;refine hK _ ?_;clear hK K)
  | (refine Qr.walk_plain rfl fun K hK => ?_;apply Qr.one_det;(focus (intro w' hw';have HK:=keep hkept hw';simp only [Kept,ka,kb,kc,kd,ke,kfa,kga] at HK;go_simp;first | done | rfl));go_simp;refine hK _ ?_;clear hK K)
  | (refine Qr.walk_plain rfl fun K hK => ?_;apply Qr.one_call;(focus (intro w' hw';go_simp;first | done | exact ⟨rfl,rfl⟩));(focus (intro w' hw'; go_at_call 245;refine (share_any _ _ _).mono ?_;rintro _ w4 ⟨r1,rfl,hr1,hb1⟩;exact ⟨_,rfl,.share _ _ _ hr1,below_step hw' (by assumption),by assumption⟩));intro v hv;cases hv;go_simp;refine hK _ ?_;clear hK K))
 rename_i s1 k1 s2 k2 s3 k3 s4 k4
 refine Qr.walk_nil fun w4 hw4 => ?_
 have hu:cn .f32 r = uF x nx ny (cn .f32 wd):=by rw [hr,k3,k2,k1,k4];rfl
 clear hr k1 k2 k3 k4
 generalize r = ru at *
 have hkept:=keep hkept hw4
 have W1b:=below_step W1b hw4
 clear hw4
 go_upto_region 3 with fail
 refine Qr.wp_below_all (by kernel_rfl) (by kernel_rfl) (PhiSh 245) ?_
 repeat (first
  | (refine Qr.walk_plain rfl fun K hK => ?_;refine one_bin _ _ _ _ _ rfl _ _ _ rfl rfl rfl (fun r hr => ?_);go_simp;refine hK _ ?_;clear hK K)
  | (refine Qr.walk_plain rfl fun K hK => ?_;apply Qr.one_det;(focus (intro w' hw';have HK:=keep hkept hw';simp only [Kept,ka,kb,kc,kd,ke,kfa,kga] at HK;go_simp;first | done | rfl));go_simp;refine hK _ ?_;clear hK K)
  | (refine Qr.walk_plain rfl fun K hK => ?_;apply Qr.one_call;(focus (intro w' hw';go_simp;first | done | exact ⟨rfl,rfl⟩));(focus (intro w' hw'; go_at_call 245;refine (share_any _ _ _).mono ?_;rintro _ w4 ⟨r1,rfl,hr1,hb1⟩;exact ⟨_,rfl,.share _ _ _ hr1,below_step hw' (by assumption),by assumption⟩));intro v hv;cases hv;go_simp;refine hK _ ?_;clear hK K))
 rename_i s1 k1 s2 k2
 refine Qr.walk_nil fun w5 hw5 => ?_
 have hv:cn .f32 r = vF y ny (cn .f32 wd):=by rw [hr,k2,k1];rfl
 clear hr k1 k2
 generalize r = rv at *
 have hkept:=keep hkept hw5
 have W1b:=below_step W1b hw5
 clear hw5
 go_upto_region 4 with fail
 refine Qr.wp_below 14 (by kernel_rfl) (by kernel_rfl) (PhiWa 233 232) ?_
 repeat (first
  | (refine Qr.walk_plain rfl fun K hK => ?_;apply Qr.one_det;(focus (intro w' hw';have HK:=keep hkept hw';simp only [Kept,ka,kb,kc,kd,ke,kfa,kga] at HK;go_simp;first | done | rfl));go_simp;refine hK _ ?_;clear hK K)
  | (refine Qr.walk_plain rfl fun K hK => ?_;apply Qr.one_call;(focus (intro w' hw';go_simp;first | done | exact ⟨rfl,rfl⟩));(focus (intro w' hw'; go_at_call 233;refine (scale_any _ _ _ _ _).mono ?_;rintro _ w3 ⟨r1,r2,r3,rfl,hr1,hr2,hr3,hb1⟩;exact ⟨_,rfl,.scale _ _ _ _ _ _ _ (v3_mk hr1 hr2 hr3),below_step hw' (by assumption),by assumption⟩));intro v hv;cases hv;go_simp;refine hK _ ?_;clear hK K)
  | (refine Qr.walk_plain rfl fun K hK => ?_;apply Qr.one_call;(focus (intro w' hw';go_simp;first | done | exact ⟨rfl,rfl⟩));(focus (intro w' hw'; go_at_call 232;refine (add_any _ _ _ _ _ _ _).mono ?_;rintro _ w3 ⟨r1,r2,r3,rfl,hr1,hr2,hr3,hb1⟩;exact ⟨_,rfl,.add _ _ _ _ _ _ _ _ _ (v3_mk hr1 hr2 hr3),below_step hw' (by assumption),by assumption⟩));intro v hv;cases hv;go_simp;refine hK _ ?_;clear hK K))
 rename_i p1 p2 p3 k1 q1 q2 q3 k2 x1 x2 x3 k3 y1 y2 y3 k4
 refine Qr.walk_nil fun w6 hw6 => ?_
 have hfin:cv y1 y2 y3 = R:=by rw [hR.out];exact way_mk e1 e2 e3 hu hv k1 k2 k3 k4
 clear k1 k2 k3 k4 e1 e2 e3 hu hv hR
 have hkept:=keep hkept hw6
 have W1b:=below_step W1b hw6
 have hK:=hkept;simp only [Kept,ka,kb,kc,kd,ke,kfa,kga] at hK
 go_wp2_with fail
 exact bodyPost_ret (v:=.agg #[F1 a,F1 b,F1 c,F1 y1,F1 y2,F1 y3]) (by simp [results,Tryz.results172,go_sem,hK,World.cell?_setCell_other,World.cell?_setCell_same'];first | done | (repeat' constructor)) rfl ⟨y1,y2,y3,rfl,hfin,bel6 W1b (Nat.le_refl _) _ _ _ _ _ _⟩
end Go.Proofs.YtbiacfkiakddiaaGreat

namespace Go.Proofs.YtbiacfkiakddiaaGreat
open Go.RowKit Go.Fl
set_option maxRecDepth 100000 in
set_option maxHeartbeats 4000000 in
theorem s_cray_any (a b c d e f wd:Nat) (nx ny x y:Int) (cb c0:Nat) (w:World) (hc:CamIn a b c d e f wd nx ny cb c0 w) :
  Calls Tryz.prog 161 #[.pointer (some ⟨cb,c0,none⟩),.int .i64 x,.int .i64 y] w (RetRay a b c (wayP (cv a b c) (cv d e f) (cn .f32 wd) nx ny x y) w):=by
 obtain ⟨R,hR⟩:∃ R,Hid (R = wayP (cv a b c) (cv d e f) (cn .f32 wd) nx ny x y):=⟨_,rfl⟩
 rw [← hR.out]
 have hax:∀ w',Below w.heap.size w w' → Calls Tryz.prog 238 #[.pointer (some ⟨cb,c0,none⟩)] w' (RetAx (axesV (cv a b c) (cv d e f)) w'):=fun w' hb => s_axes_any a b c d e f wd nx ny cb c0 w' (hc.keep hb)
 go_enter Tryz.func161,Tryz.ntmps161
 go_upto_region 1 with fail
 generalize hW:w.alloc (.cells #[F1 0,F1 0,F1 0,F1 0,F1 0,F1 0] 225) = W1 at *
 have W1b:Below w.heap.size w W1:=by subst hW;exact (by repeat' (first | exact Below.refl _ _ | exact Nat.le_refl _ | refine below_drewN ?_ _ | refine Below.alloc ?_ (by simp <;> omega) _ | refine Below.setCell ?_ (by simp <;> omega) _ | refine below_step ?_ (by assumption)))
 have hkept:Kept [(⟨w.heap.size,0,none⟩,F1 0),(⟨w.heap.size,1,none⟩,F1 0),(⟨w.heap.size,2,none⟩,F1 0),(⟨w.heap.size,3,none⟩,F1 0),(⟨w.heap.size,4,none⟩,F1 0),(⟨w.heap.size,5,none⟩,F1 0)] [⟨w.heap.size,0,none⟩,⟨w.heap.size,1,none⟩,⟨w.heap.size,2,none⟩,⟨w.heap.size,3,none⟩,⟨w.heap.size,4,none⟩,⟨w.heap.size,5,none⟩] W1:=by
  subst hW;simp only [Kept,ka,kb,kc,kd,ke,kfa,kga];(first | (go_simp;done) | (simp [World.cell?,World.frozen?,World.alloc,Array.getElem?_push];done))
 clear hW
 have hkept:=kept_app (keep hc.kept W1b) hkept
 clear hc
 go_upto_region 2 with (go_at_call 238;refine (hax _ W1b).mono ?_;rintro _ w2 ⟨a1,b1,c1,a2,b2,c2,a3,b3,c3,rfl,e1,e2,e3,hb1⟩;have W1b:=below_step W1b hb1;have hkept:=keepT hkept hb1 rfl)
 rw [ax1] at e1
 rw [ax2] at e2
 rw [ax3] at e3
 clear hax
 have hb2:Below w2.heap.size w2 (((w2.alloc (.cells #[F1 a1,F1 b1,F1 c1] 38)).alloc (.cells #[F1 a2,F1 b2,F1 c2] 38)).alloc (.cells #[F1 a3,F1 b3,F1 c3] 38)):=(by repeat' (first | exact Below.refl _ _ | exact Nat.le_refl _ | refine below_drewN ?_ _ | refine Below.alloc ?_ (by simp <;> omega) _ | refine Below.setCell ?_ (by simp <;> omega) _ | refine below_step ?_ (by assumption)))
 have hkept:=kept_app (keep hkept hb2) (show Kept [(⟨w2.heap.size,0,none⟩,F1 a1),(⟨w2.heap.size,1,none⟩,F1 b1),(⟨w2.heap.size,2,none⟩,F1 c1),(⟨w2.heap.size + 1,0,none⟩,F1 a2),(⟨w2.heap.size + 1,1,none⟩,F1 b2),(⟨w2.heap.size + 1,2,none⟩,F1 c2),(⟨w2.heap.size + 1 + 1,0,none⟩,F1 a3),(⟨w2.heap.size + 1 + 1,1,none⟩,F1 b3),(⟨w2.heap.size + 1 + 1,2,none⟩,F1 c3)] [] (((w2.alloc (.cells #[F1 a1,F1 b1,F1 c1] 38)).alloc (.cells #[F1 a2,F1 b2,F1 c2] 38)).alloc (.cells #[F1 a3,F1 b3,F1 c3] 38)) by simp only [Kept,ka,kb,kc,kd,ke,kfa,kga];(first | (go_simp;done) | (simp [World.cell?,World.frozen?,World.alloc,Array.getElem?_push];done)))
 have W1b:=below_step W1b hb2
 generalize (((w2.alloc (.cells #[F1 a1,F1 b1,F1 c1] 38)).alloc (.cells #[F1 a2,F1 b2,F1 c2] 38)).alloc (.cells #[F1 a3,F1 b3,F1 c3] 38)) = w3 at *
 clear hb2 hb1
 have hK:=hkept;simp only [Kept,ka,kb,kc,kd,ke,kfa,kga] at hK
 go_upto_region 4 with fail
 go_upto_region 5 with (refine wp_bin rfl _ _ _ _ _ rfl _ _ _ rfl rfl rfl ?_;intro r n hr)
 rename_i s1 m1 k1 s2 m2 k2 s3 m3 k3 _ _
 have hu1:cn .f32 r = B .sub (sharF x nx) (cn .f32 1065353216):=by rw [hr,k3,k2,k1];rfl
 generalize r = ru at *
 generalize n = n1 at *
 clear hr k1 k2 k3
 go_upto_region 6 with (refine wp_bin rfl _ _ _ _ _ rfl _ _ _ rfl rfl rfl ?_;intro r n hr)
 rename_i s1 l1 k1 s2 l2 k2 _ _
 have hu:cn .f32 r = uF x nx ny (cn .f32 wd):=by rw [hr,k2,k1,hu1];rfl
 generalize r = rw at *
 generalize n = n2 at *
 clear hr k1 k2 hu1
 go_upto_region 8 with (refine wp_bin rfl _ _ _ _ _ rfl _ _ _ rfl rfl rfl ?_;intro r n hr)
 rename_i s1 q1 k1 s2 q2 k2 s3 q3 k3 s4 q4 k4 _ _
 have hv:cn .f32 r = vF y ny (cn .f32 wd):=by rw [hr,k4,k3,k2,k1];rfl
 generalize r = rv at *
 clear hr k1 k2 k3 k4 hK
 have hkept:=kept_drewN hkept (m1 + m2 + m3 + n1 + l1 + l2 + n2 + q1 + q2 + q3 + q4 + n)
 have W1b:=below_drewN W1b (m1 + m2 + m3 + n1 + l1 + l2 + n2 + q1 + q2 + q3 + q4 + n)
 generalize w3.drewN (m1 + m2 + m3 + n1 + l1 + l2 + n2 + q1 + q2 + q3 + q4 + n) = w4 at *
 refine Qr.wp_made 10 9 14 #[F1 0,F1 0,F1 0] 38 (by kernel_rfl) (by kernel_rfl) (PhiWa 229 228) rfl (by kernel_rfl) ⟨_,rfl,rfl,fun a w => by go_simp⟩ (by kernel_rfl) ?_
 repeat (first
  | (refine Qr.walk_plain rfl fun K hK => ?_;apply Qr.one_det;(focus (intro w' hw';have HK:=keep hkept hw';simp only [Kept,ka,kb,kc,kd,ke,kfa,kga] at HK;go_simp;first | done | rfl));go_simp;refine hK _ ?_;clear hK K)
  | (refine Qr.walk_plain rfl fun K hK => ?_;refine Qr.one_rel (fun v => ∃ g,v = .pointer (some ⟨g,0,none⟩)) (fun w' hw' => ⟨.pointer (some ⟨w'.heap.size,0,none⟩),_,by go_simp;rfl,⟨_,rfl⟩,hw'.alloc hw'.size _,(Below.refl _ _).alloc (Nat.le_refl _) _⟩) (fun v hv => ?_);obtain ⟨g,rfl⟩:=hv;go_simp;refine hK _ ?_;clear hK K)
  | (refine Qr.walk_plain rfl fun K hK => ?_;apply Qr.one_call;(focus (intro w' hw';go_simp;first | done | exact ⟨rfl,rfl⟩));(focus (intro w' hw'; go_at_call 229;refine (s_scale_any _ _ _ _ _).mono ?_;rintro _ w3 ⟨r1,r2,r3,rfl,hr1,hr2,hr3,hb1⟩;exact ⟨_,rfl,.scale _ _ _ _ _ _ _ (v3_mk hr1 hr2 hr3),below_step hw' (by assumption),by assumption⟩));intro v hv;cases hv;go_simp;refine hK _ ?_;clear hK K)
  | (refine Qr.walk_plain rfl fun K hK => ?_;apply Qr.one_call;(focus (intro w' hw';go_simp;first | done | exact ⟨rfl,rfl⟩));(focus (intro w' hw'; go_at_call 228;refine (s_add_any _ _ _ _ _ _ _).mono ?_;rintro _ w3 ⟨r1,r2,r3,rfl,hr1,hr2,hr3,hb1⟩;exact ⟨_,rfl,.add _ _ _ _ _ _ _ _ _ (v3_mk hr1 hr2 hr3),below_step hw' (by assumption),by assumption⟩));intro v hv;cases hv;go_simp;refine hK _ ?_;clear hK K))
 rename_i p1 p2 p3 k1 q1 q2 q3 k2 x1 x2 x3 k3 y1 y2 y3 k4
 refine Qr.walk_nil fun w6 hw6 hmade => ?_
 have hfin:cv y1 y2 y3 = R:=by rw [hR.out];exact way_mk e1 e2 e3 hu hv k1 k2 k3 k4
 clear k1 k2 k3 k4 e1 e2 e3 hu hv hR
 obtain ⟨g3,hg3,hgw,hgc⟩:=hmade _ rfl
 injection hg3 with hg3
 injection hg3 with hg3
 subst hg3
 obtain ⟨hc0,hc1,hc2,hf0,hf1,hf2⟩:=cells3 hgc
 go_upto_region 9 with fail
 have hset:=set3 hgc (F1 y1) (F1 y2) (F1 y3)
 have hbw:=hw6.trans (hset.2.mono hgw)
 clear hc0 hc1 hc2 hf0 hf1 hf2 hgc hw6
 generalize ((w6.setCell ⟨g,0,none⟩ (F1 y1)).setCell ⟨g,1,none⟩ (F1 y2)).setCell ⟨g,2,none⟩ (F1 y3) = w7 at hset hbw ⊢
 have hkept:=kept_app (keep hkept hbw) (kept3 hset.1)
 have W1b:=below_step W1b hbw
 clear hset hbw hgw
 refine Qr.wp_below 6 (by kernel_rfl) (by kernel_rfl) (PhiWa 229 228) ?_
 repeat (refine Qr.walk_plain rfl fun K hK => ?_;apply Qr.one_det;(focus (intro w' hw';have HK:=keep hkept hw';simp only [Kept,ka,kb,kc,kd,ke,kfa,kga] at HK;go_simp;first | done | rfl));go_simp;refine hK _ ?_;clear hK K)
 refine Qr.walk_nil fun w8 hw8 => ?_
 have hkept:=keep hkept hw8
 have W1b:=below_step W1b hw8
 have hK:=hkept;simp only [Kept,ka,kb,kc,kd,ke,kfa,kga] at hK
 go_wp2_with fail
 exact bodyPost_ret (v:=.agg #[F1 a,F1 b,F1 c,F1 y1,F1 y2,F1 y3]) (by simp [results,Tryz.results161,go_sem,hK,World.cell?_setCell_other,World.cell?_setCell_same'];first | done | (repeat' constructor)) rfl ⟨y1,y2,y3,rfl,hfin,bel6 W1b (Nat.le_refl _) _ _ _ _ _ _⟩
end Go.Proofs.YtbiacfkiakddiaaGreat
