/-
 Lemmas: D1,D19,D20,D2.
-/
import Derived.Test.YtbiacfkiakddiaaGreatObr
import Derived.Test.YtbiacfkiakddiaaGreatObs
set_option linter.unusedVariables false
set_option linter.unusedSimpArgs false
namespace Go.Proofs.YtbiacfkiakddiaaGreat
open Go.RowKit Go.Fl Ieee
theorem top_zv {ns:List PN} (ht:Tree ns) {q p:V} (h:Zv q p):Zw .f32 (topF ns q) (atS ns p):=by
 obtain ⟨h1,h2⟩:=pts_inv ht p ns.length (Nat.le_refl _)
 have hl:=ht.len.1
 refine dist_same ht (fun j h => h2 j h (by omega)) ns.length (ns.length - 1) (by omega) q (by omega) ?_
 rw [h1];exact h

theorem Zw.symm {k:FloatKind} {x y:Nat} (h:Zw k x y):Zw k y x:=Zd.symm h
theorem Zw.eqk {k:FloatKind} {x x' y y':Nat} (hx:Zw k x x') (hy:Zw k y y'):eqk k x y = eqk k x' y':=by unfold Fl.eqk;rw [Zw.order hx hy]
theorem Zw.lek {k:FloatKind} {x x' y y':Nat} (hx:Zw k x x') (hy:Zw k y y'):lek k x y = lek k x' y':=by unfold Fl.lek;rw [Zw.order hx hy]
theorem zw_finB {x x':Nat} (h:Zw .f32 x x'):finB x = finB x':=by
 unfold Go.Proofs.YtbiacfkiakddiaaGreat.finB
 exact Zw.eqk (Zw.sub h h) (Zw.refl _ 0)
theorem Zv.add {p p' q q':Nat × Nat × Nat} (h:Zv p p') (k:Zv q q'):Zv (addV p q) (addV p' q'):=⟨h.1.add k.1,h.2.1.add k.2.1,h.2.2.add k.2.2⟩
theorem Zv.less {p p' q q':Nat × Nat × Nat} (h:Zv p p') (k:Zv q q'):Zv (lessV p q) (lessV p' q'):=⟨h.1.sub k.1,h.2.1.sub k.2.1,h.2.2.sub k.2.2⟩
theorem Zv.scale {p p':Nat × Nat × Nat} {f f':Nat} (h:Zv p p') (k:Zw .f32 f f'):Zv (scaleV p f) (scaleV p' f'):=⟨h.1.mul k,h.2.1.mul k,h.2.2.mul k⟩
theorem Zv.long {p p':Nat × Nat × Nat} (h:Zv p p'):Zw .f32 (longF p.1 p.2.1 p.2.2) (longF p'.1 p'.2.1 p'.2.2):=Zw.long h.1 h.2.1 h.2.2
theorem Zv.unit {p p':Nat × Nat × Nat} (h:Zv p p'):Zv (unitF p) (unitF p'):=by
 have hl:=h.long
 have he:eqk .f32 (longF p.1 p.2.1 p.2.2) 0 = eqk .f32 (longF p'.1 p'.2.1 p'.2.2) 0:=Zw.eqk hl (Zw.refl _ 0)
 unfold unitF
 rw [← he]
 cases h0:eqk .f32 (longF p.1 p.2.1 p.2.2) 0
 ·have hd:FloatKind.f32.decode (longF p.1 p.2.1 p.2.2) = FloatKind.f32.decode (longF p'.1 p'.2.1 p'.2.2):=by
   rcases hl with hd | ⟨s,t,q,hd,_⟩
   ·exact hd
   ·have hq:=zero_place hd
    subst hq
    have hz:Zw .f32 (longF p.1 p.2.1 p.2.2) 0:=.inr ⟨s,false,_,hd,by kernel_rfl⟩
    rw [Zw.eqk hz (Zw.refl _ 0)] at h0
    exact absurd h0 (by decide +kernel)
  have ho:oneL p = oneL p':=by unfold oneL;rw [B,B,bin_quo,bin_quo,hd]
  rw [zw_finB hl,ho]
  split
  ·exact Zv.refl _
  ·exact h.scale (Zw.refl _ _)
 ·simp only [Bool.true_or,if_true]
  exact Zv.refl _
theorem Zv.on {f f' t t':Nat × Nat × Nat} (hf:Zv f f') (ht:Zv t t') (far:Nat):Zv (onF f t far) (onF f' t' far):=hf.add (ht.unit.scale (Zw.refl _ _))
theorem Zv.way {p p':Nat × Nat × Nat} (h:Zv p p'):wayF p = wayF p':=by
 unfold wayF
 rw [Zw.eqk h.1 h.1,Zw.eqk h.2.1 h.2.1,Zw.eqk h.2.2 h.2.2,Zw.eqk h.1 (Zw.refl _ 0),Zw.eqk h.2.1 (Zw.refl _ 0),Zw.eqk h.2.2 (Zw.refl _ 0)]
theorem Zv.ray {f f' t t':Nat × Nat × Nat} (hf:Zv f f') (ht:Zv t t'):rayOk f t = rayOk f' t':=by
 unfold rayOk vfin
 rw [zw_finB hf.1,zw_finB hf.2.1,zw_finB hf.2.2,ht.unit.way]

/-- A march from points that are alike. -/
theorem march_zv {D D':Nat × Nat × Nat → Nat} (hD:∀ q q',Zv q q' → Zw .f32 (D q) (D' q')) {f f' t t':Nat × Nat × Nat} (hf:Zv f f') (ht:Zv t t') (sl:Nat) {near most most':Nat} (hn:gtk .f32 near 0 = true) (hm:(FloatKind.f32.decode most).isNaN = false) (hmm:Zw .f32 most most') :
  ∀ (m k far:Nat),marchGs D' f' t' sl near most' m k far = marchGo D f t sl near most m k far
 | 0,_,_ => rfl
 | m + 1,k,far => by
  have hd:=hD _ _ (hf.on ht far)
  rw [marchGs,marchGo,Zw.ltk hd (Zw.refl _ near)]
  cases hl:ltk .f32 (D' (onF f' t' far)) near
  ·have he:B .quo (D (onF f t far)) sl = B .quo (D' (onF f' t' far)) sl:=by
    rcases hd with h | ⟨s,u,p,h,h'⟩
    ·rw [B,B,bin_quo,bin_quo,h]
    ·rw [near_zero h' hn] at hl;cases hl
   have hm':(FloatKind.f32.decode most').isNaN = false:=by
    rcases hmm with h | ⟨s,u,p,_,h'⟩
    ·rw [← h];exact hm
    ·rw [h'];rfl
   rw [he,le_cond hm',Zw.lek (Zw.refl _ _) (Zw.symm hmm),march_zv hD hf ht sl hn hm hmm]
   cases lek .f32 (B .add far (B .quo (D' (onF f' t' far)) sl)) most <;> rfl
  ·rfl

theorem Zv.from {p p' n n':Nat × Nat × Nat} (hp:Zv p p') (hn:Zv n n') (near:Nat):Zv (fromF p n near) (fromF p' n' near):=hp.add (hn.scale (Zw.refl _ _))
theorem Zv.wayT {p p' n n':Nat × Nat × Nat} (hp:Zv p p') (hn:Zv n n') (l:Nat × Nat × Nat) (near:Nat):Zv (wayT p n l near) (wayT p' n' l near):=(Zv.refl l).less (hp.from hn near)
theorem lesser_no {most lo:Nat} (hm:(FloatKind.f32.decode most).isNaN = false):(FloatKind.f32.decode (lesserF most lo)).isNaN = false:=by
 unfold lesserF
 cases h:ltk .f32 lo most
 ·exact hm
 ·simp only [if_true]
  cases hn:(FloatKind.f32.decode lo).isNaN
  ·rfl
  ·unfold ltk at h
   have h1:FloatKind.f32.format.order lo most = none:=order_nan_l hn
   rw [h1] at h
   cases h
theorem shadow_zv {D D':Nat × Nat × Nat → Nat} (hD:∀ q q',Zv q q' → Zw .f32 (D q) (D' q')) {p p' n n':Nat × Nat × Nat} (hp:Zv p p') (hq:Zv n n') (l:Nat × Nat × Nat) (sl:Nat) {near most:Nat} (hn:gtk .f32 near 0 = true) (hm:(FloatKind.f32.decode most).isNaN = false) (m:Nat) :
  shadow (fun F T mo => marchGs D' F T sl near mo m 1 0) p' n' l near most = shadow (fun F T mo => marchGo D F T sl near mo m 1 0) p n l near most:=by
 have hf:=hp.from hq near
 have ht:=hp.wayT hq l near
 have hmo:Zw .f32 (mostT p n l near most) (mostT p' n' l near most):=(Zw.refl _ most).lesser ht.long
 unfold shadow
 rw [← hf.ray ht]
 simp only [march_zv hD hf ht sl hn (show (FloatKind.f32.decode (mostT p n l near most)).isNaN = false from lesser_no hm) hmo]

theorem amb_zv {D D':Nat × Nat × Nat → Nat} (hD:∀ q q',Zv q q' → Zw .f32 (D q) (D' q')) {p p' n n':Nat × Nat × Nat} (hp:Zv p p') (hn:Zv n n') (st:Nat):∀ (m j s s':Nat),Zw .f32 s s' → Zw .f32 (ambGo D capF p n st m j s) (ambGo D' capS p' n' st m j s')
 | 0,_,_,_,h => h
 | m + 1,j,s,s',h => by
  rw [ambGo,ambGo]
  exact amb_zv hD hp hn st m (j + 1) _ _ (Zw.add h (zw_cap (zw_amb (hD _ _ (hp.add (hn.scale (Zw.refl _ _)))) _)))
theorem amball_zv {D D':Nat × Nat × Nat → Nat} (hD:∀ q q',Zv q q' → Zw .f32 (D q) (D' q')) {p p' n n':Nat × Nat × Nat} (hp:Zv p p') (hn:Zv n n') (st k:Nat):ambAll D' capS p' n' st k = ambAll D capF p n st k:=by
 unfold ambAll
 exact (one_sub (Zw.quo (amb_zv hD hp hn st _ _ _ _ (Zw.refl _ _)) _)).symm

/-- The normal at a point. -/
def normF (D:Nat × Nat × Nat → Nat) (p:Nat × Nat × Nat) (st:Nat):Nat × Nat × Nat :=
 unitF (B .sub (D (addV p (st,0,0))) (D (lessV p (st,0,0))),B .sub (D (addV p (0,st,0))) (D (lessV p (0,st,0))),B .sub (D (addV p (0,0,st))) (D (lessV p (0,0,st))))
theorem norm_zv {D D':Nat × Nat × Nat → Nat} (hD:∀ q,Zw .f32 (D q) (D' q)) (p:Nat × Nat × Nat) (st:Nat):Zv (normF D p st) (normF D' p st) :=
 Zv.unit ⟨(hD _).sub (hD _),(hD _).sub (hD _),(hD _).sub (hD _)⟩
/-- How much light falls. -/
def inV (p q:Nat × Nat × Nat):Nat:=innerF p.1 p.2.1 p.2.2 q.1 q.2.1 q.2.2
def litF (p n l:Nat × Nat × Nat) (sh:Bool × Bool):Nat :=
 if gtk .f32 (inV n (unitF (lessV l p))) 0 && !(sh.2 && sh.1) then inV n (unitF (lessV l p)) else 0
theorem lit_zv {p n n' l:Nat × Nat × Nat} (hn:Zv n n') (sh:Bool × Bool) (c:Nat):B .mul c (litF p n l sh) = B .mul c (litF p n' l sh):=by
 have hd:Zw .f32 (inV n (unitF (lessV l p))) (inV n' (unitF (lessV l p))):=Zw.inner hn.1 hn.2.1 hn.2.2 (Zw.refl _ _) (Zw.refl _ _) (Zw.refl _ _)
 unfold litF
 rw [Zw.gtk hd (Zw.refl _ 0)]
 cases hg:gtk .f32 (inV n' (unitF (lessV l p))) 0
 ·rfl
 ·cases hs:(sh.2 && sh.1)
  ·simp only [Bool.not_false,Bool.and_self,if_true]
   rcases hd with h | ⟨s,u,q,_,h'⟩
   ·rw [B,B,bin_mul,bin_mul,h]
   ·have hq:=zero_place h'
    subst hq
    have hz:Zw .f32 (inV n' (unitF (lessV l p))) 0:=.inr ⟨u,false,_,h',by kernel_rfl⟩
    rw [Zw.gtk hz (Zw.refl _ 0)] at hg
    exact absurd hg (by decide +kernel)
  ·rfl
/-- The shade of what a march has hit. -/
def shadeP (p n l:Nat × Nat × Nat) (sh:Bool × Bool) (amb:Nat):Nat:=B .add (B .mul (cn .f32 1048576000) amb) (B .mul (cn .f32 1061158912) (litF p n l sh))
end Go.Proofs.YtbiacfkiakddiaaGreat

namespace Go.Proofs.YtbiacfkiakddiaaGreat
open Go.RowKit Go.Fl Go.Ft Ieee
theorem lw_255:Lw ((8:Nat):Int) 4643176031446892544:=by
 refine ⟨false,255 * 2 ^ 45,-45,by decide +kernel,?_⟩
 rw [val_shift 255 45 (by omega),show (-45:Int) + (45:Nat) = 0 by omega]
 have h1:val 1 ((8:Nat):Int) = val (1 * 2 ^ 8) 0:=by rw [val_shift 1 8 (by omega),Int.zero_add]
 rw [h1]
 exact val_le_iff.2 (by decide)

theorem lw_share {x:Nat} (hn:(FloatKind.f32.decode x).isNaN = false) (h0:ltk .f32 x 0 = false) (h1:gtk .f32 x 1065353216 = false):Lw ((0:Nat):Int) (wid x):=by
 have c1:FloatKind.f32.decode 1065353216 = .number false 8388608 (-23):=by decide +kernel
 have c0:FloatKind.f32.decode 0 = .number false 0 (-149):=by decide +kernel
 cases hx:FloatKind.f32.decode x with
 | nan s t => rw [hx] at hn;cases hn
 | infinity s =>
  cases s
  ·have:gtk .f32 x 1065353216 = true:=by
    unfold gtk
    show ((FloatKind.f32.decode x).order (FloatKind.f32.decode 1065353216) == some .gt) = true
    rw [hx,c1];rfl
   rw [this] at h1;cases h1
  ·have:ltk .f32 x 0 = true:=by
    unfold ltk
    show ((FloatKind.f32.decode x).order (FloatKind.f32.decode 0) == some .lt) = true
    rw [hx,c0];rfl
   rw [this] at h0;cases h0
 | number s m e =>
  obtain ⟨p1,p2,p3⟩:=read_single hx
  have o1:FloatKind.f32.format.order x 1065353216 = some (compare (sval s m e) (sval false 8388608 (-23))):=by
   show (FloatKind.f32.decode x).order (FloatKind.f32.decode 1065353216) = _
   rw [hx,c1,order_val _ _ _ _ (by omega) (by omega)]
  have o0:FloatKind.f32.format.order x 0 = some (compare (sval s m e) (sval false 0 (-149))):=by
   show (FloatKind.f32.decode x).order (FloatKind.f32.decode 0) = _
   rw [hx,c0,order_val _ _ _ _ (by omega) (by omega)]
  unfold gtk at h1
  unfold ltk at h0
  rw [o1] at h1
  rw [o0] at h0
  simp only [beq_eq_false_iff_ne,ne_eq,Option.some.injEq,cmp_gt,cmp_lt] at h1 h0
  have hs0:sval false 0 (-149) = 0:=by unfold sval;simp [val_zero.2]
  rw [hs0] at h0
  have hv:val m e ≤ val 8388608 (-23):=by
   unfold sval at h0 h1
   cases s
   ·simp only [Bool.false_eq_true,if_false] at h0 h1;omega
   ·simp only [Bool.false_eq_true,if_false,if_true] at h0 h1;omega
  obtain ⟨m',e',h2,h3,h4⟩:=wid_num hx
  refine ⟨s,m',e',h2,?_⟩
  rw [h3]
  have h5:=val_shift 1 23 (e:=-23) (by omega)
  rw [Nat.one_mul] at h5
  exact Nat.le_trans hv (Nat.le_of_eq h5)

/-- The byte of a shade between 0 and 1. -/
def byteW (x:Nat):Nat:=whole .down (D .add (D .mul (wid x) 4643176031446892544) 4602678819172646912)
theorem byte_lw {x:Nat} (hn:(FloatKind.f32.decode x).isNaN = false) (h0:ltk .f32 x 0 = false) (h1:gtk .f32 x 1065353216 = false):Lw ((10:Nat):Int) (byteW x):=by
 have k1:=lw_mul (by omega) (by omega) (by omega) (lw_share hn h0 h1) lw_255
 have k2:=lw_add (by omega) (by omega) (by omega) (by omega) k1 lw_half
 have k3:Lw ((9:Nat):Int) (D .add (D .mul (wid x) 4643176031446892544) 4602678819172646912):=lw_mono (by omega) k2
 exact lw_floor (by omega) k3
theorem byte_num {x:Nat} (hn:(FloatKind.f32.decode x).isNaN = false) (h0:ltk .f32 x 0 = false) (h1:gtk .f32 x 1065353216 = false):∃ n,floatToIntVal .f64 (byteW x) .i64 = some n :=
 int_small (by omega) (byte_lw hn h0 h1)
end Go.Proofs.YtbiacfkiakddiaaGreat

namespace Go.Proofs.YtbiacfkiakddiaaGreat
open Go.RowKit Go.Fl
theorem ext_floor (args:Array Value) (w:World):(callFunc 270 args).run Tryz.prog w = ((Extern.MathFloor.toIntegral "math.archFloor" .down args).run Tryz.prog w).andThen fun v w' => .ok (.value v) w' :=
 run_callFunc_extern Tryz.func270 (by kernel_rfl) (by kernel_rfl) (by kernel_rfl) (by kernel_rfl) args w

set_option maxRecDepth 100000 in
set_option maxHeartbeats 1000000 in
theorem floor_any (t:Nat) (w:World) :
  Calls Tryz.prog 251 #[.float .f64 t] w (Ret .f64 (whole .down (cn .f64 t)) w):=by
 go_enter Tryz.func251,Tryz.ntmps251
 go_wp2_with (refine wp_entry rfl 270 _ _ rfl rfl _ ext_floor _ (run_whole _ _ _ _) ?_;rintro _ n ⟨r1,rfl,hr1⟩)
 go_ret
 exact ⟨_,rfl,hr1,(by repeat' (first | exact Below.refl _ _ | exact Nat.le_refl _ | refine below_drewN ?_ _ | refine Below.alloc ?_ (by simp <;> omega) _ | refine Below.setCell ?_ (by simp <;> omega) _ | refine below_step ?_ (by assumption)))⟩

/-- The byte of a shade. -/
def byteI (x:Nat):Int:=if !(eqk .f32 x x) || ltk .f32 x 0 then 0 else if gtk .f32 x 1065353216 then 255 else (floatToIntVal .f64 (byteW x) .i64).getD 0
theorem byte_eq (x:Nat):byteI (cn .f32 x) = if !(FloatKind.f32.format.order x x == some .eq) || (FloatKind.f32.format.order x 0 == some .lt) then 0 else if (FloatKind.f32.format.order x 1065353216 == some .gt) then 255 else (floatToIntVal .f64 (byteW (cn .f32 x)) .i64).getD 0:=by
 unfold byteI
 rw [eqk_cn,ltk_of' rfl,gtk_c (show cn .f32 1065353216 = 1065353216 by decide +kernel) rfl]
 rfl
theorem byte_fits {x r:Nat} (h1:(FloatKind.f32.format.order x x == some .eq) = true) (h2:(FloatKind.f32.format.order x 0 == some .lt) = false) (h3:(FloatKind.f32.format.order x 1065353216 == some .gt) = false) (hr:cn .f64 r = byteW (cn .f32 x)):∃ n,floatToIntVal .f64 r .i64 = some n ∧ floatToIntVal .f64 (byteW (cn .f32 x)) .i64 = some n:=by
 have hn:(FloatKind.f32.decode (cn .f32 x)).isNaN = false:=by
  rw [isNaN_cn]
  cases h:(FloatKind.f32.decode x).isNaN
  ·rfl
  ·have:FloatKind.f32.format.order x x = none:=order_nan_l h
   rw [this] at h1;cases h1
 have k0:ltk .f32 (cn .f32 x) 0 = false:=ltk_of' h2
 have k1:gtk .f32 (cn .f32 x) 1065353216 = false:=gtk_c (by decide +kernel) h3
 obtain ⟨n,h⟩:=byte_num hn k0 k1
 obtain ⟨s,m,e,hd,_⟩:=byte_lw hn k0 k1
 have hrn:(FloatKind.f64.decode r).isNaN = false:=by rw [← isNaN_cn,hr,hd];rfl
 have hrr:r = byteW (cn .f32 x):=by rw [← hr,cn_of_not hrn]
 exact ⟨n,by rw [hrr];exact h,h⟩

set_option maxRecDepth 100000 in
set_option maxHeartbeats 2000000 in
theorem byte_any (x:Nat) (w:World) :
  Calls Tryz.prog 182 #[F1 x] w (fun e w' => e = .returned (.int .i64 (byteI (cn .f32 x))) ∧ Below w.heap.size w w'):=by
 obtain ⟨U,hU⟩:∃ U,Hid (byteI (cn .f32 x) = U):=⟨_,rfl⟩
 rw [hU.out]
 have hUo:=hU.out
 rw [byte_eq] at hUo
 clear hU
 have W1b:=Below.refl w.heap.size w
 cases h1:(FloatKind.f32.format.order x x == some .eq)
 ·rw [h1] at hUo
  simp only [Bool.not_false,Bool.true_or,if_true] at hUo
  subst hUo
  go_enter Tryz.func182,Tryz.ntmps182
  go_wp2_with (go_at_call 137;refine (isnan_any _ _).mono ?_;rintro _ w2 ⟨rfl,hb1⟩;have W1b:=below_step W1b hb1;rw [h1])
  go_ret
  exact ⟨rfl,W1b⟩
 cases h2:(FloatKind.f32.format.order x 0 == some .lt)
 case true =>
  rw [h1,h2] at hUo
  simp only [Bool.or_true,if_true] at hUo
  subst hUo
  go_enter Tryz.func182,Tryz.ntmps182
  go_wp2_with (go_at_call 137;refine (isnan_any _ _).mono ?_;rintro _ w2 ⟨rfl,hb1⟩;have W1b:=below_step W1b hb1;rw [h1])
  go_ret
  exact ⟨rfl,W1b⟩
 cases h3:(FloatKind.f32.format.order x 1065353216 == some .gt)
 case true =>
  rw [h1,h2,h3] at hUo
  simp only [Bool.not_true,Bool.or_false,Bool.false_eq_true,if_false,if_true] at hUo
  subst hUo
  go_enter Tryz.func182,Tryz.ntmps182
  go_wp2_with (go_at_call 137;refine (isnan_any _ _).mono ?_;rintro _ w2 ⟨rfl,hb1⟩;have W1b:=below_step W1b hb1;rw [h1])
  go_ret
  exact ⟨rfl,W1b⟩
 rw [h1,h2,h3] at hUo
 simp only [Bool.not_true,Bool.or_false,Bool.false_eq_true,if_false] at hUo
 have hfit:=fun r => byte_fits (r:=r) h1 h2 h3
 generalize hBW:byteW (cn .f32 x) = BW at *
 have hBH:=Lib.hid hBW
 clear hBW
 go_enter Tryz.func182,Tryz.ntmps182
 go_wp2_with (first
  | (go_at_call 137;refine (isnan_any _ _).mono ?_;rintro _ w2 ⟨rfl,hb1⟩;have W1b:=below_step W1b hb1;rw [h1])
  | (refine wp_wid rfl _ _ _ rfl _ rfl ?_ ?_ fitsW_all ?_;exact some_f32;exact Tryz.underlying89;intro r n hr)
  | (refine wp_bin rfl _ _ _ _ _ rfl _ _ _ rfl rfl rfl ?_;intro r n hr)
  | (go_at_call 251;refine (floor_any _ _).mono ?_;rintro _ w3 ⟨r4,rfl,hr4,hb4⟩;obtain ⟨k,hk1,hk2⟩:=hfit r4 (by rw [← hBH.out];unfold byteW;simp only [*];rfl);have hcv:=fun w => run_convert_float_int (P:=Tryz.prog) (w:=w) 89 2 .f64 .i64 r4 k some_f64 Tryz.underlying2 hk1))
 go_ret
 exact ⟨by rw [← hUo,hk2];rfl,below_step (by exact below_drewN (by exact W1b) _) hb4⟩

theorem nan_of {x:Nat} (h:FloatKind.f32.format.order x 0 = none):(FloatKind.f32.format.order x x == some .eq) = false:=by
 cases hn:(FloatKind.f32.decode x).isNaN
 ·have h0:(FloatKind.f32.decode 0).isNaN = false:=by decide +kernel
  obtain ⟨o,ho⟩:=order_some hn h0
  have ho':FloatKind.f32.format.order x 0 = some o:=ho
  rw [h] at ho';cases ho'
 ·have h1:FloatKind.f32.format.order x x = none:=order_nan_l hn
  rw [h1];rfl
theorem not_nan {x:Nat} {o:Ordering} (h:FloatKind.f32.format.order x 0 = some o):(FloatKind.f32.format.order x x == some .eq) = true:=by
 cases hn:(FloatKind.f32.decode x).isNaN
 ·rw [order_self hn];rfl
 ·have h1:FloatKind.f32.format.order x 0 = none:=order_nan_l hn
  rw [h1] at h;cases h

set_option maxRecDepth 100000 in
set_option maxHeartbeats 2000000 in
theorem s_byte_any (x:Nat) (w:World) :
  Calls Tryz.prog 181 #[F1 x] w (fun e w' => e = .returned (.int .i64 (byteI (cn .f32 x))) ∧ Below w.heap.size w w'):=by
 obtain ⟨U,hU⟩:∃ U,Hid (byteI (cn .f32 x) = U):=⟨_,rfl⟩
 rw [hU.out]
 have hUo:=hU.out
 rw [byte_eq] at hUo
 clear hU
 have W1b:=Below.refl w.heap.size w
 cases ho:FloatKind.f32.format.order x 0 with
 | none =>
  rw [nan_of ho] at hUo
  simp only [Bool.not_false,Bool.true_or,if_true] at hUo
  subst hUo
  go_enter Tryz.func181,Tryz.ntmps181
  go_wp2_with fail
  go_ret
  exact ⟨rfl,W1b⟩
 | some o =>
  have h1:=not_nan ho
  rw [h1,ho] at hUo
  cases o with
  | lt =>
   simp only [beq_self_eq_true,Bool.or_true,if_true] at hUo
   subst hUo
   go_enter Tryz.func181,Tryz.ntmps181
   go_wp2_with fail
   go_ret
   exact ⟨rfl,W1b⟩
  | _ =>
   have h2:(FloatKind.f32.format.order x 0 == some .lt) = false:=by rw [ho];rfl
   cases h3:(FloatKind.f32.format.order x 1065353216 == some .gt)
   case true =>
    rw [h3] at hUo
    have hU2:U = 255:=hUo.symm
    subst hU2
    clear hUo h1 h2
    go_enter Tryz.func181,Tryz.ntmps181
    go_wp2_with fail
    go_ret
    exact ⟨rfl,W1b⟩
   rw [h3] at hUo
   have hU2:(floatToIntVal .f64 (byteW (cn .f32 x)) .i64).getD 0 = U:=hUo
   have hfit:=fun r => byte_fits (r:=r) h1 h2 h3
   clear hUo h1 h2
   generalize hBW:byteW (cn .f32 x) = BW at *
   have hBH:=Lib.hid hBW
   clear hBW
   go_enter Tryz.func181,Tryz.ntmps181
   go_wp2_with (first
    | (refine wp_wid rfl _ _ _ rfl _ rfl ?_ ?_ fitsW_all ?_;exact some_f32;exact Tryz.underlying89;intro r n hr)
    | (refine wp_bin rfl _ _ _ _ _ rfl _ _ _ rfl rfl rfl ?_;intro r n hr)
    | (go_at_call 251;refine (floor_any _ _).mono ?_;rintro _ w3 ⟨r4,rfl,hr4,hb4⟩;obtain ⟨k,hk1,hk2⟩:=hfit r4 (by rw [← hBH.out];unfold byteW;simp only [*];rfl);have hcv:=fun w => run_convert_float_int (P:=Tryz.prog) (w:=w) 89 2 .f64 .i64 r4 k some_f64 Tryz.underlying2 hk1))
   go_ret
   exact ⟨by rw [← hU2,hk2];rfl,below_step (by exact below_drewN (by exact W1b) _) hb4⟩
end Go.Proofs.YtbiacfkiakddiaaGreat

namespace Go.Proofs.YtbiacfkiakddiaaGreat
open Go.RowKit Go.Fl Ieee
def numD:Datum → Bool
 | .number .. => true
 | _ => false
theorem num_enc {k:FloatKind} {d:Datum} (hn:d.isNaN = false) (h:numD (k.decode (k.encode d)) = true):numD d = true:=by
 cases d with
 | nan s t => cases hn
 | infinity s => cases k <;> cases s <;> exact absurd h (by decide +kernel)
 | number s m e => rfl
theorem num_nanw (k:FloatKind):numD (k.decode (nanw k)) = false:=by cases k <;> decide +kernel
theorem num_opt {k:FloatKind} {o:Option Datum} (ho:∀ r,o = some r → r.isNaN = false) (h:numD (k.decode ((o.map k.encode).getD (nanw k))) = true):∃ r,o = some r ∧ numD r = true:=by
 cases o with
 | none => exact absurd h (by rw [Option.map_none,Option.getD_none,num_nanw];decide)
 | some r => exact ⟨r,rfl,num_enc (ho r rfl) h⟩
theorem num_add {x y:Nat} (h:numD (FloatKind.f32.decode (B .add x y)) = true):numD (FloatKind.f32.decode x) = true ∧ numD (FloatKind.f32.decode y) = true:=by
 rw [B,bin_add] at h
 obtain ⟨r,hr,h⟩:=num_opt (fun r hr => sum_not hr) h
 cases hx:FloatKind.f32.decode x with
 | nan s t => rw [hx,sum_nan_l rfl] at hr;cases hr
 | infinity s =>
  cases hy:FloatKind.f32.decode y with
  | nan u v => rw [hy,sum_nan_r rfl] at hr;cases hr
  | infinity u => rw [hx,hy] at hr;cases s <;> cases u <;> cases hr <;> cases h
  | number u n j => rw [hx,hy] at hr;cases hr;cases h
 | number s m i =>
  cases hy:FloatKind.f32.decode y with
  | nan u v => rw [hy,sum_nan_r rfl] at hr;cases hr
  | infinity u => rw [hx,hy] at hr;cases hr;cases h
  | number u n j => exact ⟨rfl,rfl⟩
theorem num_sq {x:Nat} (h:numD (FloatKind.f32.decode (B .mul x x)) = true):numD (FloatKind.f32.decode x) = true:=by
 rw [B,bin_mul] at h
 obtain ⟨r,hr,h⟩:=num_opt (fun r hr => product_not hr) h
 cases hx:FloatKind.f32.decode x with
 | nan s t => rw [hx,product_nan_l rfl] at hr;cases hr
 | infinity s => rw [hx] at hr;cases hr;cases h
 | number s m i => rfl
theorem num_mul {x y:Nat} (hx:numD (FloatKind.f32.decode x) = true) (hy:numD (FloatKind.f32.decode y) = true):(FloatKind.f32.decode (B .mul x y)).isNaN = false:=by
 rw [B,bin_mul]
 cases h:FloatKind.f32.decode x with
 | nan s t => rw [h] at hx;cases hx
 | infinity s => rw [h] at hx;cases hx
 | number s m i =>
  cases h':FloatKind.f32.decode y with
  | nan s t => rw [h'] at hy;cases hy
  | infinity s => rw [h'] at hy;cases hy
  | number u n j => exact write_not FloatKind.f32.format (d:=.number (s ^^ u) (m * n) (i + j)) rfl
theorem num_wid {x:Nat} (h:numD (FloatKind.f64.decode (wid x)) = true):numD (FloatKind.f32.decode x) = true:=by
 cases hx:FloatKind.f32.decode x with
 | nan s t => rw [wid_nan (by rw [hx];rfl),num_nanw] at h;cases h
 | infinity s => rw [wid_inf hx] at h;cases h
 | number s m i => rfl
theorem num_sqr {x:Nat} (h:numD (FloatKind.f64.decode (sqr x)) = true):numD (FloatKind.f64.decode x) = true:=by
 have h2:numD (FloatKind.f64.decode ((((FloatKind.f64.decode x).root (FloatKind.f64.format.fractionBits + 2)).map FloatKind.f64.encode).getD (nanw .f64))) = true:=h
 obtain ⟨r,hr,h⟩:=num_opt (fun r hr => root_not hr) h2
 cases hx:FloatKind.f64.decode x with
 | nan s t => rw [hx,root_nan rfl] at hr;cases hr
 | infinity s => rw [hx] at hr;cases s <;> cases hr <;> cases h
 | number s m i => rfl
theorem num_nar {x:Nat} (h:numD (FloatKind.f32.decode (nar x)) = true):numD (FloatKind.f64.decode x) = true:=by
 unfold nar at h
 cases hn:(FloatKind.f64.decode x).isNaN
 ·rw [hn] at h
  simp only [Bool.false_eq_true,if_false] at h
  exact num_enc hn h
 ·rw [hn,if_pos rfl,num_nanw] at h;cases h
theorem num_long {p:Nat × Nat × Nat} (h:finB (longF p.1 p.2.1 p.2.2) = true):numD (FloatKind.f32.decode p.1) = true ∧ numD (FloatKind.f32.decode p.2.1) = true ∧ numD (FloatKind.f32.decode p.2.2) = true:=by
 obtain ⟨s,m,e,h0⟩:=fin_num h
 have h1:numD (FloatKind.f32.decode (longF p.1 p.2.1 p.2.2)) = true:=by rw [h0];rfl
 have h2:=num_add (num_wid (num_sqr (num_nar h1)))
 have h3:=num_add h2.1
 exact ⟨num_sq h3.1,num_sq h3.2,num_sq h2.2⟩

/-- All numbers of a vector are zeros. -/
def zeroV (p:Nat × Nat × Nat):Bool:=eqk .f32 p.1 0 && eqk .f32 p.2.1 0 && eqk .f32 p.2.2 0
theorem unit_way (p:Nat × Nat × Nat):wayF (unitF p) = !zeroV (unitF p):=by
 by_cases hc:(eqk .f32 (longF p.1 p.2.1 p.2.2) 0 || !(finB (longF p.1 p.2.1 p.2.2) && finB (oneL p))) = true
 ·have:unitF p = (0,0,0):=by unfold unitF;rw [if_pos hc]
  rw [this]
  decide +kernel
 ·have hu:unitF p = scaleV p (oneL p):=by unfold unitF;rw [if_neg hc]
  rw [Bool.or_eq_true,not_or,Bool.not_eq_true,Bool.not_eq_true,Bool.not_eq_false',Bool.and_eq_true] at hc
  obtain ⟨_,h1,h2⟩:=hc
  obtain ⟨s,m,e,h3⟩:=fin_num h2
  have h4:numD (FloatKind.f32.decode (oneL p)) = true:=by rw [h3];rfl
  obtain ⟨n1,n2,n3⟩:=num_long h1
  have e1:∀ x,numD (FloatKind.f32.decode x) = true → eqk .f32 (B .mul x (oneL p)) (B .mul x (oneL p)) = true:=fun x hx => by
   unfold eqk;rw [order_self (num_mul hx h4)];rfl
  rw [hu]
  unfold wayF zeroV scaleV
  simp only [e1 _ n1,e1 _ n2,e1 _ n3,Bool.true_and,Bool.and_true]
  cases eqk .f32 (B .mul p.1 (oneL p)) 0 <;> cases eqk .f32 (B .mul p.2.1 (oneL p)) 0 <;> cases eqk .f32 (B .mul p.2.2 (oneL p)) 0 <;> rfl
end Go.Proofs.YtbiacfkiakddiaaGreat
