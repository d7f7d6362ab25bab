/-
 Lemmas: D1,D2,D5.
-/
import Derived.Test.YtbiacfkiakddiaaGreatNbr
import Derived.Test.YtbiacfkiakddiaaGreatNbs
set_option linter.unusedVariables false
set_option linter.unusedSimpArgs false
namespace Go.Proofs.YtbiacfkiakddiaaGreat
open Go.RowKit Go.Fl Ieee
theorem top_zv {ns:List PN} (ht:Tree ns) {q p:V} (h:Zv q p):Zw .f32 (topF ns q) (atS ns p):=by
 obtain ⟨h1,h2⟩:=pts_inv ht p ns.length (Nat.le_refl _)
 have hl:=ht.len.1
 refine dist_same ht (fun j h => h2 j h (by omega)) ns.length (ns.length - 1) (by omega) q (by omega) ?_
 rw [h1];exact h

theorem Zw.symm {k:FloatKind} {x y:Nat} (h:Zw k x y):Zw k y x:=Zd.symm h
theorem Zw.eqk {k:FloatKind} {x x' y y':Nat} (hx:Zw k x x') (hy:Zw k y y'):eqk k x y = eqk k x' y':=by unfold Fl.eqk;rw [Zw.order hx hy]
theorem Zw.lek {k:FloatKind} {x x' y y':Nat} (hx:Zw k x x') (hy:Zw k y y'):lek k x y = lek k x' y':=by unfold Fl.lek;rw [Zw.order hx hy]
theorem zw_finB {x x':Nat} (h:Zw .f32 x x'):finB x = finB x':=by
 unfold Go.Proofs.YtbiacfkiakddiaaGreat.finB
 exact Zw.eqk (Zw.sub h h) (Zw.refl _ 0)
theorem Zv.add {p p' q q':Nat × Nat × Nat} (h:Zv p p') (k:Zv q q'):Zv (addV p q) (addV p' q'):=⟨h.1.add k.1,h.2.1.add k.2.1,h.2.2.add k.2.2⟩
theorem Zv.less {p p' q q':Nat × Nat × Nat} (h:Zv p p') (k:Zv q q'):Zv (lessV p q) (lessV p' q'):=⟨h.1.sub k.1,h.2.1.sub k.2.1,h.2.2.sub k.2.2⟩
theorem Zv.scale {p p':Nat × Nat × Nat} {f f':Nat} (h:Zv p p') (k:Zw .f32 f f'):Zv (scaleV p f) (scaleV p' f'):=⟨h.1.mul k,h.2.1.mul k,h.2.2.mul k⟩
theorem Zv.long {p p':Nat × Nat × Nat} (h:Zv p p'):Zw .f32 (longF p.1 p.2.1 p.2.2) (longF p'.1 p'.2.1 p'.2.2):=Zw.long h.1 h.2.1 h.2.2
theorem Zv.unit {p p':Nat × Nat × Nat} (h:Zv p p'):Zv (unitF p) (unitF p'):=by
 have hl:=h.long
 have he:eqk .f32 (longF p.1 p.2.1 p.2.2) 0 = eqk .f32 (longF p'.1 p'.2.1 p'.2.2) 0:=Zw.eqk hl (Zw.refl _ 0)
 unfold unitF
 rw [← he]
 cases h0:eqk .f32 (longF p.1 p.2.1 p.2.2) 0
 ·have hd:FloatKind.f32.decode (longF p.1 p.2.1 p.2.2) = FloatKind.f32.decode (longF p'.1 p'.2.1 p'.2.2):=by
   rcases hl with hd | ⟨s,t,q,hd,_⟩
   ·exact hd
   ·have hq:=zero_place hd
    subst hq
    have hz:Zw .f32 (longF p.1 p.2.1 p.2.2) 0:=.inr ⟨s,false,_,hd,by kernel_rfl⟩
    rw [Zw.eqk hz (Zw.refl _ 0)] at h0
    exact absurd h0 (by decide +kernel)
  have ho:oneL p = oneL p':=by unfold oneL;rw [B,B,bin_quo,bin_quo,hd]
  rw [zw_finB hl,ho]
  split
  ·exact Zv.refl _
  ·exact h.scale (Zw.refl _ _)
 ·simp only [Bool.true_or,if_true]
  exact Zv.refl _
theorem Zv.on {f f' t t':Nat × Nat × Nat} (hf:Zv f f') (ht:Zv t t') (far:Nat):Zv (onF f t far) (onF f' t' far):=hf.add (ht.unit.scale (Zw.refl _ _))
theorem Zv.way {p p':Nat × Nat × Nat} (h:Zv p p'):wayF p = wayF p':=by
 unfold wayF
 rw [Zw.eqk h.1 h.1,Zw.eqk h.2.1 h.2.1,Zw.eqk h.2.2 h.2.2,Zw.eqk h.1 (Zw.refl _ 0),Zw.eqk h.2.1 (Zw.refl _ 0),Zw.eqk h.2.2 (Zw.refl _ 0)]
theorem Zv.ray {f f' t t':Nat × Nat × Nat} (hf:Zv f f') (ht:Zv t t'):rayOk f t = rayOk f' t':=by
 unfold rayOk vfin
 rw [zw_finB hf.1,zw_finB hf.2.1,zw_finB hf.2.2,ht.unit.way]

/-- A march from points that are alike. -/
theorem march_zv {D D':Nat × Nat × Nat → Nat} (hD:∀ q q',Zv q q' → Zw .f32 (D q) (D' q')) {f f' t t':Nat × Nat × Nat} (hf:Zv f f') (ht:Zv t t') (sl:Nat) {near most most':Nat} (hn:gtk .f32 near 0 = true) (hm:(FloatKind.f32.decode most).isNaN = false) (hmm:Zw .f32 most most') :
  ∀ (m k far:Nat),marchGs D' f' t' sl near most' m k far = marchGo D f t sl near most m k far
 | 0,_,_ => rfl
 | m + 1,k,far => by
  have hd:=hD _ _ (hf.on ht far)
  rw [marchGs,marchGo,Zw.ltk hd (Zw.refl _ near)]
  cases hl:ltk .f32 (D' (onF f' t' far)) near
  ·have he:B .quo (D (onF f t far)) sl = B .quo (D' (onF f' t' far)) sl:=by
    rcases hd with h | ⟨s,u,p,h,h'⟩
    ·rw [B,B,bin_quo,bin_quo,h]
    ·rw [near_zero h' hn] at hl;cases hl
   have hm':(FloatKind.f32.decode most').isNaN = false:=by
    rcases hmm with h | ⟨s,u,p,_,h'⟩
    ·rw [← h];exact hm
    ·rw [h'];rfl
   rw [he,le_cond hm',Zw.lek (Zw.refl _ _) (Zw.symm hmm),march_zv hD hf ht sl hn hm hmm]
   cases lek .f32 (B .add far (B .quo (D' (onF f' t' far)) sl)) most <;> rfl
  ·rfl

theorem Zv.from {p p' n n':Nat × Nat × Nat} (hp:Zv p p') (hn:Zv n n') (near:Nat):Zv (fromF p n near) (fromF p' n' near):=hp.add (hn.scale (Zw.refl _ _))
theorem Zv.wayT {p p' n n':Nat × Nat × Nat} (hp:Zv p p') (hn:Zv n n') (l:Nat × Nat × Nat) (near:Nat):Zv (wayT p n l near) (wayT p' n' l near):=(Zv.refl l).less (hp.from hn near)
theorem lesser_no {most lo:Nat} (hm:(FloatKind.f32.decode most).isNaN = false):(FloatKind.f32.decode (lesserF most lo)).isNaN = false:=by
 unfold lesserF
 cases h:ltk .f32 lo most
 ·exact hm
 ·simp only [if_true]
  cases hn:(FloatKind.f32.decode lo).isNaN
  ·rfl
  ·unfold ltk at h
   have h1:FloatKind.f32.format.order lo most = none:=order_nan_l hn
   rw [h1] at h
   cases h
theorem shadow_zv {D D':Nat × Nat × Nat → Nat} (hD:∀ q q',Zv q q' → Zw .f32 (D q) (D' q')) {p p' n n':Nat × Nat × Nat} (hp:Zv p p') (hq:Zv n n') (l:Nat × Nat × Nat) (sl:Nat) {near most:Nat} (hn:gtk .f32 near 0 = true) (hm:(FloatKind.f32.decode most).isNaN = false) (m:Nat) :
  shadow (fun F T mo => marchGs D' F T sl near mo m 1 0) p' n' l near most = shadow (fun F T mo => marchGo D F T sl near mo m 1 0) p n l near most:=by
 have hf:=hp.from hq near
 have ht:=hp.wayT hq l near
 have hmo:Zw .f32 (mostT p n l near most) (mostT p' n' l near most):=(Zw.refl _ most).lesser ht.long
 unfold shadow
 rw [← hf.ray ht]
 simp only [march_zv hD hf ht sl hn (show (FloatKind.f32.decode (mostT p n l near most)).isNaN = false from lesser_no hm) hmo]

theorem amb_zv {D D':Nat × Nat × Nat → Nat} (hD:∀ q q',Zv q q' → Zw .f32 (D q) (D' q')) {p p' n n':Nat × Nat × Nat} (hp:Zv p p') (hn:Zv n n') (st:Nat):∀ (m j s s':Nat),Zw .f32 s s' → Zw .f32 (ambGo D capF p n st m j s) (ambGo D' capS p' n' st m j s')
 | 0,_,_,_,h => h
 | m + 1,j,s,s',h => by
  rw [ambGo,ambGo]
  exact amb_zv hD hp hn st m (j + 1) _ _ (Zw.add h (zw_cap (zw_amb (hD _ _ (hp.add (hn.scale (Zw.refl _ _)))) _)))
theorem amball_zv {D D':Nat × Nat × Nat → Nat} (hD:∀ q q',Zv q q' → Zw .f32 (D q) (D' q')) {p p' n n':Nat × Nat × Nat} (hp:Zv p p') (hn:Zv n n') (st k:Nat):ambAll D' capS p' n' st k = ambAll D capF p n st k:=by
 unfold ambAll
 exact (one_sub (Zw.quo (amb_zv hD hp hn st _ _ _ _ (Zw.refl _ _)) _)).symm

/-- The normal at a point. -/
def normF (D:Nat × Nat × Nat → Nat) (p:Nat × Nat × Nat) (st:Nat):Nat × Nat × Nat :=
 unitF (B .sub (D (addV p (st,0,0))) (D (lessV p (st,0,0))),B .sub (D (addV p (0,st,0))) (D (lessV p (0,st,0))),B .sub (D (addV p (0,0,st))) (D (lessV p (0,0,st))))
theorem norm_zv {D D':Nat × Nat × Nat → Nat} (hD:∀ q,Zw .f32 (D q) (D' q)) (p:Nat × Nat × Nat) (st:Nat):Zv (normF D p st) (normF D' p st) :=
 Zv.unit ⟨(hD _).sub (hD _),(hD _).sub (hD _),(hD _).sub (hD _)⟩
/-- How much light falls. -/
def inV (p q:Nat × Nat × Nat):Nat:=innerF p.1 p.2.1 p.2.2 q.1 q.2.1 q.2.2
def litF (p n l:Nat × Nat × Nat) (sh:Bool × Bool):Nat :=
 if gtk .f32 (inV n (unitF (lessV l p))) 0 && !(sh.2 && sh.1) then inV n (unitF (lessV l p)) else 0
theorem lit_zv {p n n' l:Nat × Nat × Nat} (hn:Zv n n') (sh:Bool × Bool) (c:Nat):B .mul c (litF p n l sh) = B .mul c (litF p n' l sh):=by
 have hd:Zw .f32 (inV n (unitF (lessV l p))) (inV n' (unitF (lessV l p))):=Zw.inner hn.1 hn.2.1 hn.2.2 (Zw.refl _ _) (Zw.refl _ _) (Zw.refl _ _)
 unfold litF
 rw [Zw.gtk hd (Zw.refl _ 0)]
 cases hg:gtk .f32 (inV n' (unitF (lessV l p))) 0
 ·rfl
 ·cases hs:(sh.2 && sh.1)
  ·simp only [Bool.not_false,Bool.and_self,if_true]
   rcases hd with h | ⟨s,u,q,_,h'⟩
   ·rw [B,B,bin_mul,bin_mul,h]
   ·have hq:=zero_place h'
    subst hq
    have hz:Zw .f32 (inV n' (unitF (lessV l p))) 0:=.inr ⟨u,false,_,h',by kernel_rfl⟩
    rw [Zw.gtk hz (Zw.refl _ 0)] at hg
    exact absurd hg (by decide +kernel)
  ·rfl
/-- The shade of what a march has hit. -/
def shadeP (p n l:Nat × Nat × Nat) (sh:Bool × Bool) (amb:Nat):Nat:=B .add (B .mul (cn .f32 1048576000) amb) (B .mul (cn .f32 1061158912) (litF p n l sh))
end Go.Proofs.YtbiacfkiakddiaaGreat

namespace Go.Proofs.YtbiacfkiakddiaaGreat
open Go.RowKit Go.Fl Ieee
def numD:Datum → Bool
 | .number .. => true
 | _ => false
theorem num_enc {k:FloatKind} {d:Datum} (hn:d.isNaN = false) (h:numD (k.decode (k.encode d)) = true):numD d = true:=by
 cases d with
 | nan s t => cases hn
 | infinity s => cases k <;> cases s <;> exact absurd h (by decide +kernel)
 | number s m e => rfl
theorem num_nanw (k:FloatKind):numD (k.decode (nanw k)) = false:=by cases k <;> decide +kernel
theorem num_opt {k:FloatKind} {o:Option Datum} (ho:∀ r,o = some r → r.isNaN = false) (h:numD (k.decode ((o.map k.encode).getD (nanw k))) = true):∃ r,o = some r ∧ numD r = true:=by
 cases o with
 | none => exact absurd h (by rw [Option.map_none,Option.getD_none,num_nanw];decide)
 | some r => exact ⟨r,rfl,num_enc (ho r rfl) h⟩
theorem num_add {x y:Nat} (h:numD (FloatKind.f32.decode (B .add x y)) = true):numD (FloatKind.f32.decode x) = true ∧ numD (FloatKind.f32.decode y) = true:=by
 rw [B,bin_add] at h
 obtain ⟨r,hr,h⟩:=num_opt (fun r hr => sum_not hr) h
 cases hx:FloatKind.f32.decode x with
 | nan s t => rw [hx,sum_nan_l rfl] at hr;cases hr
 | infinity s =>
  cases hy:FloatKind.f32.decode y with
  | nan u v => rw [hy,sum_nan_r rfl] at hr;cases hr
  | infinity u => rw [hx,hy] at hr;cases s <;> cases u <;> cases hr <;> cases h
  | number u n j => rw [hx,hy] at hr;cases hr;cases h
 | number s m i =>
  cases hy:FloatKind.f32.decode y with
  | nan u v => rw [hy,sum_nan_r rfl] at hr;cases hr
  | infinity u => rw [hx,hy] at hr;cases hr;cases h
  | number u n j => exact ⟨rfl,rfl⟩
theorem num_sq {x:Nat} (h:numD (FloatKind.f32.decode (B .mul x x)) = true):numD (FloatKind.f32.decode x) = true:=by
 rw [B,bin_mul] at h
 obtain ⟨r,hr,h⟩:=num_opt (fun r hr => product_not hr) h
 cases hx:FloatKind.f32.decode x with
 | nan s t => rw [hx,product_nan_l rfl] at hr;cases hr
 | infinity s => rw [hx] at hr;cases hr;cases h
 | number s m i => rfl
theorem num_mul {x y:Nat} (hx:numD (FloatKind.f32.decode x) = true) (hy:numD (FloatKind.f32.decode y) = true):(FloatKind.f32.decode (B .mul x y)).isNaN = false:=by
 rw [B,bin_mul]
 cases h:FloatKind.f32.decode x with
 | nan s t => rw [h] at hx;cases hx
 | infinity s => rw [h] at hx;cases hx
 | number s m i =>
  cases h':FloatKind.f32.decode y with
  | nan s t => rw [h'] at hy;cases hy
  | infinity s => rw [h'] at hy;cases hy
  | number u n j => exact write_not FloatKind.f32.format (d:=.number (s ^^ u) (m * n) (i + j)) rfl
theorem num_wid {x:Nat} (h:numD (FloatKind.f64.decode (wid x)) = true):numD (FloatKind.f32.decode x) = true:=by
 cases hx:FloatKind.f32.decode x with
 | nan s t => rw [wid_nan (by rw [hx];rfl),num_nanw] at h;cases h
 | infinity s => rw [wid_inf hx] at h;cases h
 | number s m i => rfl
theorem num_sqr {x:Nat} (h:numD (FloatKind.f64.decode (sqr x)) = true):numD (FloatKind.f64.decode x) = true:=by
 have h2:numD (FloatKind.f64.decode ((((FloatKind.f64.decode x).root (FloatKind.f64.format.fractionBits + 2)).map FloatKind.f64.encode).getD (nanw .f64))) = true:=h
 obtain ⟨r,hr,h⟩:=num_opt (fun r hr => root_not hr) h2
 cases hx:FloatKind.f64.decode x with
 | nan s t => rw [hx,root_nan rfl] at hr;cases hr
 | infinity s => rw [hx] at hr;cases s <;> cases hr <;> cases h
 | number s m i => rfl
theorem num_nar {x:Nat} (h:numD (FloatKind.f32.decode (nar x)) = true):numD (FloatKind.f64.decode x) = true:=by
 unfold nar at h
 cases hn:(FloatKind.f64.decode x).isNaN
 ·rw [hn] at h
  simp only [Bool.false_eq_true,if_false] at h
  exact num_enc hn h
 ·rw [hn,if_pos rfl,num_nanw] at h;cases h
theorem num_long {p:Nat × Nat × Nat} (h:finB (longF p.1 p.2.1 p.2.2) = true):numD (FloatKind.f32.decode p.1) = true ∧ numD (FloatKind.f32.decode p.2.1) = true ∧ numD (FloatKind.f32.decode p.2.2) = true:=by
 obtain ⟨s,m,e,h0⟩:=fin_num h
 have h1:numD (FloatKind.f32.decode (longF p.1 p.2.1 p.2.2)) = true:=by rw [h0];rfl
 have h2:=num_add (num_wid (num_sqr (num_nar h1)))
 have h3:=num_add h2.1
 exact ⟨num_sq h3.1,num_sq h3.2,num_sq h2.2⟩

/-- All numbers of a vector are zeros. -/
def zeroV (p:Nat × Nat × Nat):Bool:=eqk .f32 p.1 0 && eqk .f32 p.2.1 0 && eqk .f32 p.2.2 0
theorem unit_way (p:Nat × Nat × Nat):wayF (unitF p) = !zeroV (unitF p):=by
 by_cases hc:(eqk .f32 (longF p.1 p.2.1 p.2.2) 0 || !(finB (longF p.1 p.2.1 p.2.2) && finB (oneL p))) = true
 ·have:unitF p = (0,0,0):=by unfold unitF;rw [if_pos hc]
  rw [this]
  decide +kernel
 ·have hu:unitF p = scaleV p (oneL p):=by unfold unitF;rw [if_neg hc]
  rw [Bool.or_eq_true,not_or,Bool.not_eq_true,Bool.not_eq_true,Bool.not_eq_false',Bool.and_eq_true] at hc
  obtain ⟨_,h1,h2⟩:=hc
  obtain ⟨s,m,e,h3⟩:=fin_num h2
  have h4:numD (FloatKind.f32.decode (oneL p)) = true:=by rw [h3];rfl
  obtain ⟨n1,n2,n3⟩:=num_long h1
  have e1:∀ x,numD (FloatKind.f32.decode x) = true → eqk .f32 (B .mul x (oneL p)) (B .mul x (oneL p)) = true:=fun x hx => by
   unfold eqk;rw [order_self (num_mul hx h4)];rfl
  rw [hu]
  unfold wayF zeroV scaleV
  simp only [e1 _ n1,e1 _ n2,e1 _ n3,Bool.true_and,Bool.and_true]
  cases eqk .f32 (B .mul p.1 (oneL p)) 0 <;> cases eqk .f32 (B .mul p.2.1 (oneL p)) 0 <;> cases eqk .f32 (B .mul p.2.2 (oneL p)) 0 <;> rfl
end Go.Proofs.YtbiacfkiakddiaaGreat

namespace Go.Proofs.YtbiacfkiakddiaaGreat
open Go.RowKit Go.Fl
theorem zero_eq (x y z:Nat):zeroV (cv x y z) = ((FloatKind.f32.format.order x 0 == some .eq) && (FloatKind.f32.format.order y 0 == some .eq) && (FloatKind.f32.format.order z 0 == some .eq)):=by
 unfold zeroV cv eqk
 simp only [ord_r0]
theorem ff3 (p q r:Bool):p = false ∨ (p = true ∧ q = false) ∨ (p = true ∧ q = true ∧ r = false) ∨ (p = true ∧ q = true ∧ r = true):=by cases p <;> cases q <;> cases r <;> simp
theorem ff7 (p q r s t u v:Bool):p = false ∨ (p = true ∧ q = false) ∨ (p = true ∧ q = true ∧ r = false) ∨ (p = true ∧ q = true ∧ r = true ∧ s = false) ∨ (p = true ∧ q = true ∧ r = true ∧ s = true ∧ t = false) ∨ (p = true ∧ q = true ∧ r = true ∧ s = true ∧ t = true ∧ u = false) ∨ (p = true ∧ q = true ∧ r = true ∧ s = true ∧ t = true ∧ u = true ∧ v = false) ∨ (p = true ∧ q = true ∧ r = true ∧ s = true ∧ t = true ∧ u = true ∧ v = true):=by cases p <;> cases q <;> cases r <;> cases s <;> cases t <;> cases u <;> cases v <;> simp

set_option maxRecDepth 100000 in
set_option maxHeartbeats 1000000 in
theorem iszero_any (x y z:Nat) (w:World) :
  Calls Tryz.prog 244 #[V3 x y z] w (fun e w' => e = .returned (.bool (zeroV (cv x y z))) ∧ Below w.heap.size w w'):=by
 obtain ⟨U,hU⟩:∃ U,Hid (zeroV (cv x y z) = U):=⟨_,rfl⟩
 rw [hU.out]
 have hUo:=hU.out
 rw [zero_eq] at hUo
 clear hU
 rcases ff3 (FloatKind.f32.format.order x 0 == some .eq) (FloatKind.f32.format.order y 0 == some .eq) (FloatKind.f32.format.order z 0 == some .eq) with h1 | ⟨h1,h2⟩ | ⟨h1,h2,h3⟩ | ⟨h1,h2,h3⟩
 all_goals
  simp only [*,Bool.and_true,Bool.and_false,Bool.false_and,Bool.true_and] at hUo
  subst hUo
  go_enter Tryz.func244,Tryz.ntmps244
  go_wp2_with fail
  generalize hW:w.alloc (.cells #[F1 x,F1 y,F1 z] 38) = W1 at *
  have W1b:Below w.heap.size w W1:=by subst hW;exact (by repeat' (first | exact Below.refl _ _ | exact Nat.le_refl _ | refine below_drewN ?_ _ | refine Below.alloc ?_ (by simp <;> omega) _ | refine Below.setCell ?_ (by simp <;> omega) _ | refine below_step ?_ (by assumption)))
  have hkept:Kept [(⟨w.heap.size,0,none⟩,F1 x),(⟨w.heap.size,1,none⟩,F1 y),(⟨w.heap.size,2,none⟩,F1 z)] [] W1:=by
   subst hW;simp only [Kept,ka,kb,kc,kd,ke,and_true,true_and];(first | (go_simp;done) | (simp [World.cell?,World.frozen?,World.alloc,Array.getElem?_push];done))
  clear hW
  have hK:=hkept;simp only [Kept,ka,kb,kc,kd,ke,and_true,true_and] at hK
  go_wp2_with fail
  go_ret
  exact ⟨rfl,(by repeat' (first | exact Below.refl _ _ | exact Nat.le_refl _ | refine Below.drew ?_ | refine below_drewN ?_ _ | refine Below.alloc ?_ (by simp <;> omega) _ | refine Below.setCell ?_ (by simp <;> omega) _ | refine below_step ?_ (by assumption)))⟩

/-- A right camera. -/
def camOk (f t:Nat × Nat × Nat) (wd:Nat) (nx ny:Int):Bool:=(decide (1 ≤ nx) && decide (nx ≤ 12)) && (decide (1 ≤ ny) && decide (ny ≤ 12)) && rightP wd && vfin f && vfin t && !zeroV (rightV f t) && !zeroV (fwdV f t)
abbrev CamV (a b c d e f wd:Nat) (nx ny:Int):Value:=.agg #[F1 a,F1 b,F1 c,F1 d,F1 e,F1 f,F1 wd,.int .i64 nx,.int .i64 ny]

set_option maxRecDepth 100000 in
set_option maxHeartbeats 4000000 in
theorem cam_any (a b c d e f wd:Nat) (nx ny:Int) (w:World) :
  Calls Tryz.prog 170 #[CamV a b c d e f wd nx ny] w (fun e' w' => e' = .returned (.bool (camOk (cv a b c) (cv d e f) (cn .f32 wd) nx ny)) ∧ Below w.heap.size w w'):=by
 obtain ⟨U,hU⟩:∃ U,Hid (camOk (cv a b c) (cv d e f) (cn .f32 wd) nx ny = U):=⟨_,rfl⟩
 rw [hU.out]
 have hUo:=hU.out
 unfold camOk at hUo
 clear hU
 have hax:∀ cb w',CamIn a b c d e f wd nx ny cb 0 w' → Calls Tryz.prog 243 #[.pointer (some ⟨cb,0,none⟩)] w' (RetAx (axesV (cv a b c) (cv d e f)) w'):=fun cb w' h => axes_any a b c d e f wd nx ny cb 0 w' h
 have hst:∀ w',Calls Tryz.prog 89 #[F1 wd] w' (fun e' w'' => e' = .returned (.bool (rightP (cn .f32 wd))) ∧ Below w'.heap.size w' w''):=fun w' => step_any wd w'
 have hf1:∀ w',Calls Tryz.prog 132 #[V3 a b c] w' (fun e' w'' => e' = .returned (.bool (vfin (cv a b c))) ∧ Below w'.heap.size w' w''):=fun w' => vfin_any a b c w'
 have hf2:∀ w',Calls Tryz.prog 132 #[V3 d e f] w' (fun e' w'' => e' = .returned (.bool (vfin (cv d e f))) ∧ Below w'.heap.size w' w''):=fun w' => vfin_any d e f w'
 generalize hrv:rightV (cv a b c) (cv d e f) = rv at hUo
 generalize hfv:fwdV (cv a b c) (cv d e f) = fv at hUo
 generalize rightP (cn .f32 wd) = p3 at *
 generalize vfin (cv a b c) = p4 at *
 generalize vfin (cv d e f) = p5 at *
 have hrz:∀ x y z w',cv x y z = rv → Calls Tryz.prog 244 #[V3 x y z] w' (fun e' w'' => e' = .returned (.bool (zeroV rv)) ∧ Below w'.heap.size w' w''):=fun x y z w' h => by rw [← h];exact iszero_any x y z w'
 have hfz:∀ x y z w',cv x y z = fv → Calls Tryz.prog 244 #[V3 x y z] w' (fun e' w'' => e' = .returned (.bool (zeroV fv)) ∧ Below w'.heap.size w' w''):=fun x y z w' h => by rw [← h];exact iszero_any x y z w'
 have hrv2:=Lib.hid hrv
 have hfv2:=Lib.hid hfv
 generalize zeroV rv = q6 at *
 generalize zeroV fv = q7 at *
 clear hrv hfv
 go_enter Tryz.func170,Tryz.ntmps170
 go_upto_region 1 with fail
 generalize hW:w.alloc (.cells #[F1 a,F1 b,F1 c,F1 d,F1 e,F1 f,F1 wd,.int .i64 nx,.int .i64 ny] 83) = W1 at *
 have W1b:Below w.heap.size w W1:=by subst hW;exact (by repeat' (first | exact Below.refl _ _ | exact Nat.le_refl _ | refine below_drewN ?_ _ | refine Below.alloc ?_ (by simp <;> omega) _ | refine Below.setCell ?_ (by simp <;> omega) _ | refine below_step ?_ (by assumption)))
 have hkept:Kept [(⟨w.heap.size,0,none⟩,F1 a),(⟨w.heap.size,1,none⟩,F1 b),(⟨w.heap.size,2,none⟩,F1 c),(⟨w.heap.size,3,none⟩,F1 d),(⟨w.heap.size,4,none⟩,F1 e),(⟨w.heap.size,5,none⟩,F1 f),(⟨w.heap.size,6,none⟩,F1 wd),(⟨w.heap.size,7,none⟩,.int .i64 nx),(⟨w.heap.size,8,none⟩,.int .i64 ny)] [] W1:=by
  subst hW;simp only [Kept,ka,kb,kc,kd,ke,and_true,true_and];(first | (go_simp;done) | (simp [World.cell?,World.frozen?,World.alloc,Array.getElem?_push];done))
 clear hW
 have hK:=hkept;simp only [Kept,ka,kb,kc,kd,ke,and_true,true_and] at hK
 have hc:CamIn a b c d e f wd nx ny w.heap.size 0 W1:=⟨by simp only [Kept,ka,kb,kc,kd,ke,and_true,true_and];simp [hK]⟩
 clear hK
 go_upto_region 2 with (go_at_call 243;refine (hax _ _ hc).mono ?_;rintro _ w2 ⟨a1,b1,c1,a2,b2,c2,a3,b3,c3,rfl,e1,e2,e3,hb1⟩;have W1b:=below_step W1b hb1;have hkept:=keepT hkept hb1 rfl)
 rw [ax1] at e1
 rw [ax3] at e3
 clear e2 hax hc
 have hb2:Below w2.heap.size w2 (((w2.alloc (.cells #[F1 a1,F1 b1,F1 c1] 38)).alloc (.cells #[F1 a2,F1 b2,F1 c2] 38)).alloc (.cells #[F1 a3,F1 b3,F1 c3] 38)):=(by repeat' (first | exact Below.refl _ _ | exact Nat.le_refl _ | refine below_drewN ?_ _ | refine Below.alloc ?_ (by simp <;> omega) _ | refine Below.setCell ?_ (by simp <;> omega) _ | refine below_step ?_ (by assumption)))
 have hkept:=kept_app (keep hkept hb2) (show Kept [(⟨w2.heap.size,0,none⟩,F1 a1),(⟨w2.heap.size,1,none⟩,F1 b1),(⟨w2.heap.size,2,none⟩,F1 c1),(⟨w2.heap.size + 1 + 1,0,none⟩,F1 a3),(⟨w2.heap.size + 1 + 1,1,none⟩,F1 b3),(⟨w2.heap.size + 1 + 1,2,none⟩,F1 c3)] [] (((w2.alloc (.cells #[F1 a1,F1 b1,F1 c1] 38)).alloc (.cells #[F1 a2,F1 b2,F1 c2] 38)).alloc (.cells #[F1 a3,F1 b3,F1 c3] 38)) by simp only [Kept,ka,kb,kc,kd,ke,and_true,true_and];(first | (go_simp;done) | (simp [World.cell?,World.frozen?,World.alloc,Array.getElem?_push];done)))
 have W1b:=below_step W1b hb2
 generalize ((w2.alloc (.cells #[F1 a1,F1 b1,F1 c1] 38)).alloc (.cells #[F1 a2,F1 b2,F1 c2] 38)).alloc (.cells #[F1 a3,F1 b3,F1 c3] 38) = w3 at *
 clear hb2
 have hr:=fun w' => hrz a1 b1 c1 w' (e1.trans hrv2.out)
 have hf:=fun w' => hfz a3 b3 c3 w' (e3.trans hfv2.out)
 clear hrz hfz hrv2 hfv2 e1 e3
 have hK:=hkept;simp only [Kept,ka,kb,kc,kd,ke,and_true,true_and] at hK
 rcases ff7 (decide (1 ≤ nx) && decide (nx ≤ 12)) (decide (1 ≤ ny) && decide (ny ≤ 12)) p3 p4 p5 (!q6) (!q7) with h1 | ⟨h1,h2⟩ | ⟨h1,h2,h3⟩ | ⟨h1,h2,h3,h4⟩ | ⟨h1,h2,h3,h4,h5⟩ | ⟨h1,h2,h3,h4,h5,h6⟩ | ⟨h1,h2,h3,h4,h5,h6,h7⟩ | ⟨h1,h2,h3,h4,h5,h6,h7⟩
 all_goals
  (try rw [h1] at hUo);(try rw [h2] at hUo);(try rw [h3] at hUo);(try rw [h4] at hUo);(try rw [h5] at hUo);(try rw [h6] at hUo);(try rw [h7] at hUo)
  simp only [Bool.and_true,Bool.and_false,Bool.false_and,Bool.true_and] at hUo
  subst hUo
  have t1:True:=trivial
  have t2:True:=trivial
  have t3:True:=trivial
  have t4:True:=trivial
  have t5:True:=trivial
  have t6:True:=trivial
  have t7:True:=trivial
  go_wp2_with (first
   | (clear t1;go_at_call 74;refine (in_any _ _ _ _).mono ?_;rintro _ w4 ⟨rfl,rfl⟩;rw [h1])
   | (clear t2;go_at_call 74;refine (in_any _ _ _ _).mono ?_;rintro _ w4 ⟨rfl,rfl⟩;rw [h2])
   | (clear t3;go_at_call 89;refine (hst _).mono ?_;rintro _ w4 ⟨rfl,hb1⟩;have W1b:=below_step W1b hb1;have hkept:=keepT hkept hb1 rfl;clear hK;have hK:=hkept;simp only [Kept,ka,kb,kc,kd,ke,and_true,true_and] at hK;rw [h3])
   | (clear t4;go_at_call 132;refine (hf1 _).mono ?_;rintro _ w4 ⟨rfl,hb1⟩;have W1b:=below_step W1b hb1;have hkept:=keepT hkept hb1 rfl;clear hK;have hK:=hkept;simp only [Kept,ka,kb,kc,kd,ke,and_true,true_and] at hK;rw [h4])
   | (clear t5;go_at_call 132;refine (hf2 _).mono ?_;rintro _ w4 ⟨rfl,hb1⟩;have W1b:=below_step W1b hb1;have hkept:=keepT hkept hb1 rfl;clear hK;have hK:=hkept;simp only [Kept,ka,kb,kc,kd,ke,and_true,true_and] at hK;rw [h5])
   | (clear t6;go_at_call 244;refine (hr _).mono ?_;rintro _ w4 ⟨rfl,hb1⟩;have W1b:=below_step W1b hb1;have hkept:=keepT hkept hb1 rfl;clear hK;have hK:=hkept;simp only [Kept,ka,kb,kc,kd,ke,and_true,true_and] at hK)
   | (clear t7;go_at_call 244;refine (hf _).mono ?_;rintro _ w4 ⟨rfl,hb1⟩;have W1b:=below_step W1b hb1;have hkept:=keepT hkept hb1 rfl;clear hK;have hK:=hkept;simp only [Kept,ka,kb,kc,kd,ke,and_true,true_and] at hK))
  go_ret
  exact ⟨rfl,W1b⟩
end Go.Proofs.YtbiacfkiakddiaaGreat
