/-
 Lemmas: Za,Phi,Td,Te,V37a,V35.
-/
import Derived.Test.YtbiacfkiakddiaaGreatXae
import Derived.BigRegion
import Derived.ChangeAlike
import Derived.Deep.AppendLies
import Derived.Deep.DeepCutAuto
import Derived.Deep.Onto
import Derived.Deep.RegionHeld
import Derived.Laws.MakeOwn
import Derived.Lib.Hide
import Derived.Outline
import Derived.OwnWalk
import Derived.RegionTactic
set_option linter.unusedVariables false
set_option linter.unusedSimpArgs false
namespace Go.Fl
open Go Go.RowKit Go.Ft Ieee
def Zd (d d':Datum):Prop:=d=d'∨∃ s t p,d=.number s 0 p∧d'=.number t 0 p
def Zw (k:FloatKind) (x y:Nat):Prop:=Zd (k.decode x) (k.decode y)
def Zo:Option Datum→Option Datum→Prop
 | none,none=>True
 | some d,some d'=>Zd d d'
 | _,_=>False

theorem Zd.refl (d:Datum):Zd d d:=.inl rfl
theorem Zw.refl (k:FloatKind) (x:Nat):Zw k x x:=.inl rfl
theorem Zo.refl:∀ d,Zo d d
 | none=>trivial
 | some d=>Zd.refl d
theorem Zd.symm {d d':Datum} (h:Zd d d'):Zd d' d:=by
 rcases h with h|⟨s,t,p,h1,h2⟩
 ·exact .inl h.symm
 ·exact .inr ⟨t,s,p,h2,h1⟩
theorem Zd.trans {a b c:Datum} (h:Zd a b) (h':Zd b c):Zd a c:=by
 rcases h with rfl|⟨s,t,p,rfl,rfl⟩
 ·exact h'
 ·rcases h' with rfl|⟨s',t',p',h1,rfl⟩
  ·exact .inr ⟨s,t,p,rfl,rfl⟩
  ·injection h1 with _ _ h3
   subst h3
   exact .inr ⟨s,t',p,rfl,rfl⟩

theorem ul (s:Bool) (k:Nat):signed s 0 k=0:=by unfold signed;simp

theorem Zd.opp {d d':Datum} (h:Zd d d'):Zd d.opposite d'.opposite:=by
 rcases h with rfl|⟨s,t,p,rfl,rfl⟩
 ·exact Zd.refl _
 ·exact .inr ⟨!s,!t,p,rfl,rfl⟩

theorem ztk {d d':Datum} (h:Zd d d') (e:Datum):Zo (d.sum e) (d'.sum e):=by
 rcases h with rfl|⟨s,t,p,rfl,rfl⟩
 ·exact Zo.refl _
 ·cases e with
  | nan u v=>exact trivial
  | infinity u=>exact Zd.refl _
  | number u n j =>
   show Zd (.number (if signed s 0 (p-min p j).toNat+signed u n (j-min p j).toNat=0 then s && u else decide (signed s 0 (p-min p j).toNat+signed u n (j-min p j).toNat<0)) (signed s 0 (p-min p j).toNat+signed u n (j-min p j).toNat).natAbs (min p j))
    (.number (if signed t 0 (p-min p j).toNat+signed u n (j-min p j).toNat=0 then t && u else decide (signed t 0 (p-min p j).toNat+signed u n (j-min p j).toNat<0)) (signed t 0 (p-min p j).toNat+signed u n (j-min p j).toNat).natAbs (min p j))
   rw[ul,ul,Int.zero_add]
   by_cases h0:signed u n (j-min p j).toNat=0
   ·rw[h0,if_pos rfl,if_pos rfl]
    exact .inr ⟨_,_,_,rfl,rfl⟩
   ·rw[if_neg h0,if_neg h0]
    exact Zd.refl _

theorem zup {d d':Datum} (h:Zd d d') (e:Datum):Zo (e.sum d) (e.sum d'):=by
 rcases h with rfl|⟨s,t,p,rfl,rfl⟩
 ·exact Zo.refl _
 ·cases e with
  | nan u v=>exact trivial
  | infinity u=>exact Zd.refl _
  | number u n j =>
   show Zd (.number (if signed u n (j-min j p).toNat+signed s 0 (p-min j p).toNat=0 then u && s else decide (signed u n (j-min j p).toNat+signed s 0 (p-min j p).toNat<0)) (signed u n (j-min j p).toNat+signed s 0 (p-min j p).toNat).natAbs (min j p))
    (.number (if signed u n (j-min j p).toNat+signed t 0 (p-min j p).toNat=0 then u && t else decide (signed u n (j-min j p).toNat+signed t 0 (p-min j p).toNat<0)) (signed u n (j-min j p).toNat+signed t 0 (p-min j p).toNat).natAbs (min j p))
   rw[ul,ul,Int.add_zero]
   by_cases h0:signed u n (j-min j p).toNat=0
   ·rw[h0,if_pos rfl,if_pos rfl]
    exact .inr ⟨_,_,_,rfl,rfl⟩
   ·rw[if_neg h0,if_neg h0]
    exact Zd.refl _

theorem zx6 {d d':Datum} (h:Zd d d') (e:Datum):Zo (d.product e) (d'.product e):=by
 rcases h with rfl|⟨s,t,p,rfl,rfl⟩
 ·exact Zo.refl _
 ·cases e with
  | nan u v=>exact trivial
  | infinity u=>exact trivial
  | number u n j=>exact .inr ⟨s ^^ u,t ^^ u,p+j,by show Datum.number _ (0*n) _=_;rw[Nat.zero_mul],by show Datum.number _ (0*n) _=_;rw[Nat.zero_mul]⟩

theorem zxr {d d':Datum} (h:Zd d d') (e:Datum):Zo (e.product d) (e.product d'):=by
 rcases h with rfl|⟨s,t,p,rfl,rfl⟩
 ·exact Zo.refl _
 ·cases e with
  | nan u v=>exact trivial
  | infinity u=>exact trivial
  | number u n j=>exact .inr ⟨u ^^ s,u ^^ t,j+p,rfl,rfl⟩

theorem zxu {d d':Datum} (h:Zd d d') (k:Nat) (e:Datum):Zo (d.quotient k e) (d'.quotient k e):=by
 rcases h with rfl|⟨s,t,p,rfl,rfl⟩
 ·exact Zo.refl _
 ·cases e with
  | nan u v=>exact trivial
  | infinity u=>exact .inr ⟨s ^^ u,t ^^ u,0,rfl,rfl⟩
  | number u n j =>
   by_cases hn:n=0
   ·subst hn;exact trivial
   ·rw[za1 _ _ _ hn,za1 _ _ _ hn]
    refine .inr ⟨s ^^ u,t ^^ u,p-j-(k+n.log2-(0:Nat).log2:Nat)-1,?_,?_⟩
    all_goals
     simp only[Nat.zero_shiftLeft,Nat.zero_div,Nat.zero_mod]
     rfl

theorem zv3 {d d':Datum} (h:Zd d d') (e:Datum):d.order e=d'.order e:=by
 rcases h with rfl|⟨s,t,p,rfl,rfl⟩
 ·rfl
 ·cases e with
  | nan u v=>rfl
  | infinity u=>rfl
  | number u n j =>
   show some (compare (signed s 0 _) _)=some (compare (signed t 0 _) _)
   rw[ul,ul]

theorem zvo {d d':Datum} (h:Zd d d') (e:Datum):e.order d=e.order d':=by
 rcases h with rfl|⟨s,t,p,rfl,rfl⟩
 ·rfl
 ·cases e with
  | nan u v=>rfl
  | infinity u=>rfl
  | number u n j =>
   show some (compare _ (signed s 0 _))=some (compare _ (signed t 0 _))
   rw[ul,ul]

theorem zc4 (k:FloatKind) (s:Bool) (p:Int):k.decode (k.encode (.number s 0 p))=.number s 0 k.format.leastPlace:=by
 have:k.encode (.number s 0 p)=k.format.word s 0:=by
  show k.format.nearest s 0 p=_
  unfold Format.nearest
  rw[if_pos rfl]
 rw[this]
 cases k<;>cases s<;>decide +kernel

theorem Zd.write {k:FloatKind} {d d':Datum} (h:Zd d d'):Zw k (k.encode d) (k.encode d'):=by
 rcases h with rfl|⟨s,t,p,rfl,rfl⟩
 ·exact Zw.refl _ _
 ·exact .inr ⟨s,t,_,zc4 k s p,zc4 k t p⟩

theorem Zo.write {k:FloatKind}:∀ {d d':Option Datum},Zo d d'→Zw k ((d.map k.encode).getD (vd k)) ((d'.map k.encode).getD (vd k))
 | none,none,_=>Zw.refl _ _
 | some _,some _,h=>Zd.write h
 | none,some _,h=>h.elim
 | some _,none,h=>h.elim

theorem zqt (k:FloatKind) (x y:Nat):bin .add k x y=(((k.decode x).sum (k.decode y)).map k.encode).getD (vd k):=rfl
theorem zfe (k:FloatKind) (x y:Nat):bin .sub k x y=(((k.decode x).sum (k.decode y).opposite).map k.encode).getD (vd k):=rfl
theorem zq0 (k:FloatKind) (x y:Nat):bin .mul k x y=(((k.decode x).product (k.decode y)).map k.encode).getD (vd k):=rfl
theorem zq1 (k:FloatKind) (x y:Nat):bin .quo k x y=(((k.decode x).quotient (k.format.fractionBits+2) (k.decode y)).map k.encode).getD (vd k):=rfl

theorem Zw.trans {k:FloatKind} {x y z:Nat} (h:Zw k x y) (h':Zw k y z):Zw k x z:=Zd.trans h h'
theorem Zw.add {k:FloatKind} {x x' y y':Nat} (hx:Zw k x x') (hy:Zw k y y'):Zw k (bin .add k x y) (bin .add k x' y'):=by
 rw[zqt,zqt]
 exact Zw.trans (Zo.write (ztk hx _)) (Zo.write (zup hy _))
theorem Zw.sub {k:FloatKind} {x x' y y':Nat} (hx:Zw k x x') (hy:Zw k y y'):Zw k (bin .sub k x y) (bin .sub k x' y'):=by
 rw[zfe,zfe]
 exact Zw.trans (Zo.write (ztk hx _)) (Zo.write (zup hy.opp _))
theorem Zw.mul {k:FloatKind} {x x' y y':Nat} (hx:Zw k x x') (hy:Zw k y y'):Zw k (bin .mul k x y) (bin .mul k x' y'):=by
 rw[zq0,zq0]
 exact Zw.trans (Zo.write (zx6 hx _)) (Zo.write (zxr hy _))
theorem Zw.quo {k:FloatKind} {x x':Nat} (hx:Zw k x x') (y:Nat):Zw k (bin .quo k x y) (bin .quo k x' y):=by
 rw[zq1,zq1]
 exact Zo.write (zxu hx _ _)
theorem Zw.order {k:FloatKind} {x x' y y':Nat} (hx:Zw k x x') (hy:Zw k y y'):k.format.order x y=k.format.order x' y' :=
 (zv3 hx _).trans (zvo hy _)
theorem Zw.ltk {k:FloatKind} {x x' y y':Nat} (hx:Zw k x x') (hy:Zw k y y'):ltk k x y=ltk k x' y':=by unfold Fl.ltk;rw[Zw.order hx hy]
theorem Zw.gtk {k:FloatKind} {x x' y y':Nat} (hx:Zw k x x') (hy:Zw k y y'):gtk k x y=gtk k x' y':=by unfold Fl.gtk;rw[Zw.order hx hy]

theorem Zw.neg {k:FloatKind} {x x':Nat} (hx:Zw k x x'):Zw k (un k x) (un k x'):=by
 have key:∀ y,(k.decode y).isNaN=true→k.decode (un k y)=k.decode (vd k):=fun y h=>by
  unfold un
  rw[uz (by rw[vu,za6];exact h)]
 have hn:(k.decode x).isNaN=(k.decode x').isNaN:=by
  rcases hx with h|⟨s,t,p,h1,h2⟩
  ·rw[h]
  ·rw[h1,h2];rfl
 cases h:(k.decode x).isNaN
 ·unfold un
  rw[xh (by rw[vu,za6];exact h),xh (by rw[vu,za6,← hn];exact h)]
  unfold Zw
  rw[vu,vu]
  exact Zd.opp hx
 ·unfold Zw
  rw[key x h,key x' (by rw[← hn];exact h)]
  exact Zd.refl _

theorem Zw.lesser {x x' y y':Nat} (hx:Zw .f32 x x') (hy:Zw .f32 y y'):Zw .f32 (yo x y) (yo x' y'):=by
 unfold yo
 rw[Zw.ltk hy hx]
 split
 ·exact hy
 ·exact hx
theorem Zw.greater {x x' y y':Nat} (hx:Zw .f32 x x') (hy:Zw .f32 y y'):Zw .f32 (z7 x y) (z7 x' y'):=by
 unfold z7
 rw[Zw.gtk hy hx]
 split
 ·exact hy
 ·exact hx

theorem Zw.wid {x x':Nat} (hx:Zw .f32 x x'):Zw .f64 (wid x) (wid x'):=by
 unfold Fl.wid
 rcases hx with h|⟨s,t,p,h1,h2⟩
 ·rw[h];exact Zw.refl _ _
 ·rw[h1,h2,if_neg zc7,if_neg zc7]
  exact Zd.write (.inr ⟨s,t,p,rfl,rfl⟩)
theorem Zw.nar {x x':Nat} (hx:Zw .f64 x x'):Zw .f32 (nar x) (nar x'):=by
 unfold Fl.nar
 rcases hx with h|⟨s,t,p,h1,h2⟩
 ·rw[h];exact Zw.refl _ _
 ·rw[h1,h2,if_neg zc7,if_neg zc7]
  exact Zd.write (.inr ⟨s,t,p,rfl,rfl⟩)
theorem Zw.sqr {x x':Nat} (hx:Zw .f64 x x'):Zw .f64 (sqr x) (sqr x'):=by
 have hs:∀ y,Fl.sqr y=(((FloatKind.f64.decode y).root (FloatKind.f64.format.fractionBits+2)).map FloatKind.f64.encode).getD (vd .f64):=fun y=>rfl
 rw[hs,hs]
 rcases hx with h|⟨s,t,p,h1,h2⟩
 ·rw[h];exact Zw.refl _ _
 ·rw[h1,h2]
  exact Zo.write (d:=some (.number s 0 p)) (d':=some (.number t 0 p)) (.inr ⟨s,t,p,rfl,rfl⟩)
theorem Zw.whole {x x':Nat} (hx:Zw .f64 x x'):Zw .f64 (whole .even x) (whole .even x'):=by
 rcases hx with h|⟨s,t,p,h1,h2⟩
 ·unfold Fl.whole;rw[h];exact Zw.refl _ _
 ·rw[zbp _ h1,zbp _ h2,zfs,zfs,← zf5,← zf5]
  have:rnd (0 <<< p.toNat) (-p).toNat=0:=by
   have:=zi9 (n:=0 <<< p.toNat) (q:=0) (d:=(-p).toNat) (by rw[Nat.zero_shiftLeft];exact Nat.zero_le _)
   omega
  rw[this]
  exact Zd.write (.inr ⟨s,t,0,rfl,rfl⟩)

theorem Zw.root {x x':Nat} (hx:Zw .f32 x x'):Zw .f32 (zf2 x) (zf2 x'):=hx.wid.sqr.nar
theorem Zw.near {x x':Nat} (hx:Zw .f32 x x'):Zw .f32 (j2 x) (j2 x'):=hx.wid.whole.nar
theorem Zw.inner {a b c d e f a' b' c' d' e' f':Nat} (h1:Zw .f32 a a') (h2:Zw .f32 b b') (h3:Zw .f32 c c') (h4:Zw .f32 d d') (h5:Zw .f32 e e') (h6:Zw .f32 f f'):Zw .f32 (zbc a b c d e f) (zbc a' b' c' d' e' f') :=
 ((h1.mul h4).add (h2.mul h5)).add (h3.mul h6)
theorem Zw.long {a b c a' b' c':Nat} (h1:Zw .f32 a a') (h2:Zw .f32 b b') (h3:Zw .f32 c c'):Zw .f32 (jo a b c) (jo a' b' c') :=
 (Zw.inner h1 h2 h3 h1 h2 h3).root

theorem zw3 {x:Nat} (h:ltk .f32 x 0=true):Zw .f32 (un .f32 x) (B .sub 0 x):=by
 have h0:FloatKind.f32.decode 0=.number false 0 (-149):=by decide +kernel
 have hord:FloatKind.f32.format.order x 0=(FloatKind.f32.decode x).order (.number false 0 (-149)):=by rw[← h0];rfl
 have hnd:∀ (hn:(FloatKind.f32.decode x).isNaN=false),FloatKind.f32.decode (un .f32 x)=(FloatKind.f32.decode x).opposite:=fun hn=>by
  unfold un
  rw[xh (by rw[vu,za6];exact hn),vu]
 unfold Fl.ltk at h
 rw[hord]at h
 cases hx:FloatKind.f32.decode x with
 | nan s t=>rw[hx]at h;cases h
 | infinity s =>
  cases s
  ·rw[hx]at h;cases h
  ·unfold Zw
   rw[hnd (by rw[hx];rfl),hx]
   show Zd _ (FloatKind.f32.decode (bin .sub .f32 0 x))
   rw[zfe,hx,h0]
   have:FloatKind.f32.decode (((Datum.sum (.number false 0 (-149)) (Datum.opposite (.infinity true))).map FloatKind.f32.encode).getD (vd .f32))=.infinity false:=by decide +kernel
   rw[this]
   exact Zd.refl _
 | number s m e =>
  obtain⟨hm24,he,he2⟩:=xf hx
  rw[hx,order_val _ _ _ _ (by omega) (by omega)]at h
  have hlt:sval s m e<sval false 0 (-149):=cmp_lt.1 (by simpa using h)
  have hs0:sval false 0 (-149)=0:=by unfold sval;simp[val_zero.2]
  rw[hs0]at hlt
  have hs:s=true:=by
   cases s
   ·unfold sval at hlt;simp only[Bool.false_eq_true,if_false]at hlt;omega
   ·rfl
  subst hs
  have hm:m ≠ 0:=fun hz=>by
   unfold sval at hlt
   rw[val_zero.2 hz]at hlt
   simp at hlt
  obtain⟨r,hr,hrm,hall,-⟩:=rtS hx
  unfold Zw
  rw[hnd (by rw[hx];rfl),hx]
  show Zd (.number false m e) (FloatKind.f32.decode (bin .sub .f32 0 x))
  have hb:bin .sub .f32 0 x=single.nearest false m e:=by
   rw[zfe,hx,h0]
   have hmin:min (-149) e=-149:=by omega
   show single.nearest (if signed false 0 (-149-min (-149) e).toNat+signed false m (e-min (-149) e).toNat=0 then false && false else decide (signed false 0 (-149-min (-149) e).toNat+signed false m (e-min (-149) e).toNat<0)) (signed false 0 (-149-min (-149) e).toNat+signed false m (e-min (-149) e).toNat).natAbs (min (-149) e)=_
   rw[hmin,ul,Int.zero_add,uc]
   have hp:=uc false m (e - -149).toNat
   have hpos:=Nat.mul_pos (Nat.pos_of_ne_zero hm) (yy (e - -149).toNat)
   have h9:signed false m (e - -149).toNat=((m <<< (e - -149).toNat:Nat):Int):=rfl
   have hne:signed false m (e - -149).toNat ≠ 0:=fun h'=>by rw[h']at hp;simp at hp;omega
   have hneg:decide (signed false m (e - -149).toNat<0)=false:=by
    rw[h9]
    generalize m <<< (e - -149).toNat=X
    exact decide_eq_false (by omega)
   rw[if_neg hne,hneg]
   have:=j6 single false hm (e - -149).toNat e
   rw[show e-((e - -149).toNat:Int)=-149 by omega]at this
   exact this
  rw[hb,(hall false).1]
  show Zd _ (single.read _)
  rw[(hall false).2]
  exact Zd.refl _
end Go.Fl

namespace Go.Proofs.YtbiacfkiakddiaaGreat
open Go.RowKit Go.Fl
abbrev V3 (a b c:Nat):Value:=.agg #[.float .f32 a,.float .f32 b,.float .f32 c]
abbrev F1 (a:Nat):Value:=.float .f32 a

inductive PhiF:FuncId→Array Value→Value→Prop
 | long (a b c r:Nat) (h:cn .f32 r=jo (cn .f32 a) (cn .f32 b) (cn .f32 c)):PhiF 250 #[V3 a b c] (F1 r)
 | inner (a b c d e f r:Nat) (h:cn .f32 r=zbc (cn .f32 a) (cn .f32 b) (cn .f32 c) (cn .f32 d) (cn .f32 e) (cn .f32 f)):PhiF 176 #[V3 a b c,V3 d e f] (F1 r)
 | size (a r:Nat) (h:cn .f32 r=vp (cn .f32 a)):PhiF 90 #[F1 a] (F1 r)
 | lesser (a b r:Nat) (h:cn .f32 r=yo (cn .f32 a) (cn .f32 b)):PhiF 221 #[F1 a,F1 b] (F1 r)
 | greater (a b r:Nat) (h:cn .f32 r=z7 (cn .f32 a) (cn .f32 b)):PhiF 222 #[F1 a,F1 b] (F1 r)
 | short (a b r:Nat) (h:cn .f32 r=zbv (cn .f32 a) (cn .f32 b)):PhiF 219 #[F1 a,F1 b] (F1 r)
 | bulge (a b r:Nat) (h:cn .f32 r=jk (cn .f32 a) (cn .f32 b)):PhiF 224 #[F1 a,F1 b] (F1 r)
 | fold (a b r:Nat) (h:cn .f32 r=k5 (cn .f32 a) (cn .f32 b)):PhiF 262 #[F1 a,F1 b] (F1 r)
 | coords (a b c:Nat):PhiF 133 #[V3 a b c] (V3 a b c)
 | vector (a b c:Nat):PhiF 227 #[V3 a b c] (V3 a b c)
 | less (a b c d e f x y z:Nat) (h1:cn .f32 x=B .sub (cn .f32 a) (cn .f32 d)) (h2:cn .f32 y=B .sub (cn .f32 b) (cn .f32 e)) (h3:cn .f32 z=B .sub (cn .f32 c) (cn .f32 f)):PhiF 178 #[V3 a b c,V3 d e f] (V3 x y z)
 | sine (a r:Nat) (h:cn .f32 r=jr (cn .f32 a)):PhiF 211 #[F1 a] (F1 r)
end Go.Proofs.YtbiacfkiakddiaaGreat

namespace Go.Ft
open Ieee
theorem zue {n n':Nat} (d:Nat) (h:n≤n'):rnd n d≤rnd n' d:=by
 have hd:=yy d
 unfold rnd
 generalize (2:Nat) ^ d=D at *
 have h1:n / D≤n' / D:=Nat.div_le_div_right h
 have e1:=Nat.div_add_mod n D
 have e2:=Nat.div_add_mod n' D
 rcases Nat.lt_or_ge (n / D) (n' / D) with h2|h2
 ·have:=Bool.toNat_le (decide (D<2*(n % D)) || (D==2*(n % D) && n / D % 2==1))
  omega
 ·have h3:n / D=n' / D:=Nat.le_antisymm h1 h2
  rw[h3]at e1 ⊢
  have h4:n % D≤n' % D:=by omega
  generalize n' / D=q at *
  generalize n % D=r at *
  generalize n' % D=r' at *
  refine Nat.add_le_add_left ?_ _
  by_cases c1:D<2*r'
  ·rw[decide_eq_true c1,Bool.true_or];exact Bool.toNat_le _
  ·have c2:¬ D<2*r:=by omega
   rw[decide_eq_false c1,decide_eq_false c2,Bool.false_or,Bool.false_or]
   by_cases c3:D=2*r
   ·have c4:D=2*r':=by omega
    have f1:(D==2*r)=true:=beq_iff_eq.2 c3
    have f2:(D==2*r')=true:=beq_iff_eq.2 c4
    rw[f1,f2];exact Nat.le_refl _
   ·have f1:(D==2*r)=false:=beq_eq_false_iff_ne.2 c3
    rw[f1];exact Nat.zero_le _

theorem zp8 (m:Nat) {e:Int} (he:-6000≤e) (l:Int):R m (e-l)=R (val m e) (-6000-l):=by
 have:=zqf m (e+6000).toNat (e-l)
 rw[show e-l-((e+6000).toNat:Int)=-6000-l by omega]at this
 exact this.symm
theorem zxs {m n:Nat} (t:Int) (h:m≤n):R m t≤R n t:=zue _ (Nat.mul_le_mul_right _ h)

theorem zsz {a b:Nat} (ha:a ≠ 0) (h:a≤b):a.log2≤b.log2:=(Nat.le_log2 (by omega)).2 (Nat.le_trans (Nat.log2_self_le ha) h)
theorem zfi {m:Nat} (h:m ≠ 0) (e:Int):(val m e).log2=m.log2+(e+6000).toNat:=zd2 h _

variable (f:Format)
def rg (m:Nat) (e:Int):Nat:=if m=0 then 0 else (last f m e-f.leastPlace).toNat*f.binade+R m (e-last f m e)

theorem kf (s:Bool) (m:Nat) (e:Int):f.nearest s m e=f.word s (min (rg f m e) f.infRung):=by
 unfold rg
 by_cases h:m=0
 ·subst h
  unfold Format.nearest
  rw[if_pos rfl,if_pos rfl,Nat.zero_min]
 ·rw[if_neg h,kj f s h]

theorem zef {m n:Nat} {e e':Int} (he:-6000≤e) (he':-6000≤e') (h:val m e≤val n e'):rg f m e≤rg f n e':=by
 unfold rg
 by_cases hm:m=0
 ·rw[if_pos hm];exact Nat.zero_le _
 have hn:n ≠ 0:=fun hn=>by
  rw[val_zero.2 hn]at h
  exact hm (val_zero.1 (Nat.le_zero.1 h))
 rw[if_neg hm,if_neg hn]
 have h1:=zsz (fun h0=>hm (val_zero.1 h0)) h
 rw[zfi hm,zfi hn]at h1
 have hL:last f m e≤last f n e':=by unfold last;omega
 have g1:=zd9 f m e
 have k1:=zfr f hm e
 have k2:=zp9 f hn e'
 rcases Int.lt_or_eq_of_le hL with hlt|heq
 ·have hb:f.binade≤R n (e'-last f n e'):=by
   rcases k2 with k|k
   ·omega
   ·exact k
  have:=Nat.mul_le_mul_right f.binade (show (last f m e-f.leastPlace).toNat+1≤(last f n e'-f.leastPlace).toNat by omega)
  rw[Nat.add_mul]at this
  omega
 ·rw[heq,zp8 m he,zp8 n he']
  exact Nat.add_le_add_left (zxs _ h) _

theorem zyw {m n:Nat} {e e':Int} (he:-6000≤e) (he':-6000≤e') (h:val m e=val n e'):rg f m e=rg f n e' :=
 Nat.le_antisymm (zef f he he' (Nat.le_of_eq h)) (zef f he' he (Nat.le_of_eq h.symm))

def vr (r:Nat):Nat:=match f.read (f.word false r) with
 | .number _ m e=>val m e
 | _=>0

theorem zka (h0:-6000≤f.leastPlace) (s:Bool) {r:Nat} (h:r<f.infRung):∃ m e,f.read (f.word s r)=.number s m e∧val m e=vr f r∧f.leastPlace≤e:=by
 unfold vr
 rw[read_word f s h,read_word f false h]
 split
 ·exact⟨_,_,rfl,rfl,by omega⟩
 ·exact⟨_,_,rfl,rfl,by omega⟩

theorem zov (r:Nat):∃ (l:Int) (k:Nat),f.leastPlace≤l∧k+1≤2*f.binade∧(l=f.leastPlace∨f.binade≤k)∧(l-f.leastPlace).toNat*f.binade+k=r:=by
 have hB:0<f.binade:=yy _
 generalize f.leastPlace=lp
 generalize f.binade=B at *
 by_cases h:r<B
 ·exact⟨lp,r,by omega,by omega,.inl rfl,by simp⟩
 ·have e:=Nat.div_add_mod r B
  have hl:=Nat.mod_lt r hB
  have h1:1≤r / B:=(Nat.le_div_iff_mul_le hB).2 (by omega)
  obtain⟨j,hj⟩:∃ j,r / B=j+1:=⟨r / B-1,by omega⟩
  rw[hj,Nat.mul_comm,Nat.add_mul]at e
  exact⟨lp+(j:Int),B+r % B,by omega,by omega,.inr (by omega),by rw[show (lp+(j:Int)-lp).toNat=j by omega];omega⟩

theorem zwd (h0:-6000≤f.leastPlace) {r:Nat} (h:r+1<f.infRung):vr f r≤vr f (r+1):=by
 obtain⟨l,k,hl,hk,hb,hr⟩:=zov f r
 subst hr
 obtain⟨m,e,r1,v1,_⟩:=zet f false hl h0 (by omega) hb (by omega)
 obtain⟨m',e',r2,v2,_⟩:=zet f false (k:=k+1) hl h0 hk (by omega) (by omega)
 rw[← Nat.add_assoc]at r2
 unfold vr
 rw[r1,r2]
 show val m e≤val m' e'
 rw[v1,v2]
 exact xi.2 (by omega)

theorem zq4 (h0:-6000≤f.leastPlace) {r q:Nat} (h:r≤q) (hq:q<f.infRung):vr f r≤vr f q:=by
 induction q with
 | zero=>rw[Nat.le_zero.1 h];exact Nat.le_refl _
 | succ q ih =>
  rcases Nat.lt_or_ge r (q+1) with h1|h1
  ·exact Nat.le_trans (ih (by omega) (by omega)) (zwd f h0 hq)
  ·rw[show r=q+1 by omega];exact Nat.le_refl _

theorem zqa (hB:f.binade≤f.infRung):vr f 0=0:=by
 have hp:0<f.binade:=yy _
 unfold vr
 rw[read_word f false (by omega),if_pos hp]
 exact val_zero.2 rfl

theorem zkp {s t:Bool} {m n:Nat} {e e':Int}:sval s m e≤sval t n e'↔(s=false∧t=false∧val m e≤val n e')∨(s=true∧t=true∧val n e'≤val m e)∨(s=true∧t=false)∨(s=false∧t=true∧val m e=0∧val n e'=0):=by
 unfold sval
 cases s<;>cases t<;>simp<;>omega

def sr (s:Bool) (r:Nat):Int:=if s then -(r:Int) else r
theorem ze4 {s t:Bool} {r q:Nat}:sr s r≤sr t q↔(s=false∧t=false∧r≤q)∨(s=true∧t=true∧q≤r)∨(s=true∧t=false)∨(s=false∧t=true∧r=0∧q=0):=by
 unfold sr
 cases s<;>cases t<;>simp<;>omega

theorem zmu:-6000≤single.leastPlace:=by decide
theorem bi6:single.binade≤single.infRung:=by decide
theorem pi6:0<single.infRung:=by decide
theorem zug (s:Bool):single.read (single.word s single.infRung)=.infinity s:=by cases s<;>decide +kernel

def leD (d e:Datum):Prop:=d.order e ≠ some .gt
instance (d e:Datum):Decidable (leD d e):=inferInstanceAs (Decidable (d.order e ≠ some .gt))
def jw:Datum→Prop
 | .number _ _ e=>-6000≤e
 | _=>True

theorem le_num {s t:Bool} {m n:Nat} {i j:Int} (hi:-6000≤i) (hj:-6000≤j):leD (.number s m i) (.number t n j)↔sval s m i≤sval t n j:=by
 unfold leD
 rw[order_val s t m n hi hj]
 have h:=@cmp_gt (sval s m i) (sval t n j)
 constructor
 ·intro h1
  rcases Int.lt_or_le (sval t n j) (sval s m i) with h2|h2
  ·exact absurd (by rw[h.2 h2]) h1
  ·exact h2
 ·intro h1 h2
  injection h2 with h2
  have:=h.1 h2
  omega

theorem zb5 {s t:Bool} {r q:Nat} (hr:r≤single.infRung) (hq:q≤single.infRung) (h:sr s r≤sr t q):leD (single.read (single.word s r)) (single.read (single.word t q)):=by
 have hi:=pi6
 rcases Nat.lt_or_eq_of_le hr with h1|h1
 ·obtain⟨m,e,d1,v1,p1⟩:=zka single zmu s h1
  rcases Nat.lt_or_eq_of_le hq with h2|h2
  ·obtain⟨n,e',d2,v2,p2⟩:=zka single zmu t h2
   have hl:=zmu
   rw[d1,d2,le_num (by omega) (by omega),zkp,v1,v2]
   rcases ze4.1 h with⟨a,b,c⟩|⟨a,b,c⟩|⟨a,b⟩|⟨a,b,c,d⟩
   ·exact .inl ⟨a,b,zq4 _ zmu c h2⟩
   ·exact .inr (.inl ⟨a,b,zq4 _ zmu c h1⟩)
   ·exact .inr (.inr (.inl ⟨a,b⟩))
   ·refine .inr (.inr (.inr ⟨a,b,?_,?_⟩))
    ·rw[c];exact zqa _ bi6
    ·rw[d];exact zqa _ bi6
  ·subst h2
   rw[d1,zug]
   unfold leD
   cases t
   ·show (some Ordering.lt) ≠ _;simp
   ·rcases ze4.1 h with⟨a,b,c⟩|⟨a,b,c⟩|⟨a,b⟩|⟨a,b,c,d⟩
    ·cases b
    ·omega
    ·cases b
    ·omega
 ·subst h1
  rw[zug]
  unfold leD
  rcases Nat.lt_or_eq_of_le hq with h2|h2
  ·obtain⟨n,e',d2,v2,p2⟩:=zka single zmu t h2
   rw[d2]
   cases s
   ·rcases ze4.1 h with⟨a,b,c⟩|⟨a,b,c⟩|⟨a,b⟩|⟨a,b,c,d⟩
    ·omega
    ·cases a
    ·cases a
    ·omega
   ·show (some Ordering.lt) ≠ _;simp
  ·subst h2
   rw[zug]
   rcases ze4.1 h with⟨a,b,c⟩|⟨a,b,c⟩|⟨a,b⟩|⟨a,b,c,d⟩
   ·subst a b;decide
   ·subst a b;decide
   ·subst a b;decide
   ·omega

theorem zp5 {m:Nat} {e:Int} (h:val m e=0):rg f m e=0:=by unfold rg;rw[if_pos (val_zero.1 h)]

theorem write_mono {d e:Datum} (hd:jw d) (he:jw e) (nd:d.isNaN=false) (ne:e.isNaN=false) (h:leD d e):leD (single.read (single.write d)) (single.read (single.write e)):=by
 cases d with
 | nan s t=>cases nd
 | infinity s =>
  cases e with
  | nan s t=>cases ne
  | infinity t =>
   show leD (single.read (single.word s single.infRung)) (single.read (single.word t single.infRung))
   rw[zug,zug];exact h
  | number t n j =>
   show leD (single.read (single.word s single.infRung)) (single.read (single.nearest t n j))
   rw[kf]
   refine zb5 (Nat.le_refl _) (Nat.min_le_right _ _) ?_
   cases s
   ·exact absurd rfl h
   ·rw[ze4]
    cases t
    ·exact .inr (.inr (.inl ⟨rfl,rfl⟩))
    ·exact .inr (.inl ⟨rfl,rfl,Nat.min_le_right _ _⟩)
 | number s m i =>
  cases e with
  | nan s t=>cases ne
  | infinity t =>
   show leD (single.read (single.nearest s m i)) (single.read (single.word t single.infRung))
   rw[kf]
   refine zb5 (Nat.min_le_right _ _) (Nat.le_refl _) ?_
   cases t
   ·rw[ze4]
    cases s
    ·exact .inl ⟨rfl,rfl,Nat.min_le_right _ _⟩
    ·exact .inr (.inr (.inl ⟨rfl,rfl⟩))
   ·exact absurd rfl h
  | number t n j =>
   show leD (single.read (single.nearest s m i)) (single.read (single.nearest t n j))
   rw[kf,kf]
   refine zb5 (Nat.min_le_right _ _) (Nat.min_le_right _ _) ?_
   rw[ze4]
   rcases zkp.1 ((le_num hd he).1 h) with⟨a,b,c⟩|⟨a,b,c⟩|⟨a,b⟩|⟨a,b,c,d⟩
   ·have:=zef single hd he c
    exact .inl ⟨a,b,by omega⟩
   ·have:=zef single he hd c
    exact .inr (.inl ⟨a,b,by omega⟩)
   ·exact .inr (.inr (.inl ⟨a,b⟩))
   ·have c1:=zp5 single c
    have d1:=zp5 single d
    exact .inr (.inr (.inr ⟨a,b,by rw[c1];rfl,by rw[d1];rfl⟩))

theorem zwx (s t:Bool) (m n:Nat) {i j:Int} (hi:-6000≤i) (hj:-6000≤j):∃ u k,(Datum.number s m i).sum (.number t n j)=some (.number u k (min i j))∧sval u k (min i j)=sval s m i+sval t n j:=by
 have hb:-6000≤min i j:=by omega
 have e1:=k9 s m hb (show min i j≤i by omega)
 have e2:=k9 t n hb (show min i j≤j by omega)
 refine⟨_,_,rfl,?_⟩
 generalize signed s m (i-min i j).toNat=a at *
 generalize signed t n (j-min i j).toNat=b at *
 rw[← e1,← e2,← Int.add_mul]
 generalize a+b=c
 unfold sval val
 generalize (2:Nat) ^ (min i j+6000).toNat=p
 by_cases hc:c=0
 ·subst hc;simp
 ·rw[if_neg hc]
  by_cases hn:c<0
  ·rw[if_pos (by simpa using hn),Int.natCast_mul,← Int.neg_mul]
   congr 1
   omega
  ·rw[if_neg (by simpa using hn),Int.natCast_mul]
   congr 1
   omega

theorem zl9 {d e d' e' r r':Datum} (pd:jw d) (pe:jw e) (pd':jw d') (pe':jw e') (h1:leD d d') (h2:leD e e') (hr:d.sum e=some r) (hr':d'.sum e'=some r'):leD r r'∧jw r∧jw r':=by
 have key:∀ {d e r:Datum},jw d→jw e→d.sum e=some r→(∃ s m i t n j,d=.number s m i∧e=.number t n j∧∃ u k,r=.number u k (min i j)∧sval u k (min i j)=sval s m i+sval t n j)∨(∃ s,d=.infinity s∧r=.infinity s∧¬ e=.infinity (!s)∧e.isNaN=false)∨(∃ s,e=.infinity s∧r=.infinity s∧¬ d=.infinity (!s)∧d.isNaN=false):=by
  intro d e r pd pe h
  cases d with
  | nan s t=>cases h
  | infinity s =>
   cases e with
   | nan s t=>cases h
   | infinity t =>
    have h':(if s=t then some (Datum.infinity s) else none)=some r:=h
    split at h'
    ·rename_i hst
     subst hst
     injection h' with h'
     exact .inr (.inl ⟨s,rfl,h'.symm,by cases s<;>simp,rfl⟩)
    ·cases h'
   | number t n j =>
    injection h with h
    exact .inr (.inl ⟨s,rfl,h.symm,by simp,rfl⟩)
  | number s m i =>
   cases e with
   | nan s t=>cases h
   | infinity t =>
    injection h with h
    exact .inr (.inr ⟨t,rfl,h.symm,by simp,rfl⟩)
   | number t n j =>
    obtain⟨u,k,h3,h4⟩:=zwx s t m n pd pe
    rw[h3]at h
    injection h with h
    exact .inl ⟨s,m,i,t,n,j,rfl,rfl,u,k,h.symm,h4⟩
 have lo:∀ {x:Datum},¬ x.isNaN=true→leD (.infinity true) x:=by
  intro x hx
  cases x with
  | nan=>exact absurd rfl hx
  | infinity s=>cases s<;>decide
  | number s m e=>show (some Ordering.lt) ≠ _;simp
 have hi:∀ {x:Datum},¬ x.isNaN=true→leD x (.infinity false):=by
  intro x hx
  cases x with
  | nan=>exact absurd rfl hx
  | infinity s=>cases s<;>decide
  | number s m e=>show (some Ordering.lt) ≠ _;simp
 have up:∀ {x:Datum},x.isNaN=false→leD (.infinity false) x→x=.infinity false:=by
  intro x hx h
  cases x with
  | nan=>cases hx
  | infinity s=>cases s;rfl;exact absurd (by decide) h
  | number s m e=>exact absurd rfl h
 have dn:∀ {x:Datum},x.isNaN=false→leD x (.infinity true)→x=.infinity true:=by
  intro x hx h
  cases x with
  | nan=>cases hx
  | infinity s=>cases s;exact absurd (by decide) h;rfl
  | number s m e=>exact absurd rfl h
 rcases key pd pe hr with⟨s,m,i,t,n,j,rfl,rfl,u,k,rfl,hv⟩|⟨s,rfl,rfl,c1,c2⟩|⟨s,rfl,rfl,c1,c2⟩
 ·rcases key pd' pe' hr' with⟨s',m',i',t',n',j',rfl,rfl,u',k',rfl,hv'⟩|⟨s',rfl,rfl,c1',c2'⟩|⟨s',rfl,rfl,c1',c2'⟩
  ·have q1:-6000≤i:=pd
   have q2:-6000≤j:=pe
   have q3:-6000≤i':=pd'
   have q4:-6000≤j':=pe'
   have g1:=(le_num q1 q3).1 h1
   have g2:=(le_num q2 q4).1 h2
   exact⟨(le_num (by omega) (by omega)).2 (by omega),(by show -6000≤min i j;omega),(by show -6000≤min i' j';omega)⟩
  ·refine⟨?_,(by have q1:-6000≤i:=pd;have q2:-6000≤j:=pe;show -6000≤min i j;omega),trivial⟩
   cases s'
   ·exact hi (by intro h;cases h)
   ·exact absurd rfl h1
  ·refine⟨?_,(by have q1:-6000≤i:=pd;have q2:-6000≤j:=pe;show -6000≤min i j;omega),trivial⟩
   cases s'
   ·exact hi (by intro h;cases h)
   ·exact absurd rfl h2
 ·have hp:jw r':=by
   rcases key pd' pe' hr' with⟨s',m',i',t',n',j',rfl,rfl,u',k',rfl,hv'⟩|⟨s',rfl,rfl,c1',c2'⟩|⟨s',rfl,rfl,c1',c2'⟩
   ·have q3:-6000≤i':=pd'
    have q4:-6000≤j':=pe'
    show -6000≤min i' j'
    omega
   ·trivial
   ·trivial
  have hn:¬ r'.isNaN=true:=by
   rcases key pd' pe' hr' with⟨s',m',i',t',n',j',rfl,rfl,u',k',rfl,hv'⟩|⟨s',rfl,rfl,c1',c2'⟩|⟨s',rfl,rfl,c1',c2'⟩<;>(intro h;cases h)
  refine⟨?_,trivial,hp⟩
  cases s
  ·rcases key pd' pe' hr' with⟨s',m',i',t',n',j',rfl,rfl,u',k',rfl,hv'⟩|⟨s',rfl,rfl,c1',c2'⟩|⟨s',rfl,rfl,c1',c2'⟩
   ·exact absurd rfl h1
   ·exact h1
   ·have:=up c2' h1
    subst this
    cases s'
    ·decide
    ·exact absurd rfl c1'
  ·exact lo hn
 ·have hp:jw r':=by
   rcases key pd' pe' hr' with⟨s',m',i',t',n',j',rfl,rfl,u',k',rfl,hv'⟩|⟨s',rfl,rfl,c1',c2'⟩|⟨s',rfl,rfl,c1',c2'⟩
   ·have q3:-6000≤i':=pd'
    have q4:-6000≤j':=pe'
    show -6000≤min i' j'
    omega
   ·trivial
   ·trivial
  have hn:¬ r'.isNaN=true:=by
   rcases key pd' pe' hr' with⟨s',m',i',t',n',j',rfl,rfl,u',k',rfl,hv'⟩|⟨s',rfl,rfl,c1',c2'⟩|⟨s',rfl,rfl,c1',c2'⟩<;>(intro h;cases h)
  refine⟨?_,trivial,hp⟩
  cases s
  ·rcases key pd' pe' hr' with⟨s',m',i',t',n',j',rfl,rfl,u',k',rfl,hv'⟩|⟨s',rfl,rfl,c1',c2'⟩|⟨s',rfl,rfl,c1',c2'⟩
   ·exact absurd rfl h2
   ·have:=up c2' h2
    subst this
    cases s'
    ·decide
    ·exact absurd rfl c1'
   ·exact h2
  ·exact lo hn

theorem znt {c p d x:Nat} (h1:c*2 ^ p<x) (h2:x<(c+1)*2 ^ p) (hd:p+1≤d):rnd x d=c / 2 ^ (d-p)+(decide (2 ^ (d-p-1)≤c % 2 ^ (d-p))).toNat:=by
 obtain⟨t,rfl⟩:∃ t,d=p+(t+1):=⟨d-p-1,by omega⟩
 rw[show p+(t+1)-p=t+1 by omega,show t+1-1=t by omega]
 have hW:=yy p
 have hH:=yy t
 unfold rnd
 rw[yl p (t+1),Nat.pow_succ 2 t]
 generalize (2:Nat) ^ p=W at *
 generalize (2:Nat) ^ t=H at *
 rw[Nat.add_mul,Nat.one_mul]at h2
 have hx:x / W=c:=Nat.div_eq_of_lt_le (Nat.le_of_lt h1) (by rw[Nat.add_mul,Nat.one_mul];exact h2)
 have hxm:x % W=x-c*W:=by have:=Nat.div_add_mod x W;rw[hx,Nat.mul_comm]at this;omega
 rw[← Nat.div_div_eq_div_mul,hx,Nat.mod_mul,hx,hxm]
 generalize hg:c % (H*2)=g
 have hr1:0<x-c*W:=by omega
 have hr2:x-c*W<W:=by omega
 generalize x-c*W=r at *
 have k1:(W*(H*2)<2*(r+W*g))=(H≤g):=by
  have e:W*(H*2)=2*(W*H):=by rw[← Nat.mul_assoc,Nat.mul_comm]
  rw[e]
  apply propext
  constructor
  ·intro h
   rcases Nat.lt_or_ge g H with h3|h3
   ·have:=Nat.mul_le_mul_left W (show g+1≤H from h3)
    rw[Nat.mul_add]at this
    omega
   ·exact h3
  ·intro h
   have:=Nat.mul_le_mul_left W h
   omega
 have k2:(W*(H*2)==2*(r+W*g))=false:=by
  have e:W*(H*2)=2*(W*H):=by rw[← Nat.mul_assoc,Nat.mul_comm]
  rw[e,beq_eq_false_iff_ne]
  intro h
  rcases Nat.lt_or_ge g H with h3|h3
  ·have:=Nat.mul_le_mul_left W (show g+1≤H from h3)
   rw[Nat.mul_add]at this
   omega
  ·have:=Nat.mul_le_mul_left W h3
   omega
 rw[k2,Bool.false_and,Bool.or_false]
 simp only[k1]

theorem zlq {c p x:Nat} (hc:c ≠ 0) (h1:c*2 ^ p<x) (h2:x<(c+1)*2 ^ p):x.log2=c.log2+p:=by
 have hx:x ≠ 0:=by omega
 rw[Nat.log2_eq_iff hx]
 have l1:=Nat.log2_self_le hc
 have l2:c<2 ^ (c.log2+1):=Nat.lt_log2_self
 refine⟨?_,?_⟩
 ·rw[yl]
  exact Nat.le_trans (Nat.mul_le_mul_right _ l1) (Nat.le_of_lt h1)
 ·rw[show c.log2+p+1=(c.log2+1)+p by omega,yl]
  exact Nat.lt_of_lt_of_le h2 (Nat.mul_le_mul_right _ l2)

theorem zw2 {c p:Nat} (hc:c ≠ 0) (hf:f.fractionBits+1≤c.log2) (h0:-6000≤f.leastPlace) {m n:Nat} {e e':Int} (he:-6000≤e) (he':-6000≤e')
  (a1:c*2 ^ p<val m e) (a2:val m e<(c+1)*2 ^ p) (b1:c*2 ^ p<val n e') (b2:val n e'<(c+1)*2 ^ p):rg f m e=rg f n e':=by
 have hm:m ≠ 0:=fun h=>by rw[val_zero.2 h]at a1;omega
 have hn:n ≠ 0:=fun h=>by rw[val_zero.2 h]at b1;omega
 have l1:=zlq hc a1 a2
 have l2:=zlq hc b1 b2
 rw[zfi hm]at l1
 rw[zfi hn]at l2
 have hL:last f m e=last f n e':=by unfold last;omega
 have hp:(p:Int)+1≤6000+last f n e':=by unfold last;omega
 unfold rg
 rw[if_neg hm,if_neg hn,hL,zp8 m he,zp8 n he']
 congr 1
 unfold R
 rw[show (-6000-last f n e').toNat=0 by omega,Nat.pow_zero,Nat.mul_one,Nat.mul_one]
 rw[znt a1 a2 (by omega),znt b1 b2 (by omega)]

def qq (m n k:Nat):Nat:=2*((m <<< k) / n)+((m <<< k) % n != 0).toNat

theorem zqp (h0:-6000≤f.leastPlace) {m n:Nat} (hm:m ≠ 0) (hn:n ≠ 0) (k t:Nat) (hk:f.fractionBits+2+n.log2≤k+m.log2) {P:Int} (hP:-6000≤P-t):rg f (qq m n (k+t)) (P-t)=rg f (qq m n k) P:=by
 have hpos:0<n:=Nat.pos_of_ne_zero hn
 unfold qq
 rw[Nat.shiftLeft_eq,Nat.shiftLeft_eq,yl,← Nat.mul_assoc]
 -- the whole part has enough digits
 have hlog:f.fractionBits+1≤((m*2 ^ k) / n).log2:=by
  have l1:=Nat.log2_self_le hm
  have l2:n<2 ^ (n.log2+1):=Nat.lt_log2_self
  have:2 ^ (f.fractionBits+1)≤(m*2 ^ k) / n:=by
   rw[Nat.le_div_iff_mul_le hpos]
   refine Nat.le_trans (Nat.mul_le_mul_left _ (Nat.le_of_lt l2)) ?_
   refine Nat.le_trans ?_ (Nat.mul_le_mul_right _ l1)
   rw[← yl,← yl]
   exact kr (by omega)
  refine (Nat.le_log2 ?_).2 this
  have:=yy (f.fractionBits+1)
  omega
 generalize m*2 ^ k=X at *
 have hf0:X / n ≠ 0:=fun h=>by rw[h]at hlog;simp at hlog
 have ht:=yy t
 have e:=Nat.div_add_mod X n
 have hl:=Nat.mod_lt X hpos
 by_cases hs:X % n=0
 ·-- nothing is left over
  have hX:X=n*(X / n):=by omega
  have e2:X*2 ^ t / n=X / n*2 ^ t:=by
   rw[hX,Nat.mul_assoc,Nat.mul_div_cancel_left _ hpos,Nat.mul_div_cancel_left _ hpos]
  have e3:X*2 ^ t % n=0:=by rw[hX,Nat.mul_assoc,Nat.mul_mod_right]
  rw[e2,e3,hs]
  simp only[bne_self_eq_false,Bool.toNat_false,Nat.add_zero]
  refine zyw f hP (by omega) ?_
  rw[← Nat.mul_assoc,y6 _ _ hP,show P-(t:Int)+t=P by omega]
 ·generalize hq:X / n=q at *
  generalize hr:X % n=r at *
  have e2:X*2 ^ t / n=q*2 ^ t+r*2 ^ t / n:=by
   rw[← e,Nat.add_mul,Nat.mul_assoc,Nat.mul_add_div hpos]
  have e3:X*2 ^ t % n=r*2 ^ t % n:=by
   rw[← e,Nat.add_mul,Nat.mul_assoc,Nat.mul_add_mod]
  rw[e2,e3]
  generalize hT:(2:Nat) ^ t=T at *
  have hd:=Nat.div_add_mod (r*T) n
  have hz:r*T / n<T:=(Nat.div_lt_iff_lt_mul hpos).2 (by rw[Nat.mul_comm T n];exact Nat.mul_lt_mul_of_pos_right hl ht)
  have hb:=Bool.toNat_le (r*T % n != 0)
  have hnz:0<2*(r*T / n)+(r*T % n != 0).toNat:=by
   rcases Nat.eq_zero_or_pos (r*T / n) with h|h
   ·have h5:r*T % n ≠ 0:=by
     intro h6
     rw[h,h6]at hd
     have:=Nat.mul_pos (Nat.pos_of_ne_zero hs) ht
     omega
    have:(r*T % n != 0)=true:=by simpa using h5
    rw[this];simp
   ·omega
  have hr1:(r != 0)=true:=by simpa using hs
  rw[hr1]
  generalize r*T / n=y at *
  generalize (r*T % n != 0).toNat=z at *
  have hv:∀ k:Nat,val k (P-t)=k*2 ^ (P-t+6000).toNat:=fun _=>rfl
  have hv2:∀ k:Nat,val k P=k*T*2 ^ (P-t+6000).toNat:=fun k=>by
   rw[← hT,show k*2 ^ t*2 ^ (P-t+6000).toNat=val (k*2 ^ t) (P-t) from rfl,y6 _ _ hP,show P-(t:Int)+t=P by omega]
  refine zw2 f hf0 hlog h0 (p:=1+t+(P-t+6000).toNat) hP (by omega) ?_ ?_ ?_ ?_
  all_goals
   rw[yl (1+t),yl 1 t,hT,← Nat.mul_assoc,← Nat.mul_assoc]
   first|rw[hv]|rw[hv2]
   refine Nat.mul_lt_mul_of_pos_right ?_ (yy _)
  ·rw[Nat.pow_one,Nat.mul_right_comm];omega
  ·rw[Nat.pow_one,Nat.mul_right_comm,Nat.add_mul];omega
  ·rw[Nat.pow_one];refine Nat.mul_lt_mul_of_pos_right ?_ ht;simp only[Bool.toNat_true];omega
  ·rw[Nat.pow_one];refine Nat.mul_lt_mul_of_pos_right ?_ ht;simp only[Bool.toNat_true];omega
end Go.Ft

namespace Go.Fl
open Go Go.RowKit Go.Ft Ieee
def leW (a b:Nat):Prop:=FloatKind.f32.format.order a b ≠ some .gt
theorem zew {d e:Datum} (h:d.isNaN=true):leD d e:=by
 cases d with
 | nan s t=>intro h2;cases h2
 | infinity s=>cases h
 | number s m i=>cases h
theorem ziy {d e:Datum} (h:e.isNaN=true):leD d e:=by
 cases e with
 | nan s t=>cases d<;>(intro h2;cases h2)
 | infinity s=>cases h
 | number s m i=>cases h
theorem zuz (d:Datum):leD d d:=by
 cases d with
 | nan s t=>intro h2;cases h2
 | infinity s=>cases s<;>decide
 | number s m i =>
  intro h
  have h':some (compare (signed s m (i-min i i).toNat) (signed s m (i-min i i).toNat))=some Ordering.gt:=h
  injection h' with h'
  have:=cmp_gt.1 h'
  omega
theorem zmf (s:Bool) (m:Nat) (e:Int):sval (!s) m e=-sval s m e:=by
 unfold sval
 cases s<;>simp
theorem zqj {d e:Datum} (pd:jw d) (pe:jw e) (h:leD d e):leD e.opposite d.opposite:=by
 cases d with
 | nan s t=>exact ziy rfl
 | infinity s =>
  cases e with
  | nan s t=>exact zew rfl
  | infinity t=>cases s<;>cases t<;>first|decide|exact absurd rfl h
  | number t n j =>
   cases s
   ·exact absurd rfl h
   ·show (some Ordering.lt) ≠ _;simp
 | number s m i =>
  cases e with
  | nan s t=>exact zew rfl
  | infinity t =>
   cases t
   ·show (some Ordering.lt) ≠ _;simp
   ·exact absurd rfl h
  | number t n j =>
   have h':=(le_num pd pe).1 h
   show leD (.number (!t) n j) (.number (!s) m i)
   rw[le_num pe pd,zmf,zmf]
   omega

theorem x8 (x:Nat):jw (single.read x):=by
 cases h:single.read x with
 | nan s t=>trivial
 | infinity s=>trivial
 | number s m e =>
  have:=(xf h).2.1
  show -6000≤e
  omega
theorem zgo {d:Datum} (h:jw d):jw d.opposite:=by cases d<;>exact h

theorem zkr:(single.read (vd .f32)).isNaN=true:=qu .f32

theorem zkd {x y:Option Datum} (hx:∀ r,x=some r→r.isNaN=false) (hy:∀ r,y=some r→r.isNaN=false) (h:∀ r r',x=some r→y=some r'→leD (single.read (single.write r)) (single.read (single.write r'))) :
  leW ((x.map single.write).getD (vd .f32)) ((y.map single.write).getD (vd .f32)):=by
 cases x with
 | none=>exact zew zkr
 | some r =>
  cases y with
  | none=>exact ziy zkr
  | some r'=>exact h r r' rfl rfl

theorem zus {a b c d:Nat} (h1:leW a b) (h2:leW c d):leW (B .add a c) (B .add b d):=by
 refine zkd (fun r h=>kt h) (fun r h=>kt h) fun r r' hr hr'=>?_
 obtain⟨k1,k2,k3⟩:=zl9 (x8 a) (x8 c) (x8 b) (x8 d) h1 h2 hr hr'
 exact write_mono k2 k3 (kt hr) (kt hr') k1
theorem znl {a b c d:Nat} (h1:leW a b) (h2:leW c d):leW (B .sub a d) (B .sub b c):=by
 refine zkd (fun r h=>kt h) (fun r h=>kt h) fun r r' hr hr'=>?_
 obtain⟨k1,k2,k3⟩:=zl9 (x8 a) (zgo (x8 d)) (x8 b) (zgo (x8 c)) h1 (zqj (x8 c) (x8 d) h2) hr hr'
 exact write_mono k2 k3 (kt hr) (kt hr') k1
theorem zau (a:Nat):leW a a:=zuz _

theorem zwo {m n m' k k':Nat} (h:m <<< k≤m' <<< k'):qq m n k≤qq m' n k':=by
 unfold qq
 generalize m <<< k=X at *
 generalize m' <<< k'=Y at *
 have h1:X / n≤Y / n:=Nat.div_le_div_right h
 have b1:=Bool.toNat_le (X % n != 0)
 rcases Nat.lt_or_eq_of_le h1 with h2|h2
 ·omega
 ·have e1:=Nat.div_add_mod X n
  have e2:=Nat.div_add_mod Y n
  rw[h2]at e1 ⊢
  have:X % n≤Y % n:=by omega
  by_cases hz:X % n=0
  ·rw[hz];simp
  ·have hy:Y % n ≠ 0:=by omega
   have e3:(X % n != 0)=true:=by simpa using hz
   have e4:(Y % n != 0)=true:=by simpa using hy
   rw[e3,e4];exact Nat.le_refl _

theorem zt9 {m m' n:Nat} {i i' j:Int} (hi:-149≤i∧i≤104) (hi':-149≤i'∧i'≤104) (hj:-149≤j∧j≤104) (hm:m<16777216) (hm':m'<16777216) (hn:n ≠ 0) (hn':n<16777216) (h:val m i≤val m' i') :
  rg single (qq m n (25+n.log2-m.log2)) (i-j-(25+n.log2-m.log2:Nat)-1)≤rg single (qq m' n (25+n.log2-m'.log2)) (i'-j-(25+n.log2-m'.log2:Nat)-1):=by
 by_cases h0:m=0
 ·subst h0
  have:qq 0 n (25+n.log2-(0:Nat).log2)=0:=by unfold qq;simp
  rw[this]
  unfold rg
  simp
 have h0':m' ≠ 0:=fun h1=>by
  rw[val_zero.2 h1]at h
  exact h0 (val_zero.1 (Nat.le_zero.1 h))
 have l1:m.log2<24:=(Nat.log2_lt h0).2 hm
 have l2:m'.log2<24:=(Nat.log2_lt h0').2 hm'
 have l3:n.log2<24:=(Nat.log2_lt hn).2 hn'
 generalize hk:25+n.log2-m.log2=k
 generalize hk':25+n.log2-m'.log2=k'
 obtain⟨t,t',htt⟩:∃ t t':Nat,i-k-t=i'-k'-t'∧t≤400∧t'≤400:=by
  rcases Int.le_total (i-k) (i'-k') with hl|hl
  ·exact⟨0,((i'-k')-(i-k)).toNat,by omega⟩
  ·exact⟨((i-k)-(i'-k')).toNat,0,by omega⟩
 have e1:=zqp single zmu h0 hn k t (by have:=fS;omega) (P:=i-j-k-1) (by omega)
 have e2:=zqp single zmu h0' hn k' t' (by have:=fS;omega) (P:=i'-j-k'-1) (by omega)
 rw[← e1,← e2]
 rw[show i-j-(k:Int)-1-t=i'-j-(k':Int)-1-t' by omega]
 refine zef single (by omega) (by omega) (xi.2 (zwo ?_))
 rw[Nat.shiftLeft_eq,Nat.shiftLeft_eq]
 have h2:m*2 ^ (k+t)*2 ^ (i-k-t+6000).toNat≤m'*2 ^ (k'+t')*2 ^ (i-k-t+6000).toNat:=by
  rw[Nat.mul_assoc,Nat.mul_assoc,← yl,← yl]
  unfold val at h
  rw[show k+t+(i-(k:Int)-t+6000).toNat=(i+6000).toNat by omega,show k'+t'+(i-(k:Int)-t+6000).toNat=(i'+6000).toNat by omega]
  exact h
 exact Nat.le_of_mul_le_mul_right h2 (yy _)

def zre (v:Nat):Prop:=∃ n j,single.read v=.number false n j∧n ≠ 0

theorem zt4 {a b v:Nat} (hv:zre v) (h:leW a b):leW (B .quo a v) (B .quo b v):=by
 obtain⟨n,j,hn,h0⟩:=hv
 have bn:=xf hn
 show leW (((((single.read a).quotient 25 (single.read v))).map single.write).getD (vd .f32)) (((((single.read b).quotient 25 (single.read v))).map single.write).getD (vd .f32))
 refine zkd (fun r h=>zb2 h) (fun r h=>zb2 h) fun r r' hr hr'=>?_
 rw[hn]at hr hr'
 have h':leD (single.read a) (single.read b):=h
 cases ha:single.read a with
 | nan s t=>rw[ha]at hr;cases hr
 | infinity s =>
  rw[ha]at hr h'
  have hr2:some (Datum.infinity (s ^^ false))=some r:=hr
  injection hr2 with hr2
  subst hr2
  cases hb:single.read b with
  | nan s t=>rw[hb]at hr';cases hr'
  | infinity t =>
   rw[hb]at hr' h'
   have hr3:some (Datum.infinity (t ^^ false))=some r':=hr'
   injection hr3 with hr3
   subst hr3
   rw[Bool.xor_false,Bool.xor_false]
   exact write_mono trivial trivial rfl rfl h'
  | number t m' i' =>
   rw[hb]at hr' h'
   rw[za1 _ _ _ h0]at hr'
   injection hr' with hr'
   subst hr'
   rw[Bool.xor_false]
   cases s
   ·exact absurd rfl h'
   ·have bb:=xf hb
    refine write_mono trivial ?_ rfl rfl (by show (some Ordering.lt) ≠ _;simp)
    have l3:n.log2<24:=(Nat.log2_lt h0).2 bn.1
    show -6000≤i'-j-((25+n.log2-m'.log2:Nat):Int)-1
    omega
 | number s m i =>
  rw[ha]at hr h'
  rw[za1 _ _ _ h0]at hr
  injection hr with hr
  have ba:=xf ha
  have l3:n.log2<24:=(Nat.log2_lt h0).2 bn.1
  cases hb:single.read b with
  | nan s t=>rw[hb]at hr';cases hr'
  | infinity t =>
   rw[hb]at hr' h'
   have hr3:some (Datum.infinity (t ^^ false))=some r':=hr'
   injection hr3 with hr3
   subst hr3 hr
   rw[Bool.xor_false,Bool.xor_false]
   cases t
   ·refine write_mono ?_ trivial rfl rfl (by show (some Ordering.lt) ≠ _;simp)
    show -6000≤i-j-((25+n.log2-m.log2:Nat):Int)-1
    omega
   ·exact absurd rfl h'
  | number t m' i' =>
   have bb:=xf hb
   rw[hb]at hr' h'
   rw[za1 _ _ _ h0]at hr'
   injection hr' with hr'
   subst hr hr'
   rw[Bool.xor_false,Bool.xor_false]
   show leD (single.read (single.nearest s (qq m n (25+n.log2-m.log2)) (i-j-(25+n.log2-m.log2:Nat)-1))) (single.read (single.nearest t (qq m' n (25+n.log2-m'.log2)) (i'-j-(25+n.log2-m'.log2:Nat)-1)))
   rw[kf,kf]
   refine zb5 (Nat.min_le_right _ _) (Nat.min_le_right _ _) ?_
   rw[ze4]
   rcases zkp.1 ((le_num (by omega) (by omega)).1 h') with⟨a1,b1,c1⟩|⟨a1,b1,c1⟩|⟨a1,b1⟩|⟨a1,b1,c1,d1⟩
   ·have:=zt9 ba.2 bb.2 bn.2 ba.1 bb.1 h0 bn.1 c1
    exact .inl ⟨a1,b1,by omega⟩
   ·have:=zt9 bb.2 ba.2 bn.2 bb.1 ba.1 h0 bn.1 c1
    exact .inr (.inl ⟨a1,b1,by omega⟩)
   ·exact .inr (.inr (.inl ⟨a1,b1⟩))
   ·have z1:=val_zero.1 c1
    have z2:=val_zero.1 d1
    subst z1 z2
    have q0:∀ k,qq 0 n k=0:=fun k=>by unfold qq;simp
    rw[q0]
    exact .inr (.inr (.inr ⟨a1,b1,by unfold rg;simp,by unfold rg;simp⟩))
end Go.Fl

namespace Go.Proofs.YtbiacfkiakddiaaGreat
open Go.RowKit Go.Fl
theorem zc6 {a b:Nat} (h:lek .f32 a b=true):leW a b:=by
 intro h2
 unfold lek at h
 rw[h2]at h
 cases h
end Go.Proofs.YtbiacfkiakddiaaGreat

namespace Go.Proofs.YtbiacfkiakddiaaGreat
open Go.RowKit Go.Fl
def zdz (L:List (Nat × Nat)) (n:Nat):Nat × Nat:=L.getD (n-1) (0,0)

end Go.Proofs.YtbiacfkiakddiaaGreat
