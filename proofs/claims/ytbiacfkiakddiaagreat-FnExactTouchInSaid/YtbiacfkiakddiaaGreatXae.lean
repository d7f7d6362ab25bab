/-
 Lemmas: Tb,Tc.
-/
import Derived.Test.YtbiacfkiakddiaaGreatXab
import Derived.Test.YtbiacfkiakddiaaGreatXad
import Derived.Laws.FloatArith
set_option linter.unusedVariables false
set_option linter.unusedSimpArgs false
namespace Go.Fl
open Go Go.RowKit Go.Ft Ieee
theorem lpS:single.leastPlace=-149:=by decide
theorem lpD:double.leastPlace=-1074:=by decide
theorem bS:single.binade=8388608:=by decide
theorem bD:double.binade=4503599627370496:=by decide
theorem iS:single.infRung=2139095040:=by decide
theorem iD:double.infRung=9218868437227405312:=by decide
theorem sS:single.signWeight=2147483648:=by decide
theorem sD:double.signWeight=9223372036854775808:=by decide
theorem fS:single.fractionBits=23:=rfl
theorem fD:double.fractionBits=52:=rfl

theorem xf {x:Nat} {s:Bool} {m:Nat} {e:Int} (h:single.read x=.number s m e):m<16777216∧-149≤e∧e≤104:=by
 unfold Format.read at h
 simp only[bS,iS,sS,lpS]at h
 split at h
 ·injection h with h1 h2 h3
  omega
 ·split at h
  ·injection h with h1 h2 h3
   omega
  ·split at h<;>cases h

theorem ju {x:Nat} {s:Bool} {m:Nat} {e:Int} (h:double.read x=.number s m e):m<9007199254740992∧-1074≤e∧e≤971:=by
 unfold Format.read at h
 simp only[bD,iD,sD,lpD]at h
 split at h
 ·injection h with h1 h2 h3
  omega
 ·split at h
  ·injection h with h1 h2 h3
   omega
  ·split at h<;>cases h

theorem zbs (s:Bool) {m:Nat} {e b:Int} (he:-6000≤e) (hb:-1074≤b) (hb2:b≤1000) (hv:val m e≤val 1 b) :
  ∃ m' e',double.read (double.nearest s m e)=.number s m' e'∧val m' e'≤val 1 b∧-1074≤e':=by
 have:=zg4 double s he (by rw[lpD];omega) (by rw[lpD];omega) hv (by rw[lpD,bD,iD,fD];omega)
 rwa [lpD]at this

theorem zry (s:Bool) {m:Nat} {e b:Int} (he:-6000≤e) (hb:-149≤b) (hb2:b≤126) (hv:val m e≤val 1 b) :
  ∃ m' e',single.read (single.nearest s m e)=.number s m' e'∧val m' e'≤val 1 b∧-149≤e':=by
 have:=zg4 single s he (by rw[lpS];omega) (by rw[lpS];omega) hv (by rw[lpS,bS,iS,fS];omega)
 rwa [lpS]at this

theorem q8 (s:Bool) {m:Nat} {e:Int} (hm:m<9007199254740992) (he:-1074≤e) (he2:e≤970) :
  ∃ m' e',double.read (double.nearest s m e)=.number s m' e'∧val m' e'=val m e∧-1074≤e':=by
 have:=zbe double s (m:=m) (by rw[bD];omega) (e:=e) (by rw[lpD];omega) (by rw[lpD];omega) (by rw[lpD,bD,iD];omega)
 rwa [lpD]at this

theorem zse (s:Bool) {m:Nat} {e:Int} (hm:m<16777216) (he:-149≤e) (he2:e≤104) :
  ∃ m' e',single.read (single.nearest s m e)=.number s m' e'∧val m' e'=val m e∧-149≤e':=by
 have:=zbe single s (m:=m) (by rw[bS];omega) (e:=e) (by rw[lpS];omega) (by rw[lpS];omega) (by rw[lpS,bS,iS];omega)
 rwa [lpS]at this

theorem zf5 (s:Bool) (m:Nat) (e:Int):FloatKind.f64.encode (.number s m e)=double.nearest s m e:=rfl
theorem zxg (s:Bool) (m:Nat) (e:Int):FloatKind.f32.encode (.number s m e)=single.nearest s m e:=rfl
theorem zyd (x:Nat):FloatKind.f64.decode x=double.read x:=rfl
theorem zxd (x:Nat):FloatKind.f32.decode x=single.read x:=rfl
theorem zc7 {s:Bool} {m:Nat} {e:Int}:¬ (Datum.number s m e).isNaN=true:=fun h=>nomatch h

theorem u8 (x:Nat):zxe x:=by
 intro s m e h
 obtain⟨h1,h2,h3⟩:=xf h
 obtain⟨m',e',h4,-⟩:=q8 s (m:=m) (e:=e) (by omega) (by omega) (by omega)
 rw[zf5,zyd,h4];rfl

theorem zda {x:Nat} {s:Bool} {m:Nat} {e:Int} (h:FloatKind.f32.decode x=.number s m e) :
  ∃ m' e',FloatKind.f64.decode (wid x)=.number s m' e'∧val m' e'=val m e∧-1074≤e':=by
 obtain⟨h1,h2,h3⟩:=xf h
 have hw:wid x=double.nearest s m e:=by unfold wid;rw[h,if_neg zc7,zf5]
 rw[hw]
 exact q8 s (by omega) (by omega) (by omega)

theorem zkf {x:Nat} {s:Bool} (h:FloatKind.f32.decode x=.infinity s):FloatKind.f64.decode (wid x)=.infinity s:=by
 have hw:wid x=FloatKind.f64.encode (.infinity s):=by unfold wid;rw[h,if_neg (fun h=>nomatch h)]
 rw[hw]
 cases s<;>decide +kernel

theorem zkh {x:Nat} (h:(FloatKind.f32.decode x).isNaN=true):wid x=vd .f64:=by unfold wid;rw[if_pos h]
theorem zbp {x:Nat} {s:Bool} {m:Nat} {e:Int} (way:Toward) (h:FloatKind.f64.decode x=.number s m e):whole way x=double.nearest s (way.cut s (m <<< e.toNat) (-e).toNat) 0:=by
 unfold whole
 rw[h,if_neg zc7]
 unfold Datum.integral
 exact zf5 _ _ _
theorem zsy {x:Nat} {s:Bool} (way:Toward) (h:FloatKind.f64.decode x=.infinity s):whole way x=FloatKind.f64.encode (.infinity s):=by
 unfold whole
 rw[h,if_neg (fun h=>nomatch h)]
 rfl
theorem zs0 {x:Nat} (way:Toward) (h:(FloatKind.f64.decode x).isNaN=true):whole way x=vd .f64:=by
 unfold whole
 rw[if_pos h]
theorem zp2 (s:Bool) {m:Nat} (h:m ≠ 0) (i:Int) (d:Nat):(Datum.number s m i).root d=if s then none else
   let more:=2*d-m.log2
   let more:=more+((i-more) % 2).toNat
   let n:=m <<< more
   let whole:=Datum.rootFrom n (n.log2 / 2+1) 0
   some (.number false (2*whole+(whole*whole != n).toNat) ((i-more) / 2-1)):=if_neg h
theorem za1 (s t:Bool) (m:Nat) {n:Nat} (h:n ≠ 0) (i j:Int) (d:Nat):(Datum.number s m i).quotient d (.number t n j) =
  let more:=d+n.log2-m.log2
  let dividend:=m <<< more
  some (.number (s ^^ t) (2*(dividend / n)+(dividend % n != 0).toNat) (i-j-more-1)):=if_neg h

theorem zqg {x:Nat} (h:(FloatKind.f64.decode x).isNaN=true):zco x:=by
 intro s m e hx
 rw[hx]at h;cases h

theorem zlp {x:Nat} {t:Bool} (h:FloatKind.f64.decode x=.infinity t):zco x:=by
 intro s m e hx
 rw[hx]at h;cases h

theorem zbz {x:Nat} {s:Bool} {m:Nat} {e b:Int} (h:FloatKind.f64.decode x=.number s m e) (hb:-149≤b) (hb2:b≤126) (hv:val m e≤val 1 b) (he:-6000≤e):zco x:=by
 intro s' m' e' hx
 rw[h]at hx
 injection hx with h1 h2 h3
 subst h1 h2 h3
 obtain⟨m',e',h4,-⟩:=zry s he hb hb2 hv
 rw[zxg,zxd,h4];rfl

theorem zxh (t:Bool):FloatKind.f64.decode (FloatKind.f64.encode (.infinity t))=.infinity t:=by cases t<;>decide +kernel

theorem zbw {a b:Int} (h:a≤b):val 1 a≤val 1 b:=by
 unfold val
 rw[Nat.one_mul,Nat.one_mul]
 exact kr (by omega)

theorem zdb (x:Nat):zco (whole .even (wid x)):=by
 cases hx:FloatKind.f32.decode x with
 | nan s t =>
  have hn:(FloatKind.f64.decode (wid x)).isNaN=true:=by rw[zkh (by rw[hx];rfl)];exact qu .f64
  refine zqg ?_
  rw[zs0 _ hn]
  exact qu .f64
 | infinity s =>
  have h1:=zkf hx
  refine zlp (t:=s) ?_
  rw[zsy _ h1]
  exact zxh s
 | number s m0 e0 =>
  obtain⟨m1,e1,h1,h2,h3⟩:=zda hx
  obtain⟨hm1,-,-⟩:=ju h1
  obtain⟨hm0,he0,he02⟩:=xf hx
  have hw:whole .even (wid x)=double.nearest s (R m1 e1) 0:=by
   rw[zbp _ h1,zfs,Nat.shiftLeft_eq]
   unfold R
   rfl
  rw[hw]
  rcases Int.le_total 0 e1 with he|he
  ·by_cases hz:m0=0
   ·subst hz
    have:m1=0:=val_zero.1 (by rw[h2];exact val_zero.2 rfl)
    subst this
    have hr:R 0 e1=0:=by rw[zne _ he,Nat.zero_mul]
    rw[hr]
    obtain⟨m',e',h4,h5,h6⟩:=zbs s (m:=0) (e:=0) (b:=0) (by omega) (by omega) (by omega) (by unfold val;omega)
    exact zbz h4 (by omega) (by omega) h5 (by omega)
   ·have hn:double.nearest s (R m1 e1) 0=double.nearest s m0 e0:=by
     have hm1:m1 ≠ 0:=fun h=>hz (val_zero.1 (by rw[← h2];exact val_zero.2 h))
     rw[zne _ he]
     refine nearest_val double s ?_ (by omega) (by omega) ?_
     ·have:=Nat.mul_pos (Nat.pos_of_ne_zero hm1) (yy e1.toNat);omega
     ·rw[y6 _ _ (by omega),← h2];congr 1;omega
    rw[hn]
    obtain⟨m',e',h4,h5,h6⟩:=q8 s (m:=m0) (e:=e0) (by omega) (by omega) (by omega)
    intro s' m'' e'' hx'
    have h4':FloatKind.f64.decode (double.nearest s m0 e0)=.number s m' e':=h4
    rw[h4']at hx'
    injection hx' with g1 g2 g3
    subst g1 g2 g3
    have hm':m' ≠ 0:=fun h=>hz (val_zero.1 (by rw[← h5];exact val_zero.2 h))
    rw[zxg,zxd,nearest_val single s hm' (by omega) (by omega) h5]
    obtain⟨m3,e3,h7,-⟩:=zse s hm0 he0 he02
    rw[h7];rfl
  ·have hr:R m1 e1≤2 ^ 53:=zi9 (by
    rw[show e1.toNat=0 by omega,Nat.pow_zero,Nat.mul_one]
    exact Nat.le_trans (show m1≤2 ^ 53 by omega) (Nat.le_mul_of_pos_right _ (yy _)))
   have hv:val (R m1 e1) 0≤val 1 53:=by
    have:=y6 1 53 (e:=0) (by omega)
    rw[Nat.one_mul]at this
    rw[show (53:Int)=0+((53:Nat):Int) by omega,← this,xi];exact hr
   obtain⟨m',e',h4,h5,h6⟩:=zbs s (e:=0) (b:=53) (by omega) (by omega) (by omega) hv
   exact zbz h4 (by omega) (by omega) h5 (by omega)

theorem zey (n:Nat):∀ (t r:Nat),r*r≤n→Datum.rootFrom n t r*Datum.rootFrom n t r≤n
 | 0,r,h=>h
 | t+1,r,h=>by
  unfold Datum.rootFrom
  refine zey n t _ ?_
  show (if _ then _ else _)*(if _ then _ else _)≤n
  split
  ·assumption
  ·exact h

theorem zit (x:Nat):zco (sqr (wid x)):=by
 have hnan:∀ y,FloatKind.f64.format.sqrt y=none→zco (sqr y):=fun y h=>zqg (by unfold sqr;rw[h];exact qu .f64)
 cases hx:FloatKind.f32.decode x with
 | nan s t =>
  refine hnan _ ?_
  show ((FloatKind.f64.decode (wid x)).root _).map _=none
  rw[zg3 (by rw[zkh (by rw[hx];rfl)];exact qu .f64)];rfl
 | infinity s =>
  have h1:=zkf hx
  cases s
  ·refine zlp (t:=false) ?_
   have:FloatKind.f64.format.sqrt (wid x)=some (FloatKind.f64.encode (.infinity false)):=by
    show ((FloatKind.f64.decode (wid x)).root _).map _=_
    rw[h1];rfl
   unfold sqr
   rw[this]
   exact zxh false
  ·refine hnan _ ?_
   show ((FloatKind.f64.decode (wid x)).root _).map _=none
   rw[h1];rfl
 | number s m0 e0 =>
  obtain⟨m1,e1,h1,h2,h3⟩:=zda hx
  obtain⟨hm1,-,-⟩:=ju h1
  obtain⟨hm0,he0,he02⟩:=xf hx
  by_cases hz:m1=0
  ·subst hz
   have:FloatKind.f64.format.sqrt (wid x)=some (double.nearest s 0 e1):=by
    show ((FloatKind.f64.decode (wid x)).root _).map _=_
    rw[h1]
    exact congrArg some (zf5 s 0 e1)
   unfold sqr
   rw[this]
   obtain⟨m',e',h4,h5,h6⟩:=zbs s (m:=0) (e:=e1) (b:=0) (by omega) (by omega) (by omega) (by unfold val;omega)
   exact zbz (x:=double.nearest s 0 e1) h4 (by omega) (by omega) h5 (by omega)
  ·cases s
   ·obtain⟨more,hmo⟩:∃ more,more=2*54-m1.log2+((e1-((2*54-m1.log2:Nat):Int)) % 2).toNat:=⟨_,rfl⟩
    obtain⟨wh,hwh⟩:∃ wh,wh=Datum.rootFrom (m1 <<< more) ((m1 <<< more).log2 / 2+1) 0:=⟨_,rfl⟩
    have hs:FloatKind.f64.format.sqrt (wid x)=some (double.nearest false (2*wh+(wh*wh != m1 <<< more).toNat) ((e1-more) / 2-1)):=by
     show ((FloatKind.f64.decode (wid x)).root 54).map _=_
     rw[h1,zp2 false hz,if_neg (by decide)]
     simp only[← hmo,← hwh,Option.map_some]
     exact congrArg some (zf5 _ _ _)
    have hsq:wh*wh≤m1*2 ^ more:=by
     rw[hwh,← Nat.shiftLeft_eq]
     exact zey _ _ _ (Nat.zero_le _)
    have hpar:(e1-more) % 2=0:=by omega
    have hmore:more≤109:=by omega
    obtain⟨p,hp⟩:∃ p:Int,e1-more=2*p:=⟨(e1-more) / 2,by omega⟩
    have hd:(e1-more) / 2=p:=by omega
    have hp1:-600≤p:=by omega
    -- the value of the number is below 2 ^ 128
    obtain⟨T,hT⟩:∃ T:Nat,T=3064:=⟨_,rfl⟩
    obtain⟨S,hS⟩:∃ S:Nat,S=6000:=⟨_,rfl⟩
    have hv:m1*2 ^ (e1+6000).toNat≤2 ^ (T+T):=by
     have h24:m0≤2 ^ 24:=by omega
     have h3:(2:Nat) ^ (e0+6000).toNat≤2 ^ (T+T-24):=kr (by omega)
     have h5:=Nat.mul_le_mul h24 h3
     rw[← yl,show 24+(T+T-24)=T+T by omega]at h5
     exact Nat.le_trans (Nat.le_of_eq h2) h5
    have hple:p≤64:=by
     have:2 ^ (e1+6000).toNat≤2 ^ (T+T):=Nat.le_trans (Nat.le_mul_of_pos_left _ (Nat.pos_of_ne_zero hz)) hv
     have:=zek this
     omega
    have hw2:wh*2 ^ (p+3000).toNat≤2 ^ T:=by
     have h4:(wh*2 ^ (p+3000).toNat)*(wh*2 ^ (p+3000).toNat)≤2 ^ T*2 ^ T:=by
      rw[← yl,show wh*2 ^ (p+3000).toNat*(wh*2 ^ (p+3000).toNat)=(wh*wh)*(2 ^ (p+3000).toNat*2 ^ (p+3000).toNat) by rw[Nat.mul_mul_mul_comm],← yl]
      refine Nat.le_trans (Nat.mul_le_mul_right _ hsq) ?_
      rw[Nat.mul_assoc,← yl,show more+((p+3000).toNat+(p+3000).toNat)=(e1+6000).toNat by omega]
      exact hv
     exact Nat.mul_self_le_mul_self_iff.1 h4
    have hM:val (2*wh+(wh*wh != m1 <<< more).toNat) (p-1)≤val 1 126:=by
     have hb:=Bool.toNat_le (wh*wh != m1 <<< more)
     unfold val
     rw[show (p-1+6000).toNat=(p+2999).toNat+(S-3000) by omega,show (126+6000:Int).toNat=(T+61+1)+(S-3000) by omega,yl,yl (T+61+1),Nat.one_mul,← Nat.mul_assoc]
     refine Nat.mul_le_mul_right _ ?_
     have e1':(p+3000).toNat=(p+2999).toNat+1:=by omega
     rw[e1',Nat.pow_succ]at hw2
     have h5:2 ^ (p+2999).toNat≤2 ^ T:=kr (by omega)
     have h6:(2*wh+(wh*wh != m1 <<< more).toNat)*2 ^ (p+2999).toNat≤(2*wh+1)*2 ^ (p+2999).toNat:=Nat.mul_le_mul_right _ (by omega)
     refine Nat.le_trans h6 ?_
     rw[Nat.add_mul,Nat.one_mul]
     have h7:2*wh*2 ^ (p+2999).toNat=wh*(2 ^ (p+2999).toNat*2):=by rw[Nat.mul_comm 2 wh,Nat.mul_assoc,Nat.mul_comm 2]
     rw[h7]
     have h8:(2:Nat) ^ T≤2 ^ (T+61):=kr (by omega)
     have h10:(2:Nat) ^ (T+61+1)=2 ^ (T+61)*2:=Nat.pow_succ 2 (T+61)
     generalize (2:Nat) ^ T=A at *
     generalize (2:Nat) ^ (T+61)=C at *
     generalize (2:Nat) ^ (T+61+1)=D at *
     omega
    rw[hd]at hs
    unfold sqr
    rw[hs]
    obtain⟨m',e',h4,h5,h6⟩:=zbs false (e:=p-1) (b:=126) (by omega) (by omega) (by omega) hM
    exact zbz (x:=double.nearest false _ (p-1)) h4 (by omega) (by omega) h5 (by omega)
   ·refine hnan _ ?_
    show ((FloatKind.f64.decode (wid x)).root _).map _=none
    rw[h1,zp2 true hz,if_pos rfl];rfl

theorem zft {x:Nat} (h:eqk .f32 (B .sub x x) 0=true):∃ s m e,FloatKind.f32.decode x=.number s m e:=by
 have hnone:floatBits .sub .f32 x x=none→False:=fun h'=>by
  have hb:B .sub x x=vd .f32:=by show (floatBits .sub .f32 x x).getD _=_;rw[h'];rfl
  unfold eqk at h
  rw[hb,show FloatKind.f32.format.order (vd .f32) 0=none from by decide +kernel]at h
  cases h
 cases hx:FloatKind.f32.decode x with
 | nan s t=>exact (hnone (by show ((FloatKind.f32.decode x).sum (FloatKind.f32.decode x).opposite).map _=none;rw[hx];rfl)).elim
 | infinity s=>exact (hnone (by show ((FloatKind.f32.decode x).sum (FloatKind.f32.decode x).opposite).map _=none;rw[hx];cases s<;>rfl)).elim
 | number s m e=>exact⟨s,m,e,rfl⟩

theorem zj0 {x:Nat} (h:eqk .f32 (B .sub x x) 0=true):(FloatKind.f64.decode (wid x)).isNaN=false:=by
 obtain⟨s,m,e,hx⟩:=zft h
 obtain⟨m1,e1,h1,-⟩:=zda hx
 rw[h1];rfl

def Lw (b:Int) (x:Nat):Prop:=∃ s m e,FloatKind.f64.decode x=.number s m e∧val m e≤val 1 b

theorem Lw.place {x:Nat} {s:Bool} {m:Nat} {e:Int} (h:FloatKind.f64.decode x=.number s m e):-1074≤e∧e≤971:=(ju h).2

theorem zd6 {b:Int} (s:Bool) {m:Nat} {e:Int} (he:-6000≤e) (hb:-1074≤b) (hb2:b≤1000) (hv:val m e≤val 1 b):Lw b (FloatKind.f64.encode (.number s m e)):=by
 obtain⟨m',e',h1,h2,h3⟩:=zbs s he hb hb2 hv
 exact⟨s,m',e',h1,h2⟩

theorem zd5 {a b:Int} (h:a≤b) {x:Nat} (hx:Lw a x):Lw b x:=by
 obtain⟨s,m,e,h1,h2⟩:=hx
 exact⟨s,m,e,h1,Nat.le_trans h2 (zbw h)⟩

theorem uc (s:Bool) (m k:Nat):(signed s m k).natAbs=m*2 ^ k:=by
 unfold signed
 rw[Nat.shiftLeft_eq]
 cases s
 ·exact Int.natAbs_natCast _
 ·exact (Int.natAbs_neg _).trans (Int.natAbs_natCast _)

theorem zwz {b:Int} (hb:-6000≤b):val 1 b+val 1 b=val 1 (b+1):=by
 unfold val
 rw[Nat.one_mul,Nat.one_mul,show (b+1+6000).toNat=(b+6000).toNat+1 by omega,Nat.pow_succ]
 omega

theorem zp0 (m n:Nat) (e:Int):val (m+n) e=val m e+val n e:=by unfold val;rw[Nat.add_mul]

theorem zt3 {a b:Int} (ha:-1000≤a) (hb:-1000≤b) (ha2:a≤900) (hb2:b≤900) {s t:Bool} {m n:Nat} {i j:Int} (hi:-1074≤i) (hj:-1074≤j) (hm:val m i≤val 1 a) (hn:val n j≤val 1 b) :
  ∃ d,(Datum.number s m i).sum (.number t n j)=some d∧Lw (max a b+1) (FloatKind.f64.encode d):=by
 refine⟨_,rfl,?_⟩
 refine zd6 _ (by omega) (by omega) (by omega) ?_
 refine Nat.le_trans (xi.2 (Int.natAbs_add_le _ _)) ?_
 rw[uc,uc,zp0,y6 _ _ (by omega),y6 _ _ (by omega)]
 rw[show min i j+((i-min i j).toNat:Int)=i by omega,show min i j+((j-min i j).toNat:Int)=j by omega,← zwz (by omega)]
 have h1:=zbw (show a≤max a b by omega)
 have h2:=zbw (show b≤max a b by omega)
 omega

theorem zx0 {a b:Int} (ha:-1000≤a) (hb:-1000≤b) (ha2:a≤900) (hb2:b≤900) {x y:Nat} (hx:Lw a x) (hy:Lw b y):Lw (max a b+1) (D .add x y):=by
 obtain⟨s,m,i,h1,h2⟩:=hx
 obtain⟨t,n,j,h3,h4⟩:=hy
 obtain⟨d,hd,hl⟩:=zt3 (s:=s) (t:=t) ha hb ha2 hb2 (Lw.place h1).1 (Lw.place h3).1 h2 h4
 have:D .add x y=FloatKind.f64.encode d:=by
  show (((FloatKind.f64.decode x).sum (FloatKind.f64.decode y)).map _).getD _=_
  rw[h1,h3,hd];rfl
 rw[this];exact hl

theorem zo7 {a b:Int} (ha:-1000≤a) (hb:-1000≤b) (ha2:a≤900) (hb2:b≤900) {x y:Nat} (hx:Lw a x) (hy:Lw b y):Lw (max a b+1) (D .sub x y):=by
 obtain⟨s,m,i,h1,h2⟩:=hx
 obtain⟨t,n,j,h3,h4⟩:=hy
 obtain⟨d,hd,hl⟩:=zt3 (s:=s) (t:=!t) ha hb ha2 hb2 (Lw.place h1).1 (Lw.place h3).1 h2 h4
 have:D .sub x y=FloatKind.f64.encode d:=by
  show (((FloatKind.f64.decode x).sum (FloatKind.f64.decode y).opposite).map _).getD _=_
  rw[h1,h3]
  show (((Datum.number s m i).sum (.number (!t) n j)).map _).getD _=_
  rw[hd];rfl
 rw[this];exact hl

theorem zjt {a b:Int} (ha:-400≤a) (hb:-400≤b) (hab:a+b≤900) {x y:Nat} (hx:Lw a x) (hy:Lw b y):Lw (a+b) (D .mul x y):=by
 obtain⟨s,m,i,h1,h2⟩:=hx
 obtain⟨t,n,j,h3,h4⟩:=hy
 have hi:=(Lw.place h1)
 have hj:=(Lw.place h3)
 have:D .mul x y=FloatKind.f64.encode (.number (s ^^ t) (m*n) (i+j)):=by
  show (((FloatKind.f64.decode x).product (FloatKind.f64.decode y)).map _).getD _=_
  rw[h1,h3];rfl
 rw[this]
 refine zd6 _ (by omega) (by omega) (by omega) ?_
 unfold val at *
 rw[Nat.one_mul]at *
 obtain⟨S,hS⟩:∃ S:Nat,S=6000:=⟨_,rfl⟩
 have h5:=Nat.mul_le_mul h2 h4
 rw[Nat.mul_mul_mul_comm,← yl,← yl,show (i+6000).toNat+(j+6000).toNat=(i+j+6000).toNat+S by omega,show (a+6000).toNat+(b+6000).toNat=(a+b+6000).toNat+S by omega,
  yl,yl (a+b+6000).toNat,← Nat.mul_assoc]at h5
 exact Nat.le_of_mul_le_mul_right h5 (yy S)

theorem zxm {a:Int} (ha:-400≤a) (ha2:a≤900) {x y:Nat} (hx:Lw a x) {t:Bool} {n:Nat} {j:Int} (hy:FloatKind.f64.decode y=.number t n j) (hn:val 1 0≤val n j):Lw a (D .quo x y):=by
 obtain⟨s,m,i,h1,h2⟩:=hx
 have hi:=(Lw.place h1)
 have hj:=(Lw.place hy)
 have hm53:=(ju h1).1
 have hn0:n ≠ 0:=fun h=>by rw[val_zero.2 h]at hn;have:=val_zero.1 (Nat.le_zero.1 hn);omega
 obtain⟨more,hmore⟩:∃ more,more=54+n.log2-m.log2:=⟨_,rfl⟩
 have hq:D .quo x y=FloatKind.f64.encode (.number (s ^^ t) (2*((m <<< more) / n)+((m <<< more) % n != 0).toNat) (i-j-more-1)):=by
  show (((FloatKind.f64.decode x).quotient 54 (FloatKind.f64.decode y)).map _).getD _=_
  rw[h1,hy,za1 _ _ _ hn0,hmore];rfl
 rw[hq,Nat.shiftLeft_eq]
 have hn53:=(ju hy).1
 have hnl:n.log2<53:=(Nat.log2_lt hn0).2 (by omega)
 have hmr:more≤107:=by omega
 refine zd6 _ (by omega) (by omega) (by omega) ?_
 by_cases hm:m=0
 ·subst hm
  rw[Nat.zero_mul,Nat.zero_div,Nat.zero_mod]
  unfold val
  simp
 -- the dividend is at most 2 ^ K*n,with K=a-(i-j-more)
 have hlm:=Nat.log2_self_le hm
 have hml:m.log2<53:=(Nat.log2_lt hm).2 (by omega)
 have hbig:n≤m*2 ^ more:=by
  refine Nat.le_trans (Nat.le_of_lt (Nat.lt_log2_self (n:=n))) ?_
  refine Nat.le_trans ?_ (Nat.mul_le_mul_right _ hlm)
  rw[← yl]
  exact kr (by omega)
 obtain⟨S,hS⟩:∃ S:Nat,S=6000:=⟨_,rfl⟩
 have h3:m*2 ^ more*2 ^ ((i-more+6000).toNat+S)≤2 ^ (a+6000).toNat*2 ^ S:=by
  unfold val at h2
  rw[Nat.one_mul]at h2
  rw[yl _ S,← Nat.mul_assoc]
  refine Nat.mul_le_mul_right _ ?_
  rw[Nat.mul_assoc,← yl,show more+(i-more+6000).toNat=(i+6000).toNat by omega];exact h2
 unfold val at hn
 rw[Nat.one_mul,show (0+6000:Int).toNat=S by omega]at hn
 have hK:0≤a-(i-j-more):=by
  have h6:=Nat.mul_le_mul_right (2 ^ (i-j-more+6000).toNat) hn
  rw[Nat.mul_assoc,← yl,← yl,show (j+6000).toNat+(i-j-more+6000).toNat=(i-more+6000).toNat+S by omega]at h6
  have h7:=Nat.le_trans h6 (Nat.le_trans (Nat.mul_le_mul_right _ hbig) h3)
  rw[← yl (a+6000).toNat S]at h7
  have:=zek h7
  omega
 obtain⟨K,hKe⟩:∃ K:Nat,(K:Int)=a-(i-j-more):=⟨(a-(i-j-more)).toNat,by omega⟩
 have hdiv:m*2 ^ more≤2 ^ K*n:=by
  have h4:(2:Nat) ^ (a+6000).toNat*2 ^ S≤2 ^ K*n*2 ^ ((i-more+6000).toNat+S):=by
   have h5:(2:Nat) ^ (a+6000).toNat*2 ^ S≤2 ^ (a+6000).toNat*(n*2 ^ (j+6000).toNat):=Nat.mul_le_mul_left _ hn
   refine Nat.le_trans h5 (Nat.le_of_eq ?_)
   rw[Nat.mul_left_comm,← yl,Nat.mul_comm (2 ^ K) n,Nat.mul_assoc n,← yl]
   congr 2
   omega
  exact Nat.le_of_mul_le_mul_right (Nat.le_trans h3 h4) (yy ((i-more+6000).toNat+S))
 have hmag:2*(m*2 ^ more / n)+(m*2 ^ more % n != 0).toNat≤2 ^ (K+1):=by
  have hpos:0<n:=Nat.pos_of_ne_zero hn0
  have hdm:=Nat.div_add_mod (m*2 ^ more) n
  rw[Nat.pow_succ]
  generalize m*2 ^ more=dv at *
  generalize (2:Nat) ^ K=K2 at *
  by_cases hr:dv % n=0
  ·have:dv / n≤K2:=Nat.div_le_of_le_mul (by rw[Nat.mul_comm];exact hdiv)
   rw[hr]
   simp only[bne_self_eq_false,Bool.toNat_false]
   omega
  ·have:dv / n<K2:=(Nat.div_lt_iff_lt_mul hpos).2 (by
    rcases Nat.lt_or_ge dv (K2*n) with h|h
    ·exact h
    ·have:dv=K2*n:=by omega
     rw[this,Nat.mul_mod_left]at hr
     exact absurd rfl hr)
   have hb:=Bool.toNat_le (dv % n != 0)
   omega
 have hfin:val (2 ^ (K+1)) (i-j-more-1)=val 1 a:=by
  have:=y6 1 (K+1) (e:=i-j-more-1) (by omega)
  rw[Nat.one_mul]at this
  rw[this]
  congr 1
  omega
 rw[← hfin,xi]
 exact hmag

theorem zyh {c:Nat} (h:(match FloatKind.f64.decode c with|.number ..=>true|_=>false)=true):∃ s m e,FloatKind.f64.decode c=.number s m e:=by
 cases hc:FloatKind.f64.decode c with
 | number s m e=>exact⟨s,m,e,rfl⟩
 | infinity s=>rw[hc]at h;cases h
 | nan s t=>rw[hc]at h;cases h

theorem zn2:Lw 0 4607182418800017408:=⟨false,4503599627370496,-52,by decide +kernel,by
 have:=y6 1 52 (e:=-52) (by omega)
 rw[Nat.one_mul]at this
 exact Nat.le_of_eq this⟩
theorem zqu:Lw 0 4602678819172646912:=zd5 (show (-1:Int)≤0 by omega) ⟨false,4503599627370496,-53,by decide +kernel,by
 have:=y6 1 52 (e:=-53) (by omega)
 rw[Nat.one_mul]at this
 exact Nat.le_of_eq this⟩
theorem zv7:Lw 3 4618760256179416344:=by
 obtain⟨s,m,e,h⟩:=zyh (c:=4618760256179416344) (by decide +kernel)
 have h2:FloatKind.f64.decode 4618760256179416344=.number false 7074237752028440 (-50):=by decide +kernel
 refine⟨_,_,_,h2,?_⟩
 have:=y6 1 53 (e:=-50) (by omega)
 rw[Nat.one_mul]at this
 rw[show (3:Int)=-50+((53:Nat):Int) by omega,← this,xi]
 omega

theorem zw6 (n:Nat) (h:n<8):∃ t m j,FloatKind.f64.decode (floatOfInt .f64 (zwr n))=.number t m j∧val 1 0≤val m j:=by
 have key:∀ c:Nat,0<c→c<1000→∃ t m j,FloatKind.f64.decode (FloatKind.f64.encode (.number false c 0))=.number t m j∧val 1 0≤val m j:=fun c h0 h1=>by
  obtain⟨m',e',h4,h5,h6⟩:=q8 false (m:=c) (e:=0) (by omega) (by omega) (by omega)
  exact⟨_,_,_,h4,by rw[h5];exact xi.2 h0⟩
 have:n=0∨n=1∨n=2∨n=3∨n=4∨n=5∨n=6∨n=7:=by omega
 rcases this with h|h|h|h|h|h|h|h<;>subst h
 ·exact key 272 (by omega) (by omega)
 ·exact key 210 (by omega) (by omega)
 ·exact key 156 (by omega) (by omega)
 ·exact key 110 (by omega) (by omega)
 ·exact key 72 (by omega) (by omega)
 ·exact key 42 (by omega) (by omega)
 ·exact key 20 (by omega) (by omega)
 ·exact key 6 (by omega) (by omega)

theorem zp7 {u:Nat} (hu:Lw 12 u):∀ n:Nat,n≤8→Lw (13*n) (zfz u n)
 | 0,_=>zn2
 | n+1,h=>by
  have h1:=zp7 hu n (by omega)
  obtain⟨t,m,j,h2,h3⟩:=zw6 n (by omega)
  have h4:=zxm (a:=12+13*(n:Int)) (by omega) (by omega) (zjt (by omega) (by omega) (by omega) hu h1) h2 h3
  have h5:=zo7 (by omega) (by omega) (by omega) (by omega) zn2 h4
  refine zd5 ?_ h5
  omega

theorem zma {m:Nat} {s t:Bool} {k j:Nat} (h:compare (signed s m k) (signed t 0 j)=.eq):m=0:=by
 have h1:signed t 0 j=0:=by unfold signed;cases t<;>simp
 rw[h1]at h
 have h2:signed s m k=0:=by
  have:=Std.LawfulEqOrd.eq_of_compare h
  exact this
 have h3:=uc s m k
 rw[h2]at h3
 have:=yy k
 rcases Nat.mul_eq_zero.1 (show m*2 ^ k=0 by rw[← h3];rfl) with h|h
 ·exact h
 ·omega

theorem zwj {f:Nat} {s:Bool} {m:Nat} {e:Int} (h:FloatKind.f64.decode f=.number s m e):Lw 0 (zej f):=by
 obtain⟨hm,he1,he2⟩:=ju h
 obtain⟨q,hq⟩:∃ q,q=m*2 ^ e.toNat / 2 ^ (-e).toNat:=⟨_,rfl⟩
 have hw:whole .zero f=double.nearest s q 0:=by
  rw[zbp _ h,zf4,Nat.shiftLeft_eq,hq]
 have hqv:val q 0≤val m e∧val m e≤val q 0+val 1 0∧(q=0→val m e≤val 1 0):=by
  rcases Int.le_total 0 e with h0|h0
  ·have hq':q=m*2 ^ e.toNat:=by rw[hq,show (-e).toNat=0 by omega,Nat.pow_zero,Nat.div_one]
   have:val q 0=val m e:=by rw[hq',y6 _ _ (by omega)];congr 1;omega
   exact⟨Nat.le_of_eq this,by omega,fun h=>by rw[← this,h];unfold val;omega⟩
  ·have hq':q=m / 2 ^ (-e).toNat:=by rw[hq,show e.toNat=0 by omega,Nat.pow_zero,Nat.mul_one]
   have hv:∀ r,val r 0=val (r*2 ^ (-e).toNat) e:=fun r=>by rw[y6 _ _ (by omega)];congr 1;omega
   have hdm:=Nat.div_add_mod m (2 ^ (-e).toNat)
   have hml:=Nat.mod_lt m (yy (-e).toNat)
   rw[Nat.mul_comm,← hq']at hdm
   refine⟨?_,?_,fun h=>?_⟩
   ·rw[hv,xi];omega
   ·rw[← zp0,hv,xi,Nat.add_mul,Nat.one_mul];omega
   ·rw[hv,xi,Nat.one_mul];rw[h,Nat.zero_mul]at hdm;omega
 have hex:∃ m' e',FloatKind.f64.decode (double.nearest s q 0)=.number s m' e'∧val m' e'=val q 0:=by
  rcases Int.le_total 0 e with h0|h0
  ·have hq':q=m*2 ^ e.toNat:=by rw[hq,show (-e).toNat=0 by omega,Nat.pow_zero,Nat.div_one]
   by_cases hz:q=0
   ·rw[hz]
    obtain⟨m',e',h4,h5,-⟩:=q8 s (m:=0) (e:=0) (by omega) (by omega) (by omega)
    exact⟨m',e',h4,h5⟩
   ·have hv:val q 0=val m e:=by rw[hq',y6 _ _ (by omega)];congr 1;omega
    rw[nearest_val double s hz (by omega) (by omega) hv,hv]
    have hx:=zbe double s (m:=m) (by rw[bD];omega) (e:=e) (by rw[lpD];omega) (by rw[lpD];omega) (by rw[lpD,bD,iD];omega)
    obtain⟨m',e',h4,h5,-⟩:=hx
    exact⟨m',e',h4,h5⟩
  ·have hq':q=m / 2 ^ (-e).toNat:=by rw[hq,show e.toNat=0 by omega,Nat.pow_zero,Nat.mul_one]
   have:q≤m:=by rw[hq'];exact Nat.div_le_self _ _
   obtain⟨m',e',h4,h5,-⟩:=q8 s (m:=q) (e:=0) (by omega) (by omega) (by omega)
   exact⟨m',e',h4,h5⟩
 obtain⟨m',e',h4,h5⟩:=hex
 have hp:=Lw.place h4
 rw[← hw]at h4
 unfold zej
 by_cases hc:eqk .f64 (whole .zero f) 0=true
 ·rw[if_pos hc]
  have hz:m'=0:=by
   have h0:FloatKind.f64.decode 0=.number false 0 (-1074):=by decide +kernel
   unfold eqk at hc
   have h6:FloatKind.f64.format.order (whole .zero f) 0=(FloatKind.f64.decode (whole .zero f)).order (FloatKind.f64.decode 0):=rfl
   rw[h6,h4,h0]at hc
   have h7:(Datum.number s m' e').order (.number false 0 (-1074))=some (compare (signed s m' (e'-min e' (-1074)).toNat) (signed false 0 (-1074-min e' (-1074)).toNat)):=rfl
   rw[h7]at hc
   exact zma (by simpa using hc)
  have hq0:q=0:=val_zero.1 (by rw[← h5];exact val_zero.2 hz)
  exact⟨s,m,e,h,hqv.2.2 hq0⟩
 ·rw[if_neg hc]
  have hD:∃ n,D .sub f (whole .zero f)=FloatKind.f64.encode (.number n (signed s m (e-min e e').toNat+signed (!s) m' (e'-min e e').toNat).natAbs (min e e')):=by
   refine⟨if signed s m (e-min e e').toNat+signed (!s) m' (e'-min e e').toNat=0 then s && !s else decide (signed s m (e-min e e').toNat+signed (!s) m' (e'-min e e').toNat<0),?_⟩
   show (((FloatKind.f64.decode f).sum (FloatKind.f64.decode (whole .zero f)).opposite).map _).getD _=_
   rw[h,h4]
   rfl
  obtain⟨n,hD⟩:=hD
  rw[hD]
  refine zd6 _ (by omega) (by omega) (by omega) ?_
  have hA:val (m*2 ^ (e-min e e').toNat) (min e e')=val m e:=by rw[y6 _ _ (by omega)];congr 1;omega
  have hB:val (m'*2 ^ (e'-min e e').toNat) (min e e')=val q 0:=by rw[y6 _ _ (by omega),← h5];congr 1;omega
  have hAB:(signed s m (e-min e e').toNat+signed (!s) m' (e'-min e e').toNat).natAbs=m*2 ^ (e-min e e').toNat-m'*2 ^ (e'-min e e').toNat:=by
   have hle:m'*2 ^ (e'-min e e').toNat≤m*2 ^ (e-min e e').toNat:=(xi (e:=min e e')).1 (by rw[hA,hB];exact hqv.1)
   unfold signed
   rw[Nat.shiftLeft_eq,Nat.shiftLeft_eq]
   generalize m*2 ^ (e-min e e').toNat=X at *
   generalize m'*2 ^ (e'-min e e').toNat=Y at *
   cases s
   ·simp only[Bool.false_eq_true,if_false,Bool.not_false,if_true];omega
   ·simp only[Bool.not_true,Bool.false_eq_true,if_false,if_true];omega
  rw[hAB]
  have hsub:val (m*2 ^ (e-min e e').toNat-m'*2 ^ (e'-min e e').toNat) (min e e')=val m e-val q 0:=by
   rw[← hA,← hB]
   unfold val
   rw[Nat.sub_mul]
  rw[hsub]
  have:=hqv.2.1
  omega

theorem zuu {x:Nat} {s:Bool} {m:Nat} {e:Int} (h:FloatKind.f64.decode x=.number s m e):FloatKind.f64.decode (un .f64 x)=.number (!s) m e:=by
 have hd:=vu .f64 x
 rw[h]at hd
 unfold un
 rw[kx (by rw[hd];rfl),hd];rfl

theorem zf9 (x:Nat) (h:eqk .f32 (B .sub x x) 0=true):zco (zf1 (wid x)):=by
 obtain⟨s,m,e,hx⟩:=zft h
 obtain⟨m1,e1,h1,-⟩:=zda hx
 have l1:=zwj h1
 generalize wid x=f at *
 have l2:Lw 1 (zgu f):=by
  unfold zgu
  split
  ·exact zx0 (a:=0) (b:=0) (by omega) (by omega) (by omega) (by omega) l1 zn2
  ·exact zd5 (by omega) l1
 have l3:Lw 2 (zjc f):=by
  unfold zjc
  split
  ·exact zo7 (a:=1) (b:=0) (by omega) (by omega) (by omega) (by omega) l2 zqu
  ·exact zd5 (by omega) l2
 have l4:Lw 3 (zj3 f):=by
  unfold zj3
  split
  ·exact zo7 (a:=0) (b:=2) (by omega) (by omega) (by omega) (by omega) zqu l3
  ·exact zd5 (by omega) l3
 have lz:Lw 6 (zb8 f):=zjt (a:=3) (b:=3) (by omega) (by omega) (by omega) l4 zv7
 have lu:Lw 12 (D .mul (zb8 f) (zb8 f)):=zjt (a:=6) (b:=6) (by omega) (by omega) (by omega) lz lz
 have lo:Lw 110 (zi5 f):=zjt (a:=6) (b:=104) (by omega) (by omega) (by omega) lz (zp7 lu 8 (by omega))
 obtain⟨s2,m2,e2,g1,g2⟩:=lo
 have hp:=Lw.place g1
 unfold zf1
 split
 ·exact zbz (zuu g1) (by omega) (by omega) g2 (by omega)
 ·exact zbz g1 (by omega) (by omega) g2 (by omega)
end Go.Fl

namespace Go.Ft
open Ieee
theorem zf7 (f:Format) (hBi:f.binade≤f.infRung) {x:Nat} {s:Bool} {m:Nat} {e:Int} (h:f.read x=.number s m e) :
  ∃ r,r<f.infRung∧r=x % f.signWeight∧(∀ t,f.nearest t m e=f.word t r∧f.read (f.word t r)=.number t m e)∧(x<2*f.signWeight→x=f.word s r):=by
 have hB:0<f.binade:=yy _
 have hsw:f.infRung<f.signWeight:=Format.infRung_lt f
 have hword:∀ r,r=x % f.signWeight→(x / f.signWeight % 2==1)=s→x<2*f.signWeight→x=f.word s r:=fun r hr hs hx=>by
  have hdm:=Nat.div_add_mod x f.signWeight
  have hlt:x / f.signWeight<2:=Nat.div_lt_of_lt_mul (by rw[Nat.mul_comm];exact hx)
  unfold Format.word
  rw[← hr]at hdm
  have h01:x / f.signWeight=0∨x / f.signWeight=1:=by
   generalize x / f.signWeight=k at hlt
   omega
  rcases h01 with h0|h0
  ·rw[h0]at hdm hs
   rw[← hs]
   simp at hdm ⊢
   omega
  ·rw[h0]at hdm hs
   rw[← hs]
   simp at hdm ⊢
   omega
 unfold Format.read at h
 simp only at h
 by_cases h1:x % f.signWeight<f.binade
 ·rw[if_pos h1]at h
  injection h with hs hm he
  subst hm he
  refine⟨x % f.signWeight,by omega,rfl,fun t=>⟨?_,?_⟩,hword _ rfl hs⟩
  ·by_cases hz:x % f.signWeight=0
   ·rw[hz];unfold Format.nearest;rw[if_pos rfl]
   ·have hl:(x % f.signWeight).log2<f.fractionBits:=(Nat.log2_lt hz).2 h1
    have hla:last f (x % f.signWeight) f.leastPlace=f.leastPlace:=by unfold last;omega
    rw[kj f t hz,hla,zne _ (by omega)]
    congr 1
    rw[show (f.leastPlace-f.leastPlace).toNat=0 by omega,Nat.zero_mul,Nat.zero_add,Nat.pow_zero,Nat.mul_one]
    omega
  ·rw[read_word f t (by omega),if_pos h1]
 ·rw[if_neg h1]at h
  by_cases h2:x % f.signWeight<f.infRung
  ·rw[if_pos h2]at h
   injection h with hs hm he
   subst hm he
   have hq:1≤x % f.signWeight / f.binade:=(Nat.le_div_iff_mul_le hB).2 (by omega)
   have hdm:=Nat.div_add_mod (x % f.signWeight) f.binade
   have hml:=Nat.mod_lt (x % f.signWeight) hB
   have hz:f.binade+x % f.signWeight % f.binade ≠ 0:=by omega
   have hlog:(f.binade+x % f.signWeight % f.binade).log2=f.fractionBits:=by
    rw[Nat.log2_eq_iff hz,Nat.pow_succ]
    unfold Format.binade at *
    omega
   refine⟨x % f.signWeight,h2,rfl,fun t=>⟨?_,?_⟩,hword _ rfl hs⟩
   ·have hla:last f (f.binade+x % f.signWeight % f.binade) (f.leastPlace+(x % f.signWeight / f.binade-1:Nat))=f.leastPlace+(x % f.signWeight / f.binade-1:Nat):=by unfold last;rw[hlog];omega
    rw[kj f t hz,hla,zne _ (by omega)]
    congr 1
    rw[show (f.leastPlace+((x % f.signWeight / f.binade-1:Nat):Int)-f.leastPlace).toNat=x % f.signWeight / f.binade-1 by omega,show (f.leastPlace+((x % f.signWeight / f.binade-1:Nat):Int)-(f.leastPlace+((x % f.signWeight / f.binade-1:Nat):Int))).toNat=0 by omega,Nat.pow_zero,Nat.mul_one]
    have:(x % f.signWeight / f.binade-1)*f.binade+(f.binade+x % f.signWeight % f.binade)=x % f.signWeight:=by
     obtain⟨q,hq'⟩:∃ q,x % f.signWeight / f.binade=q+1:=⟨_,(Nat.sub_add_cancel hq).symm⟩
     rw[hq']at hdm ⊢
     rw[Nat.add_sub_cancel]
     rw[Nat.mul_add,Nat.mul_one,Nat.mul_comm]at hdm
     omega
    rw[this]
    omega
   ·rw[read_word f t h2,if_neg h1]
  ·rw[if_neg h2]at h
   split at h<;>cases h

def sval (s:Bool) (m:Nat) (e:Int):Int:=if s then -(val m e:Int) else val m e

theorem k9 (s:Bool) (m:Nat) {i b:Int} (hb:-6000≤b) (h:b≤i):signed s m (i-b).toNat*(2 ^ (b+6000).toNat:Nat)=sval s m i:=by
 have hv:m*2 ^ (i-b).toNat*2 ^ (b+6000).toNat=val m i:=by
  have:=y6 m (i-b).toNat hb
  rw[show b+((i-b).toNat:Int)=i by omega]at this
  exact this
 unfold signed sval
 rw[Nat.shiftLeft_eq,← hv]
 cases s
 ·simp only[Bool.false_eq_true,if_false];rw[Int.natCast_mul (m*2 ^ (i-b).toNat)]
 ·simp only[if_true];rw[Int.natCast_mul (m*2 ^ (i-b).toNat),Int.neg_mul]

theorem zrw (a b:Int) {k:Nat} (hk:0<k):compare (a*k) (b*k)=compare a b:=by
 have hk':(0:Int)<k:=by omega
 have h1:(a*k<b*k)=(a<b):=propext ⟨fun h=>Int.lt_of_mul_lt_mul_right h (Int.le_of_lt hk'),fun h=>Int.mul_lt_mul_of_pos_right h hk'⟩
 have h2:(a*k=b*k)=(a=b):=propext ⟨fun h=>Int.eq_of_mul_eq_mul_right (by omega) h,fun h=>by rw[h]⟩
 show compareOfLessAndEq _ _=compareOfLessAndEq _ _
 unfold compareOfLessAndEq
 simp only[h1,h2]

theorem order_val (s t:Bool) (m n:Nat) {i j:Int} (hi:-6000≤i) (hj:-6000≤j):(Datum.number s m i).order (.number t n j)=some (compare (sval s m i) (sval t n j)):=by
 have hb:-6000≤min i j:=by omega
 show some (compare (signed s m (i-min i j).toNat) (signed t n (j-min i j).toNat))=_
 rw[← zrw _ _ (yy (min i j+6000).toNat),k9 s m hb (by omega),k9 t n hb (by omega)]

theorem cmp_lt {a b:Int}:compare a b=.lt↔a<b:=by
 show compareOfLessAndEq _ _=_↔_
 unfold compareOfLessAndEq
 split
 ·simp[*]
 ·split<;>simp[*]
theorem cmp_eq {a b:Int}:compare a b=.eq↔a=b:=by
 show compareOfLessAndEq _ _=_↔_
 unfold compareOfLessAndEq
 split
 ·simp;omega
 ·split<;>simp[*]
theorem cmp_gt {a b:Int}:compare a b=.gt↔b<a:=by
 show compareOfLessAndEq _ _=_↔_
 unfold compareOfLessAndEq
 split
 ·simp;omega
 ·split
  ·simp;omega
  ·simp;omega
end Go.Ft
namespace Go.Fl
open Go Go.RowKit Go.Ft Ieee
theorem rtD {x:Nat} {s:Bool} {m:Nat} {e:Int} (h:FloatKind.f64.decode x=.number s m e) :
  ∃ r,r<double.infRung∧r=x % double.signWeight∧(∀ t,double.nearest t m e=double.word t r∧double.read (double.word t r)=.number t m e)∧(x<2*double.signWeight→x=double.word s r) :=
 zf7 double (by decide) h
theorem rtS {x:Nat} {s:Bool} {m:Nat} {e:Int} (h:FloatKind.f32.decode x=.number s m e) :
  ∃ r,r<single.infRung∧r=x % single.signWeight∧(∀ t,single.nearest t m e=single.word t r∧single.read (single.word t r)=.number t m e)∧(x<2*single.signWeight→x=single.word s r) :=
 zf7 single (by decide) h

theorem zx1 (x:Nat):wid x<2*double.signWeight:=by
 have h2:2 ^ double.width=2*double.signWeight:=by decide
 unfold wid
 split
 ·decide
 ·rw[← h2];exact Format.write_lt double _

theorem zp4 (x:Nat):eqk .f64 (D .sub (wid x) (wid x)) 0=eqk .f32 (B .sub x x) 0:=by
 cases hx:FloatKind.f32.decode x with
 | nan s t =>
  have h1:FloatKind.f32.format.order (B .sub x x) 0=none:=by
   have:B .sub x x=vd .f32:=by
    show (((FloatKind.f32.decode x).sum (FloatKind.f32.decode x).opposite).map _).getD _=_
    rw[hx];rfl
   rw[this];decide +kernel
  have h2:FloatKind.f64.format.order (D .sub (wid x) (wid x)) 0=none:=by
   have:D .sub (wid x) (wid x)=vd .f64:=by rw[zkh (by rw[hx];rfl)];decide +kernel
   rw[this];decide +kernel
  unfold eqk;rw[h1,h2]
 | infinity s =>
  have h1:FloatKind.f32.format.order (B .sub x x) 0=none:=by
   have:B .sub x x=vd .f32:=by
    show (((FloatKind.f32.decode x).sum (FloatKind.f32.decode x).opposite).map _).getD _=_
    rw[hx];cases s<;>rfl
   rw[this];decide +kernel
  have h2:FloatKind.f64.format.order (D .sub (wid x) (wid x)) 0=none:=by
   have:D .sub (wid x) (wid x)=vd .f64:=by
    show (((FloatKind.f64.decode (wid x)).sum (FloatKind.f64.decode (wid x)).opposite).map _).getD _=_
    rw[zkf hx];cases s<;>rfl
   rw[this];decide +kernel
  unfold eqk;rw[h1,h2]
 | number s m e =>
  obtain⟨m1,e1,h1,-⟩:=zda hx
  have key:∀ (k:FloatKind) (y:Nat) (s:Bool) (m:Nat) (e:Int),k.decode y=.number s m e→eqk k (bin .sub k y y) 0=true:=fun k y s m e h=>by
   have hb:bin .sub k y y=k.format.nearest (s && !s) 0 (min e e):=by
    show (((k.decode y).sum (k.decode y).opposite).map _).getD _=_
    rw[h]
    have:signed s m (e-min e e).toNat+signed (!s) m (e-min e e).toNat=0:=by
     unfold signed;cases s<;>simp<;>omega
    show ((some (Datum.number (if signed s m (e-min e e).toNat+signed (!s) m (e-min e e).toNat=0 then s && !s else decide (signed s m (e-min e e).toNat+signed (!s) m (e-min e e).toNat<0)) (signed s m (e-min e e).toNat+signed (!s) m (e-min e e).toNat).natAbs (min e e))).map _).getD _=_
    rw[this]
    rfl
   have hn:∀ t,k.format.nearest t 0 (min e e)=k.format.word t 0:=fun t=>by unfold Format.nearest;rw[if_pos rfl]
   rw[hb,hn]
   cases k<;>cases s<;>decide +kernel
  have a1:=key .f64 _ _ _ _ h1
  have a2:=key .f32 _ _ _ _ hx
  show eqk .f64 (bin .sub .f64 (wid x) (wid x)) 0=eqk .f32 (bin .sub .f32 x x) 0
  rw[a1,a2]

theorem zr5 (x:Nat) (h:x<18446744073709551616):(Go.bits .andNot .u64 (x:Int) 9223372036854775808).toNat=x % 9223372036854775808:=by
 unfold Go.bits
 have e1:(BitVec.ofInt 64 (x:Int)).toNat=x:=by
  rw[BitVec.toNat_ofInt]
  have:(2:Nat) ^ 64=18446744073709551616:=by decide
  omega
 have e2:(~~~(BitVec.ofInt 64 9223372036854775808)).toNat=2 ^ 63-1:=by decide
 have e3:(BitVec.ofInt 64 (x:Int) &&& ~~~(BitVec.ofInt 64 9223372036854775808)).toNat=x % 9223372036854775808:=by
  rw[BitVec.toNat_and,e1,e2,Nat.and_two_pow_sub_one_eq_mod]
 show (IntKind.u64.wrap ((BitVec.ofInt 64 (x:Int) &&& ~~~(BitVec.ofInt 64 9223372036854775808)).toNat:Nat)).toNat=_
 rw[e3]
 have:x % 9223372036854775808<9223372036854775808:=Nat.mod_lt _ (by decide)
 have hw:IntKind.u64.wrap ((x % 9223372036854775808:Nat):Int)=((x % 9223372036854775808:Nat):Int):=by
  simp[IntKind.wrap,IntKind.bits,IntKind.signed]
  omega
 rw[hw];rfl

theorem zqm {y:Nat} {s:Bool} {m:Nat} {e:Int} (hy:y<2*double.signWeight) (h:FloatKind.f64.decode y=.number s m e):FloatKind.f64.decode (zb0 y)=.number false m e:=by
 obtain⟨r,hr,hrm,hall,-⟩:=rtD h
 rw[sD]at hy hrm
 unfold zb0
 rw[zr5 y (by omega),← hrm]
 exact (hall false).2

theorem zx4 {y:Nat} {s:Bool} {m:Nat} {e:Int} (hy:y<2*double.signWeight) (h:FloatKind.f64.decode y=.number s m e) :
  ((FloatKind.f64.format.order y 4841369599423283200==some .gt || FloatKind.f64.format.order y 4841369599423283200==some .eq) || (FloatKind.f64.format.order y 14064741636278059008==some .lt || FloatKind.f64.format.order y 14064741636278059008==some .eq))
   = gek .f64 (zb0 y) 4841369599423283200:=by
 have hp:=Lw.place h
 have ha:=zqm hy h
 have c1:FloatKind.f64.decode 4841369599423283200=.number false 4503599627370496 0:=by decide +kernel
 have c2:FloatKind.f64.decode 14064741636278059008=.number true 4503599627370496 0:=by decide +kernel
 have o1:FloatKind.f64.format.order y 4841369599423283200=some (compare (sval s m e) (sval false 4503599627370496 0)):=by
  show (FloatKind.f64.decode y).order (FloatKind.f64.decode _)=_
  rw[h,c1,order_val _ _ _ _ (by omega) (by omega)]
 have o2:FloatKind.f64.format.order y 14064741636278059008=some (compare (sval s m e) (sval true 4503599627370496 0)):=by
  show (FloatKind.f64.decode y).order (FloatKind.f64.decode _)=_
  rw[h,c2,order_val _ _ _ _ (by omega) (by omega)]
 have o3:FloatKind.f64.format.order (zb0 y) 4841369599423283200=some (compare (sval false m e) (sval false 4503599627370496 0)):=by
  show (FloatKind.f64.decode (zb0 y)).order (FloatKind.f64.decode _)=_
  rw[ha,c1,order_val _ _ _ _ (by omega) (by omega)]
 unfold gek
 rw[o1,o2,o3,Bool.eq_iff_iff]
 simp only[Bool.or_eq_true,beq_iff_eq,Option.some.injEq,cmp_gt,cmp_eq,cmp_lt]
 unfold sval
 have hz:0<val 4503599627370496 0:=Nat.pos_of_ne_zero fun h=>by have:=val_zero.1 h;omega
 generalize val 4503599627370496 0=A at *
 generalize val m e=v at *
 cases s
 ·simp only[Bool.false_eq_true,if_false,if_true];omega
 ·simp only[Bool.false_eq_true,if_false,if_true];omega

theorem zrb {y:Nat} {s:Bool} {m:Nat} {e:Int} (hy:y<2*double.signWeight) (h:FloatKind.f64.decode y=.number s m e) (hlt:gek .f64 (zb0 y) 4841369599423283200=false) :
  ∃ n,floatToIntVal .f64 y .i64=some n∧D .sub y (floatOfInt .f64 n)=zej y:=by
 have hp:=ju h
 have ha:=zqm hy h
 have c1:FloatKind.f64.decode 4841369599423283200=.number false 4503599627370496 0:=by decide +kernel
 have o3:FloatKind.f64.format.order (zb0 y) 4841369599423283200=some (compare (sval false m e) (sval false 4503599627370496 0)):=by
  show (FloatKind.f64.decode (zb0 y)).order (FloatKind.f64.decode _)=_
  rw[ha,c1,order_val _ _ _ _ (by omega) (by omega)]
 have hv:val m e<val 4503599627370496 0:=by
  unfold gek at hlt
  rw[o3]at hlt
  simp only[Bool.or_eq_false_iff,beq_eq_false_iff_ne,ne_eq,Option.some.injEq,cmp_gt,cmp_eq]at hlt
  unfold sval at hlt
  simp only[Bool.false_eq_true,if_false]at hlt
  omega
 obtain⟨q,hq⟩:∃ q,q=m*2 ^ e.toNat / 2 ^ (-e).toNat:=⟨_,rfl⟩
 have hq52:q<4503599627370496:=by
  rcases Int.le_total 0 e with h0|h0
  ·have hq':q=m*2 ^ e.toNat:=by rw[hq,show (-e).toNat=0 by omega,Nat.pow_zero,Nat.div_one]
   have h2:val q 0=val m e:=by rw[hq',y6 _ _ (by omega)];congr 1;omega
   rw[← h2]at hv
   rcases Nat.lt_or_ge q 4503599627370496 with h3|h3
   ·exact h3
   ·have:=xi (e:=0).2 h3;omega
  ·have hq':q=m / 2 ^ (-e).toNat:=by rw[hq,show e.toNat=0 by omega,Nat.pow_zero,Nat.mul_one]
   rcases Nat.lt_or_ge q 4503599627370496 with h3|h3
   ·exact h3
   ·have h4:=xi (e:=0).2 h3
    have hvq:val q 0=val (q*2 ^ (-e).toNat) e:=by rw[y6 _ _ (by omega)];congr 1;omega
    have h5:q*2 ^ (-e).toNat≤m:=by rw[hq'];exact Nat.div_mul_le_self _ _
    have h6:=xi (e:=e).2 h5
    omega
 have hw:whole .zero y=double.nearest s q 0:=by rw[zbp _ h,zf4,Nat.shiftLeft_eq,hq]
 have hti:(FloatKind.f64.decode y).toInt .zero=some (signed s q 0):=by
  rw[h]
  show some (signed s (Toward.zero.cut s (m <<< e.toNat) (-e).toNat) 0)=_
  rw[zf4,Nat.shiftLeft_eq,hq]
 have hsq:signed s q 0=if s then -(q:Int) else q:=by unfold signed;simp
 refine⟨signed s q 0,?_,?_⟩
 ·unfold floatToIntVal
  rw[hti]
  have hmin:IntKind.i64.min=-9223372036854775808:=by decide
  have hmax:IntKind.i64.max=9223372036854775807:=by decide
  have:IntKind.i64.min≤signed s q 0∧signed s q 0≤IntKind.i64.max:=by
   rw[hmin,hmax,hsq]
   cases s
   ·simp only[Bool.false_eq_true,if_false];omega
   ·simp only[if_true];omega
  simp only[this,and_self,if_true]
 ·have hfo:floatOfInt .f64 (signed s q 0)=double.nearest (decide (signed s q 0<0)) (signed s q 0).natAbs 0:=rfl
  have hna:(signed s q 0).natAbs=q:=by rw[uc,Nat.pow_zero,Nat.mul_one]
  rw[hfo,hna]
  obtain⟨m',e',h4,h5,h6⟩:=q8 s (m:=q) (e:=0) (by omega) (by omega) (by omega)
  have h4':FloatKind.f64.decode (whole .zero y)=.number s m' e':=by rw[hw];exact h4
  have h0:FloatKind.f64.decode 0=.number false 0 (-1074):=by decide +kernel
  have hord:FloatKind.f64.format.order (whole .zero y) 0=some (compare (sval s m' e') (sval false 0 (-1074))):=by
   show (FloatKind.f64.decode (whole .zero y)).order (FloatKind.f64.decode 0)=_
   rw[h4',h0,order_val _ _ _ _ (by omega) (by omega)]
  have hs0:sval false 0 (-1074)=0:=by unfold sval;simp[val_zero.2]
  have hsv:sval s m' e'=0↔q=0:=by
   unfold sval
   rw[h5]
   have:=@val_zero q 0
   cases s
   ·simp only[Bool.false_eq_true,if_false];omega
   ·simp only[if_true];omega
  by_cases hz:q=0
  ·have he:eqk .f64 (whole .zero y) 0=true:=by
    unfold eqk
    rw[hord,hs0,hsv.2 hz];decide
   unfold zej
   rw[if_pos he]
   have hd:double.nearest (decide (signed s q 0<0)) q 0=0:=by
    have:¬ signed s q 0<0:=by rw[hsq,hz];cases s<;>simp
    rw[hz]at this ⊢
    unfold Format.nearest
    rw[if_pos rfl,decide_eq_false this];rfl
   rw[hd]
   -- y-0=y
   obtain⟨r,hr,hrm,hall,hxw⟩:=rtD h
   have hyw:=hxw hy
   have hD:D .sub y 0=double.nearest (if signed s m (e-min e (-1074)).toNat+signed true 0 (-1074-min e (-1074)).toNat=0 then s && true else decide (signed s m (e-min e (-1074)).toNat+signed true 0 (-1074-min e (-1074)).toNat<0)) (signed s m (e-min e (-1074)).toNat+signed true 0 (-1074-min e (-1074)).toNat).natAbs (min e (-1074)):=by
    show (((FloatKind.f64.decode y).sum (FloatKind.f64.decode 0).opposite).map _).getD _=_
    rw[h,h0];rfl
   have hzz:signed true 0 (-1074-min e (-1074)).toNat=0:=by unfold signed;simp
   rw[hD,hzz,Int.add_zero,uc]
   have hmin:min e (-1074)=-1074:=by omega
   rw[hmin]
   by_cases hm:m=0
   ·subst hm
    have:signed s 0 (e - -1074).toNat=0:=by unfold signed;simp
    rw[this,if_pos rfl,Bool.and_true,Nat.zero_mul,hyw]
    unfold Format.nearest
    rw[if_pos rfl]
    have h7:=(hall s).1
    unfold Format.nearest at h7
    rw[if_pos rfl]at h7
    exact h7
   ·have hne:signed s m (e - -1074).toNat ≠ 0:=fun h'=>by
     have:=uc s m (e - -1074).toNat
     rw[h']at this
     have hp2:=yy (e - -1074).toNat
     rcases Nat.mul_eq_zero.1 (show m*2 ^ (e - -1074).toNat=0 by rw[← this];rfl) with h|h
     ·exact hm h
     ·omega
    have hneg:decide (signed s m (e - -1074).toNat<0)=s:=by
     cases s
     ·have h9:signed false m (e - -1074).toNat=((m <<< (e - -1074).toNat:Nat):Int):=rfl
      rw[h9]at hne ⊢
      clear h9
      generalize m <<< (e - -1074).toNat=X at hne ⊢
      exact decide_eq_false (by omega)
     ·have h9:signed true m (e - -1074).toNat=-((m <<< (e - -1074).toNat:Nat):Int):=rfl
      rw[h9]at hne ⊢
      clear h9
      generalize m <<< (e - -1074).toNat=X at hne ⊢
      exact decide_eq_true (by omega)
    rw[if_neg hne,hneg]
    have:=j6 double s hm (e - -1074).toNat e
    rw[show e-((e - -1074).toNat:Int)=-1074 by omega]at this
    rw[this,(hall s).1,← hyw]
  ·have he:eqk .f64 (whole .zero y) 0=false:=by
    unfold eqk
    rw[hord,hs0]
    have:¬ sval s m' e'=0:=fun h=>hz (hsv.1 h)
    simp only[beq_eq_false_iff_ne,ne_eq,Option.some.injEq,cmp_eq]
    exact this
   unfold zej
   rw[he]
   simp only[Bool.false_eq_true,if_false]
   congr 1
   rw[hw]
   have:decide (signed s q 0<0)=s:=by
    rw[hsq]
    cases s
    ·simp only[Bool.false_eq_true,if_false,decide_eq_false_iff_not];omega
    ·simp only[if_true,decide_eq_true_eq];omega
   rw[this]
end Go.Fl
