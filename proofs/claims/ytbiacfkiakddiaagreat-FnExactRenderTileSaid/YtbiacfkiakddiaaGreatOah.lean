/-
 Lemmas: Tb.
-/
import Derived.Test.YtbiacfkiakddiaaGreatOaa
import Derived.Test.YtbiacfkiakddiaaGreatOad
set_option linter.unusedVariables false
set_option linter.unusedSimpArgs false
namespace Go.Fl
open Go Go.RowKit Go.Ft Ieee
theorem lpS:single.leastPlace = -149:=by decide
theorem lpD:double.leastPlace = -1074:=by decide
theorem bS:single.binade = 8388608:=by decide
theorem bD:double.binade = 4503599627370496:=by decide
theorem iS:single.infRung = 2139095040:=by decide
theorem iD:double.infRung = 9218868437227405312:=by decide
theorem sS:single.signWeight = 2147483648:=by decide
theorem sD:double.signWeight = 9223372036854775808:=by decide
theorem fS:single.fractionBits = 23:=rfl
theorem fD:double.fractionBits = 52:=rfl

theorem read_single {x:Nat} {s:Bool} {m:Nat} {e:Int} (h:single.read x = .number s m e):m < 16777216 ∧ -149 ≤ e ∧ e ≤ 104:=by
 unfold Format.read at h
 simp only [bS,iS,sS,lpS] at h
 split at h
 ·injection h with h1 h2 h3
  omega
 ·split at h
  ·injection h with h1 h2 h3
   omega
  ·split at h <;> cases h

theorem read_double {x:Nat} {s:Bool} {m:Nat} {e:Int} (h:double.read x = .number s m e):m < 9007199254740992 ∧ -1074 ≤ e ∧ e ≤ 971:=by
 unfold Format.read at h
 simp only [bD,iD,sD,lpD] at h
 split at h
 ·injection h with h1 h2 h3
  omega
 ·split at h
  ·injection h with h1 h2 h3
   omega
  ·split at h <;> cases h

theorem le_double (s:Bool) {m:Nat} {e b:Int} (he:-6000 ≤ e) (hb:-1074 ≤ b) (hb2:b ≤ 1000) (hv:val m e ≤ val 1 b) :
  ∃ m' e',double.read (double.nearest s m e) = .number s m' e' ∧ val m' e' ≤ val 1 b ∧ -1074 ≤ e':=by
 have:=nearest_le double s he (by rw [lpD];omega) (by rw [lpD];omega) hv (by rw [lpD,bD,iD,fD];omega)
 rwa [lpD] at this

theorem le_single (s:Bool) {m:Nat} {e b:Int} (he:-6000 ≤ e) (hb:-149 ≤ b) (hb2:b ≤ 126) (hv:val m e ≤ val 1 b) :
  ∃ m' e',single.read (single.nearest s m e) = .number s m' e' ∧ val m' e' ≤ val 1 b ∧ -149 ≤ e':=by
 have:=nearest_le single s he (by rw [lpS];omega) (by rw [lpS];omega) hv (by rw [lpS,bS,iS,fS];omega)
 rwa [lpS] at this

theorem ex_double (s:Bool) {m:Nat} {e:Int} (hm:m < 9007199254740992) (he:-1074 ≤ e) (he2:e ≤ 970) :
  ∃ m' e',double.read (double.nearest s m e) = .number s m' e' ∧ val m' e' = val m e ∧ -1074 ≤ e':=by
 have:=nearest_exact double s (m:=m) (by rw [bD];omega) (e:=e) (by rw [lpD];omega) (by rw [lpD];omega) (by rw [lpD,bD,iD];omega)
 rwa [lpD] at this

theorem ex_single (s:Bool) {m:Nat} {e:Int} (hm:m < 16777216) (he:-149 ≤ e) (he2:e ≤ 104) :
  ∃ m' e',single.read (single.nearest s m e) = .number s m' e' ∧ val m' e' = val m e ∧ -149 ≤ e':=by
 have:=nearest_exact single s (m:=m) (by rw [bS];omega) (e:=e) (by rw [lpS];omega) (by rw [lpS];omega) (by rw [lpS,bS,iS];omega)
 rwa [lpS] at this

theorem enc64 (s:Bool) (m:Nat) (e:Int):FloatKind.f64.encode (.number s m e) = double.nearest s m e:=rfl
theorem enc32 (s:Bool) (m:Nat) (e:Int):FloatKind.f32.encode (.number s m e) = single.nearest s m e:=rfl
theorem dec64 (x:Nat):FloatKind.f64.decode x = double.read x:=rfl
theorem dec32 (x:Nat):FloatKind.f32.decode x = single.read x:=rfl
theorem nan_num {s:Bool} {m:Nat} {e:Int}:¬ (Datum.number s m e).isNaN = true:=fun h => nomatch h

theorem fitsW_all (x:Nat):fitsW x:=by
 intro s m e h
 obtain ⟨h1,h2,h3⟩:=read_single h
 obtain ⟨m',e',h4,-⟩:=ex_double s (m:=m) (e:=e) (by omega) (by omega) (by omega)
 rw [enc64,dec64,h4];rfl

/-- A float32 made a float64. -/
theorem wid_num {x:Nat} {s:Bool} {m:Nat} {e:Int} (h:FloatKind.f32.decode x = .number s m e) :
  ∃ m' e',FloatKind.f64.decode (wid x) = .number s m' e' ∧ val m' e' = val m e ∧ -1074 ≤ e':=by
 obtain ⟨h1,h2,h3⟩:=read_single h
 have hw:wid x = double.nearest s m e:=by unfold wid;rw [h,if_neg nan_num,enc64]
 rw [hw]
 exact ex_double s (by omega) (by omega) (by omega)

theorem wid_inf {x:Nat} {s:Bool} (h:FloatKind.f32.decode x = .infinity s):FloatKind.f64.decode (wid x) = .infinity s:=by
 have hw:wid x = FloatKind.f64.encode (.infinity s):=by unfold wid;rw [h,if_neg (fun h => nomatch h)]
 rw [hw]
 cases s <;> decide +kernel

theorem wid_nan {x:Nat} (h:(FloatKind.f32.decode x).isNaN = true):wid x = nanw .f64:=by unfold wid;rw [if_pos h]
theorem whole_num {x:Nat} {s:Bool} {m:Nat} {e:Int} (way:Toward) (h:FloatKind.f64.decode x = .number s m e):whole way x = double.nearest s (way.cut s (m <<< e.toNat) (-e).toNat) 0:=by
 unfold whole
 rw [h,if_neg nan_num]
 unfold Datum.integral
 exact enc64 _ _ _
theorem whole_inf {x:Nat} {s:Bool} (way:Toward) (h:FloatKind.f64.decode x = .infinity s):whole way x = FloatKind.f64.encode (.infinity s):=by
 unfold whole
 rw [h,if_neg (fun h => nomatch h)]
 rfl
theorem whole_nan {x:Nat} (way:Toward) (h:(FloatKind.f64.decode x).isNaN = true):whole way x = nanw .f64:=by
 unfold whole
 rw [if_pos h]
theorem root_eq (s:Bool) {m:Nat} (h:m ≠ 0) (i:Int) (d:Nat):(Datum.number s m i).root d = if s then none else
   let more:=2 * d - m.log2
   let more:=more + ((i - more) % 2).toNat
   let n:=m <<< more
   let whole:=Datum.rootFrom n (n.log2 / 2 + 1) 0
   some (.number false (2 * whole + (whole * whole != n).toNat) ((i - more) / 2 - 1)):=if_neg h
theorem quot_eq (s t:Bool) (m:Nat) {n:Nat} (h:n ≠ 0) (i j:Int) (d:Nat):(Datum.number s m i).quotient d (.number t n j) =
  let more:=d + n.log2 - m.log2
  let dividend:=m <<< more
  some (.number (s ^^ t) (2 * (dividend / n) + (dividend % n != 0).toNat) (i - j - more - 1)):=if_neg h

theorem not_num {x:Nat} (h:(FloatKind.f64.decode x).isNaN = true):fits x:=by
 intro s m e hx
 rw [hx] at h;cases h

theorem fits_inf {x:Nat} {t:Bool} (h:FloatKind.f64.decode x = .infinity t):fits x:=by
 intro s m e hx
 rw [hx] at h;cases h

theorem fits_le {x:Nat} {s:Bool} {m:Nat} {e b:Int} (h:FloatKind.f64.decode x = .number s m e) (hb:-149 ≤ b) (hb2:b ≤ 126) (hv:val m e ≤ val 1 b) (he:-6000 ≤ e):fits x:=by
 intro s' m' e' hx
 rw [h] at hx
 injection hx with h1 h2 h3
 subst h1 h2 h3
 obtain ⟨m',e',h4,-⟩:=le_single s he hb hb2 hv
 rw [enc32,dec32,h4];rfl

theorem inf64 (t:Bool):FloatKind.f64.decode (FloatKind.f64.encode (.infinity t)) = .infinity t:=by cases t <;> decide +kernel

theorem val_one_mono {a b:Int} (h:a ≤ b):val 1 a ≤ val 1 b:=by
 unfold val
 rw [Nat.one_mul,Nat.one_mul]
 exact pow_le2 (by omega)

theorem fits_near (x:Nat):fits (whole .even (wid x)):=by
 cases hx:FloatKind.f32.decode x with
 | nan s t =>
  have hn:(FloatKind.f64.decode (wid x)).isNaN = true:=by rw [wid_nan (by rw [hx];rfl)];exact nan_nanw .f64
  refine not_num ?_
  rw [whole_nan _ hn]
  exact nan_nanw .f64
 | infinity s =>
  have h1:=wid_inf hx
  refine fits_inf (t:=s) ?_
  rw [whole_inf _ h1]
  exact inf64 s
 | number s m0 e0 =>
  obtain ⟨m1,e1,h1,h2,h3⟩:=wid_num hx
  obtain ⟨hm1,-,-⟩:=read_double h1
  obtain ⟨hm0,he0,he02⟩:=read_single hx
  have hw:whole .even (wid x) = double.nearest s (R m1 e1) 0:=by
   rw [whole_num _ h1,cut_rnd,Nat.shiftLeft_eq]
   unfold R
   rfl
  rw [hw]
  rcases Int.le_total 0 e1 with he | he
  ·by_cases hz:m0 = 0
   ·subst hz
    have:m1 = 0:=val_zero.1 (by rw [h2];exact val_zero.2 rfl)
    subst this
    have hr:R 0 e1 = 0:=by rw [R_pos _ he,Nat.zero_mul]
    rw [hr]
    obtain ⟨m',e',h4,h5,h6⟩:=le_double s (m:=0) (e:=0) (b:=0) (by omega) (by omega) (by omega) (by unfold val;omega)
    exact fits_le h4 (by omega) (by omega) h5 (by omega)
   ·have hn:double.nearest s (R m1 e1) 0 = double.nearest s m0 e0:=by
     have hm1:m1 ≠ 0:=fun h => hz (val_zero.1 (by rw [← h2];exact val_zero.2 h))
     rw [R_pos _ he]
     refine nearest_val double s ?_ (by omega) (by omega) ?_
     ·have:=Nat.mul_pos (Nat.pos_of_ne_zero hm1) (pow_pos2 e1.toNat);omega
     ·rw [val_shift _ _ (by omega),← h2];congr 1;omega
    rw [hn]
    obtain ⟨m',e',h4,h5,h6⟩:=ex_double s (m:=m0) (e:=e0) (by omega) (by omega) (by omega)
    intro s' m'' e'' hx'
    have h4':FloatKind.f64.decode (double.nearest s m0 e0) = .number s m' e':=h4
    rw [h4'] at hx'
    injection hx' with g1 g2 g3
    subst g1 g2 g3
    have hm':m' ≠ 0:=fun h => hz (val_zero.1 (by rw [← h5];exact val_zero.2 h))
    rw [enc32,dec32,nearest_val single s hm' (by omega) (by omega) h5]
    obtain ⟨m3,e3,h7,-⟩:=ex_single s hm0 he0 he02
    rw [h7];rfl
  ·have hr:R m1 e1 ≤ 2 ^ 53:=rnd_le (by
    rw [show e1.toNat = 0 by omega,Nat.pow_zero,Nat.mul_one]
    exact Nat.le_trans (show m1 ≤ 2 ^ 53 by omega) (Nat.le_mul_of_pos_right _ (pow_pos2 _)))
   have hv:val (R m1 e1) 0 ≤ val 1 53:=by
    have:=val_shift 1 53 (e:=0) (by omega)
    rw [Nat.one_mul] at this
    rw [show (53:Int) = 0 + ((53:Nat):Int) by omega,← this,val_le_iff];exact hr
   obtain ⟨m',e',h4,h5,h6⟩:=le_double s (e:=0) (b:=53) (by omega) (by omega) (by omega) hv
   exact fits_le h4 (by omega) (by omega) h5 (by omega)

theorem rootFrom_sq (n:Nat):∀ (t r:Nat),r * r ≤ n → Datum.rootFrom n t r * Datum.rootFrom n t r ≤ n
 | 0,r,h => h
 | t + 1,r,h => by
  unfold Datum.rootFrom
  refine rootFrom_sq n t _ ?_
  show (if _ then _ else _) * (if _ then _ else _) ≤ n
  split
  ·assumption
  ·exact h

theorem fits_root (x:Nat):fits (sqr (wid x)):=by
 have hnan:∀ y,FloatKind.f64.format.sqrt y = none → fits (sqr y):=fun y h => not_num (by unfold sqr;rw [h];exact nan_nanw .f64)
 cases hx:FloatKind.f32.decode x with
 | nan s t =>
  refine hnan _ ?_
  show ((FloatKind.f64.decode (wid x)).root _).map _ = none
  rw [root_nan (by rw [wid_nan (by rw [hx];rfl)];exact nan_nanw .f64)];rfl
 | infinity s =>
  have h1:=wid_inf hx
  cases s
  ·refine fits_inf (t:=false) ?_
   have:FloatKind.f64.format.sqrt (wid x) = some (FloatKind.f64.encode (.infinity false)):=by
    show ((FloatKind.f64.decode (wid x)).root _).map _ = _
    rw [h1];rfl
   unfold sqr
   rw [this]
   exact inf64 false
  ·refine hnan _ ?_
   show ((FloatKind.f64.decode (wid x)).root _).map _ = none
   rw [h1];rfl
 | number s m0 e0 =>
  obtain ⟨m1,e1,h1,h2,h3⟩:=wid_num hx
  obtain ⟨hm1,-,-⟩:=read_double h1
  obtain ⟨hm0,he0,he02⟩:=read_single hx
  by_cases hz:m1 = 0
  ·subst hz
   have:FloatKind.f64.format.sqrt (wid x) = some (double.nearest s 0 e1):=by
    show ((FloatKind.f64.decode (wid x)).root _).map _ = _
    rw [h1]
    exact congrArg some (enc64 s 0 e1)
   unfold sqr
   rw [this]
   obtain ⟨m',e',h4,h5,h6⟩:=le_double s (m:=0) (e:=e1) (b:=0) (by omega) (by omega) (by omega) (by unfold val;omega)
   exact fits_le (x:=double.nearest s 0 e1) h4 (by omega) (by omega) h5 (by omega)
  ·cases s
   ·obtain ⟨more,hmo⟩:∃ more,more = 2 * 54 - m1.log2 + ((e1 - ((2 * 54 - m1.log2:Nat):Int)) % 2).toNat:=⟨_,rfl⟩
    obtain ⟨wh,hwh⟩:∃ wh,wh = Datum.rootFrom (m1 <<< more) ((m1 <<< more).log2 / 2 + 1) 0:=⟨_,rfl⟩
    have hs:FloatKind.f64.format.sqrt (wid x) = some (double.nearest false (2 * wh + (wh * wh != m1 <<< more).toNat) ((e1 - more) / 2 - 1)):=by
     show ((FloatKind.f64.decode (wid x)).root 54).map _ = _
     rw [h1,root_eq false hz,if_neg (by decide)]
     simp only [← hmo,← hwh,Option.map_some]
     exact congrArg some (enc64 _ _ _)
    have hsq:wh * wh ≤ m1 * 2 ^ more:=by
     rw [hwh,← Nat.shiftLeft_eq]
     exact rootFrom_sq _ _ _ (Nat.zero_le _)
    have hpar:(e1 - more) % 2 = 0:=by omega
    have hmore:more ≤ 109:=by omega
    obtain ⟨p,hp⟩:∃ p:Int,e1 - more = 2 * p:=⟨(e1 - more) / 2,by omega⟩
    have hd:(e1 - more) / 2 = p:=by omega
    have hp1:-600 ≤ p:=by omega
    -- the value of the number is below 2 ^ 128
    obtain ⟨T,hT⟩:∃ T:Nat,T = 3064:=⟨_,rfl⟩
    obtain ⟨S,hS⟩:∃ S:Nat,S = 6000:=⟨_,rfl⟩
    have hv:m1 * 2 ^ (e1 + 6000).toNat ≤ 2 ^ (T + T):=by
     have h24:m0 ≤ 2 ^ 24:=by omega
     have h3:(2:Nat) ^ (e0 + 6000).toNat ≤ 2 ^ (T + T - 24):=pow_le2 (by omega)
     have h5:=Nat.mul_le_mul h24 h3
     rw [← pow_add2,show 24 + (T + T - 24) = T + T by omega] at h5
     exact Nat.le_trans (Nat.le_of_eq h2) h5
    have hple:p ≤ 64:=by
     have:2 ^ (e1 + 6000).toNat ≤ 2 ^ (T + T):=Nat.le_trans (Nat.le_mul_of_pos_left _ (Nat.pos_of_ne_zero hz)) hv
     have:=le_of_pow this
     omega
    have hw2:wh * 2 ^ (p + 3000).toNat ≤ 2 ^ T:=by
     have h4:(wh * 2 ^ (p + 3000).toNat) * (wh * 2 ^ (p + 3000).toNat) ≤ 2 ^ T * 2 ^ T:=by
      rw [← pow_add2,show wh * 2 ^ (p + 3000).toNat * (wh * 2 ^ (p + 3000).toNat) = (wh * wh) * (2 ^ (p + 3000).toNat * 2 ^ (p + 3000).toNat) by rw [Nat.mul_mul_mul_comm],← pow_add2]
      refine Nat.le_trans (Nat.mul_le_mul_right _ hsq) ?_
      rw [Nat.mul_assoc,← pow_add2,show more + ((p + 3000).toNat + (p + 3000).toNat) = (e1 + 6000).toNat by omega]
      exact hv
     exact Nat.mul_self_le_mul_self_iff.1 h4
    have hM:val (2 * wh + (wh * wh != m1 <<< more).toNat) (p - 1) ≤ val 1 126:=by
     have hb:=Bool.toNat_le (wh * wh != m1 <<< more)
     unfold val
     rw [show (p - 1 + 6000).toNat = (p + 2999).toNat + (S - 3000) by omega,show (126 + 6000:Int).toNat = (T + 61 + 1) + (S - 3000) by omega,pow_add2,pow_add2 (T + 61 + 1),Nat.one_mul,← Nat.mul_assoc]
     refine Nat.mul_le_mul_right _ ?_
     have e1':(p + 3000).toNat = (p + 2999).toNat + 1:=by omega
     rw [e1',Nat.pow_succ] at hw2
     have h5:2 ^ (p + 2999).toNat ≤ 2 ^ T:=pow_le2 (by omega)
     have h6:(2 * wh + (wh * wh != m1 <<< more).toNat) * 2 ^ (p + 2999).toNat ≤ (2 * wh + 1) * 2 ^ (p + 2999).toNat:=Nat.mul_le_mul_right _ (by omega)
     refine Nat.le_trans h6 ?_
     rw [Nat.add_mul,Nat.one_mul]
     have h7:2 * wh * 2 ^ (p + 2999).toNat = wh * (2 ^ (p + 2999).toNat * 2):=by rw [Nat.mul_comm 2 wh,Nat.mul_assoc,Nat.mul_comm 2]
     rw [h7]
     have h8:(2:Nat) ^ T ≤ 2 ^ (T + 61):=pow_le2 (by omega)
     have h10:(2:Nat) ^ (T + 61 + 1) = 2 ^ (T + 61) * 2:=Nat.pow_succ 2 (T + 61)
     generalize (2:Nat) ^ T = A at *
     generalize (2:Nat) ^ (T + 61) = C at *
     generalize (2:Nat) ^ (T + 61 + 1) = D at *
     omega
    rw [hd] at hs
    unfold sqr
    rw [hs]
    obtain ⟨m',e',h4,h5,h6⟩:=le_double false (e:=p - 1) (b:=126) (by omega) (by omega) (by omega) hM
    exact fits_le (x:=double.nearest false _ (p - 1)) h4 (by omega) (by omega) h5 (by omega)
   ·refine hnan _ ?_
    show ((FloatKind.f64.decode (wid x)).root _).map _ = none
    rw [h1,root_eq true hz,if_pos rfl];rfl

/-- A finite float32 is a number. -/
theorem fin_num {x:Nat} (h:eqk .f32 (B .sub x x) 0 = true):∃ s m e,FloatKind.f32.decode x = .number s m e:=by
 have hnone:floatBits .sub .f32 x x = none → False:=fun h' => by
  have hb:B .sub x x = nanw .f32:=by show (floatBits .sub .f32 x x).getD _ = _;rw [h'];rfl
  unfold eqk at h
  rw [hb,show FloatKind.f32.format.order (nanw .f32) 0 = none from by decide +kernel] at h
  cases h
 cases hx:FloatKind.f32.decode x with
 | nan s t => exact (hnone (by show ((FloatKind.f32.decode x).sum (FloatKind.f32.decode x).opposite).map _ = none;rw [hx];rfl)).elim
 | infinity s => exact (hnone (by show ((FloatKind.f32.decode x).sum (FloatKind.f32.decode x).opposite).map _ = none;rw [hx];cases s <;> rfl)).elim
 | number s m e => exact ⟨s,m,e,rfl⟩

theorem fin_not {x:Nat} (h:eqk .f32 (B .sub x x) 0 = true):(FloatKind.f64.decode (wid x)).isNaN = false:=by
 obtain ⟨s,m,e,hx⟩:=fin_num h
 obtain ⟨m1,e1,h1,-⟩:=wid_num hx
 rw [h1];rfl

/-- A number of at most 2 ^ b. -/
def Lw (b:Int) (x:Nat):Prop:=∃ s m e,FloatKind.f64.decode x = .number s m e ∧ val m e ≤ val 1 b

theorem Lw.place {x:Nat} {s:Bool} {m:Nat} {e:Int} (h:FloatKind.f64.decode x = .number s m e):-1074 ≤ e ∧ e ≤ 971:=(read_double h).2

theorem lw_write {b:Int} (s:Bool) {m:Nat} {e:Int} (he:-6000 ≤ e) (hb:-1074 ≤ b) (hb2:b ≤ 1000) (hv:val m e ≤ val 1 b):Lw b (FloatKind.f64.encode (.number s m e)):=by
 obtain ⟨m',e',h1,h2,h3⟩:=le_double s he hb hb2 hv
 exact ⟨s,m',e',h1,h2⟩

theorem lw_mono {a b:Int} (h:a ≤ b) {x:Nat} (hx:Lw a x):Lw b x:=by
 obtain ⟨s,m,e,h1,h2⟩:=hx
 exact ⟨s,m,e,h1,Nat.le_trans h2 (val_one_mono h)⟩

theorem natAbs_signed (s:Bool) (m k:Nat):(signed s m k).natAbs = m * 2 ^ k:=by
 unfold signed
 rw [Nat.shiftLeft_eq]
 cases s
 ·exact Int.natAbs_natCast _
 ·exact (Int.natAbs_neg _).trans (Int.natAbs_natCast _)

theorem val_dbl {b:Int} (hb:-6000 ≤ b):val 1 b + val 1 b = val 1 (b + 1):=by
 unfold val
 rw [Nat.one_mul,Nat.one_mul,show (b + 1 + 6000).toNat = (b + 6000).toNat + 1 by omega,Nat.pow_succ]
 omega

theorem val_add (m n:Nat) (e:Int):val (m + n) e = val m e + val n e:=by unfold val;rw [Nat.add_mul]

theorem lw_sum {a b:Int} (ha:-1000 ≤ a) (hb:-1000 ≤ b) (ha2:a ≤ 900) (hb2:b ≤ 900) {s t:Bool} {m n:Nat} {i j:Int} (hi:-1074 ≤ i) (hj:-1074 ≤ j) (hm:val m i ≤ val 1 a) (hn:val n j ≤ val 1 b) :
  ∃ d,(Datum.number s m i).sum (.number t n j) = some d ∧ Lw (max a b + 1) (FloatKind.f64.encode d):=by
 refine ⟨_,rfl,?_⟩
 refine lw_write _ (by omega) (by omega) (by omega) ?_
 refine Nat.le_trans (val_le_iff.2 (Int.natAbs_add_le _ _)) ?_
 rw [natAbs_signed,natAbs_signed,val_add,val_shift _ _ (by omega),val_shift _ _ (by omega)]
 rw [show min i j + ((i - min i j).toNat:Int) = i by omega,show min i j + ((j - min i j).toNat:Int) = j by omega,← val_dbl (by omega)]
 have h1:=val_one_mono (show a ≤ max a b by omega)
 have h2:=val_one_mono (show b ≤ max a b by omega)
 omega

theorem lw_add {a b:Int} (ha:-1000 ≤ a) (hb:-1000 ≤ b) (ha2:a ≤ 900) (hb2:b ≤ 900) {x y:Nat} (hx:Lw a x) (hy:Lw b y):Lw (max a b + 1) (D .add x y):=by
 obtain ⟨s,m,i,h1,h2⟩:=hx
 obtain ⟨t,n,j,h3,h4⟩:=hy
 obtain ⟨d,hd,hl⟩:=lw_sum (s:=s) (t:=t) ha hb ha2 hb2 (Lw.place h1).1 (Lw.place h3).1 h2 h4
 have:D .add x y = FloatKind.f64.encode d:=by
  show (((FloatKind.f64.decode x).sum (FloatKind.f64.decode y)).map _).getD _ = _
  rw [h1,h3,hd];rfl
 rw [this];exact hl

theorem lw_sub {a b:Int} (ha:-1000 ≤ a) (hb:-1000 ≤ b) (ha2:a ≤ 900) (hb2:b ≤ 900) {x y:Nat} (hx:Lw a x) (hy:Lw b y):Lw (max a b + 1) (D .sub x y):=by
 obtain ⟨s,m,i,h1,h2⟩:=hx
 obtain ⟨t,n,j,h3,h4⟩:=hy
 obtain ⟨d,hd,hl⟩:=lw_sum (s:=s) (t:=!t) ha hb ha2 hb2 (Lw.place h1).1 (Lw.place h3).1 h2 h4
 have:D .sub x y = FloatKind.f64.encode d:=by
  show (((FloatKind.f64.decode x).sum (FloatKind.f64.decode y).opposite).map _).getD _ = _
  rw [h1,h3]
  show (((Datum.number s m i).sum (.number (!t) n j)).map _).getD _ = _
  rw [hd];rfl
 rw [this];exact hl

theorem lw_mul {a b:Int} (ha:-400 ≤ a) (hb:-400 ≤ b) (hab:a + b ≤ 900) {x y:Nat} (hx:Lw a x) (hy:Lw b y):Lw (a + b) (D .mul x y):=by
 obtain ⟨s,m,i,h1,h2⟩:=hx
 obtain ⟨t,n,j,h3,h4⟩:=hy
 have hi:=(Lw.place h1)
 have hj:=(Lw.place h3)
 have:D .mul x y = FloatKind.f64.encode (.number (s ^^ t) (m * n) (i + j)):=by
  show (((FloatKind.f64.decode x).product (FloatKind.f64.decode y)).map _).getD _ = _
  rw [h1,h3];rfl
 rw [this]
 refine lw_write _ (by omega) (by omega) (by omega) ?_
 unfold val at *
 rw [Nat.one_mul] at *
 obtain ⟨S,hS⟩:∃ S:Nat,S = 6000:=⟨_,rfl⟩
 have h5:=Nat.mul_le_mul h2 h4
 rw [Nat.mul_mul_mul_comm,← pow_add2,← pow_add2,show (i + 6000).toNat + (j + 6000).toNat = (i + j + 6000).toNat + S by omega,show (a + 6000).toNat + (b + 6000).toNat = (a + b + 6000).toNat + S by omega,
  pow_add2,pow_add2 (a + b + 6000).toNat,← Nat.mul_assoc] at h5
 exact Nat.le_of_mul_le_mul_right h5 (pow_pos2 S)

/-- Divided by a number of at least 1. -/
theorem lw_quo {a:Int} (ha:-400 ≤ a) (ha2:a ≤ 900) {x y:Nat} (hx:Lw a x) {t:Bool} {n:Nat} {j:Int} (hy:FloatKind.f64.decode y = .number t n j) (hn:val 1 0 ≤ val n j):Lw a (D .quo x y):=by
 obtain ⟨s,m,i,h1,h2⟩:=hx
 have hi:=(Lw.place h1)
 have hj:=(Lw.place hy)
 have hm53:=(read_double h1).1
 have hn0:n ≠ 0:=fun h => by rw [val_zero.2 h] at hn;have:=val_zero.1 (Nat.le_zero.1 hn);omega
 obtain ⟨more,hmore⟩:∃ more,more = 54 + n.log2 - m.log2:=⟨_,rfl⟩
 have hq:D .quo x y = FloatKind.f64.encode (.number (s ^^ t) (2 * ((m <<< more) / n) + ((m <<< more) % n != 0).toNat) (i - j - more - 1)):=by
  show (((FloatKind.f64.decode x).quotient 54 (FloatKind.f64.decode y)).map _).getD _ = _
  rw [h1,hy,quot_eq _ _ _ hn0,hmore];rfl
 rw [hq,Nat.shiftLeft_eq]
 have hn53:=(read_double hy).1
 have hnl:n.log2 < 53:=(Nat.log2_lt hn0).2 (by omega)
 have hmr:more ≤ 107:=by omega
 refine lw_write _ (by omega) (by omega) (by omega) ?_
 by_cases hm:m = 0
 ·subst hm
  rw [Nat.zero_mul,Nat.zero_div,Nat.zero_mod]
  unfold val
  simp
 -- the dividend is at most 2 ^ K * n,with K = a - (i - j - more)
 have hlm:=Nat.log2_self_le hm
 have hml:m.log2 < 53:=(Nat.log2_lt hm).2 (by omega)
 have hbig:n ≤ m * 2 ^ more:=by
  refine Nat.le_trans (Nat.le_of_lt (Nat.lt_log2_self (n:=n))) ?_
  refine Nat.le_trans ?_ (Nat.mul_le_mul_right _ hlm)
  rw [← pow_add2]
  exact pow_le2 (by omega)
 obtain ⟨S,hS⟩:∃ S:Nat,S = 6000:=⟨_,rfl⟩
 have h3:m * 2 ^ more * 2 ^ ((i - more + 6000).toNat + S) ≤ 2 ^ (a + 6000).toNat * 2 ^ S:=by
  unfold val at h2
  rw [Nat.one_mul] at h2
  rw [pow_add2 _ S,← Nat.mul_assoc]
  refine Nat.mul_le_mul_right _ ?_
  rw [Nat.mul_assoc,← pow_add2,show more + (i - more + 6000).toNat = (i + 6000).toNat by omega];exact h2
 unfold val at hn
 rw [Nat.one_mul,show (0 + 6000:Int).toNat = S by omega] at hn
 have hK:0 ≤ a - (i - j - more):=by
  have h6:=Nat.mul_le_mul_right (2 ^ (i - j - more + 6000).toNat) hn
  rw [Nat.mul_assoc,← pow_add2,← pow_add2,show (j + 6000).toNat + (i - j - more + 6000).toNat = (i - more + 6000).toNat + S by omega] at h6
  have h7:=Nat.le_trans h6 (Nat.le_trans (Nat.mul_le_mul_right _ hbig) h3)
  rw [← pow_add2 (a + 6000).toNat S] at h7
  have:=le_of_pow h7
  omega
 obtain ⟨K,hKe⟩:∃ K:Nat,(K:Int) = a - (i - j - more):=⟨(a - (i - j - more)).toNat,by omega⟩
 have hdiv:m * 2 ^ more ≤ 2 ^ K * n:=by
  have h4:(2:Nat) ^ (a + 6000).toNat * 2 ^ S ≤ 2 ^ K * n * 2 ^ ((i - more + 6000).toNat + S):=by
   have h5:(2:Nat) ^ (a + 6000).toNat * 2 ^ S ≤ 2 ^ (a + 6000).toNat * (n * 2 ^ (j + 6000).toNat):=Nat.mul_le_mul_left _ hn
   refine Nat.le_trans h5 (Nat.le_of_eq ?_)
   rw [Nat.mul_left_comm,← pow_add2,Nat.mul_comm (2 ^ K) n,Nat.mul_assoc n,← pow_add2]
   congr 2
   omega
  exact Nat.le_of_mul_le_mul_right (Nat.le_trans h3 h4) (pow_pos2 ((i - more + 6000).toNat + S))
 have hmag:2 * (m * 2 ^ more / n) + (m * 2 ^ more % n != 0).toNat ≤ 2 ^ (K + 1):=by
  have hpos:0 < n:=Nat.pos_of_ne_zero hn0
  have hdm:=Nat.div_add_mod (m * 2 ^ more) n
  rw [Nat.pow_succ]
  generalize m * 2 ^ more = dv at *
  generalize (2:Nat) ^ K = K2 at *
  by_cases hr:dv % n = 0
  ·have:dv / n ≤ K2:=Nat.div_le_of_le_mul (by rw [Nat.mul_comm];exact hdiv)
   rw [hr]
   simp only [bne_self_eq_false,Bool.toNat_false]
   omega
  ·have:dv / n < K2:=(Nat.div_lt_iff_lt_mul hpos).2 (by
    rcases Nat.lt_or_ge dv (K2 * n) with h | h
    ·exact h
    ·have:dv = K2 * n:=by omega
     rw [this,Nat.mul_mod_left] at hr
     exact absurd rfl hr)
   have hb:=Bool.toNat_le (dv % n != 0)
   omega
 have hfin:val (2 ^ (K + 1)) (i - j - more - 1) = val 1 a:=by
  have:=val_shift 1 (K + 1) (e:=i - j - more - 1) (by omega)
  rw [Nat.one_mul] at this
  rw [this]
  congr 1
  omega
 rw [← hfin,val_le_iff]
 exact hmag

theorem num_c {c:Nat} (h:(match FloatKind.f64.decode c with | .number .. => true | _ => false) = true):∃ s m e,FloatKind.f64.decode c = .number s m e:=by
 cases hc:FloatKind.f64.decode c with
 | number s m e => exact ⟨s,m,e,rfl⟩
 | infinity s => rw [hc] at h;cases h
 | nan s t => rw [hc] at h;cases h

theorem lw_one:Lw 0 4607182418800017408:=⟨false,4503599627370496,-52,by decide +kernel,by
 have:=val_shift 1 52 (e:=-52) (by omega)
 rw [Nat.one_mul] at this
 exact Nat.le_of_eq this⟩
theorem lw_half:Lw 0 4602678819172646912:=lw_mono (show (-1:Int) ≤ 0 by omega) ⟨false,4503599627370496,-53,by decide +kernel,by
 have:=val_shift 1 52 (e:=-53) (by omega)
 rw [Nat.one_mul] at this
 exact Nat.le_of_eq this⟩
theorem lw_turn:Lw 3 4618760256179416344:=by
 obtain ⟨s,m,e,h⟩:=num_c (c:=4618760256179416344) (by decide +kernel)
 have h2:FloatKind.f64.decode 4618760256179416344 = .number false 7074237752028440 (-50):=by decide +kernel
 refine ⟨_,_,_,h2,?_⟩
 have:=val_shift 1 53 (e:=-50) (by omega)
 rw [Nat.one_mul] at this
 rw [show (3:Int) = -50 + ((53:Nat):Int) by omega,← this,val_le_iff]
 omega

/-- The numbers that are divided by are at least 1. -/
theorem fac_num (n:Nat) (h:n < 8):∃ t m j,FloatKind.f64.decode (floatOfInt .f64 (facN n)) = .number t m j ∧ val 1 0 ≤ val m j:=by
 have key:∀ c:Nat,0 < c → c < 1000 → ∃ t m j,FloatKind.f64.decode (FloatKind.f64.encode (.number false c 0)) = .number t m j ∧ val 1 0 ≤ val m j:=fun c h0 h1 => by
  obtain ⟨m',e',h4,h5,h6⟩:=ex_double false (m:=c) (e:=0) (by omega) (by omega) (by omega)
  exact ⟨_,_,_,h4,by rw [h5];exact val_le_iff.2 h0⟩
 have:n = 0 ∨ n = 1 ∨ n = 2 ∨ n = 3 ∨ n = 4 ∨ n = 5 ∨ n = 6 ∨ n = 7:=by omega
 rcases this with h | h | h | h | h | h | h | h <;> subst h
 ·exact key 272 (by omega) (by omega)
 ·exact key 210 (by omega) (by omega)
 ·exact key 156 (by omega) (by omega)
 ·exact key 110 (by omega) (by omega)
 ·exact key 72 (by omega) (by omega)
 ·exact key 42 (by omega) (by omega)
 ·exact key 20 (by omega) (by omega)
 ·exact key 6 (by omega) (by omega)

theorem lw_poly {u:Nat} (hu:Lw 12 u):∀ n:Nat,n ≤ 8 → Lw (13 * n) (polyF u n)
 | 0,_ => lw_one
 | n + 1,h => by
  have h1:=lw_poly hu n (by omega)
  obtain ⟨t,m,j,h2,h3⟩:=fac_num n (by omega)
  have h4:=lw_quo (a:=12 + 13 * (n:Int)) (by omega) (by omega) (lw_mul (by omega) (by omega) (by omega) hu h1) h2 h3
  have h5:=lw_sub (by omega) (by omega) (by omega) (by omega) lw_one h4
  refine lw_mono ?_ h5
  omega

theorem abs_cmp0 {m:Nat} {s t:Bool} {k j:Nat} (h:compare (signed s m k) (signed t 0 j) = .eq):m = 0:=by
 have h1:signed t 0 j = 0:=by unfold signed;cases t <;> simp
 rw [h1] at h
 have h2:signed s m k = 0:=by
  have:=Std.LawfulEqOrd.eq_of_compare h
  exact this
 have h3:=natAbs_signed s m k
 rw [h2] at h3
 have:=pow_pos2 k
 rcases Nat.mul_eq_zero.1 (show m * 2 ^ k = 0 by rw [← h3];rfl) with h | h
 ·exact h
 ·omega

/-- A number without its whole part is at most 1. -/
theorem lw_sin1 {f:Nat} {s:Bool} {m:Nat} {e:Int} (h:FloatKind.f64.decode f = .number s m e):Lw 0 (sin1 f):=by
 obtain ⟨hm,he1,he2⟩:=read_double h
 obtain ⟨q,hq⟩:∃ q,q = m * 2 ^ e.toNat / 2 ^ (-e).toNat:=⟨_,rfl⟩
 have hw:whole .zero f = double.nearest s q 0:=by
  rw [whole_num _ h,zero_cut,Nat.shiftLeft_eq,hq]
 have hqv:val q 0 ≤ val m e ∧ val m e ≤ val q 0 + val 1 0 ∧ (q = 0 → val m e ≤ val 1 0):=by
  rcases Int.le_total 0 e with h0 | h0
  ·have hq':q = m * 2 ^ e.toNat:=by rw [hq,show (-e).toNat = 0 by omega,Nat.pow_zero,Nat.div_one]
   have:val q 0 = val m e:=by rw [hq',val_shift _ _ (by omega)];congr 1;omega
   exact ⟨Nat.le_of_eq this,by omega,fun h => by rw [← this,h];unfold val;omega⟩
  ·have hq':q = m / 2 ^ (-e).toNat:=by rw [hq,show e.toNat = 0 by omega,Nat.pow_zero,Nat.mul_one]
   have hv:∀ r,val r 0 = val (r * 2 ^ (-e).toNat) e:=fun r => by rw [val_shift _ _ (by omega)];congr 1;omega
   have hdm:=Nat.div_add_mod m (2 ^ (-e).toNat)
   have hml:=Nat.mod_lt m (pow_pos2 (-e).toNat)
   rw [Nat.mul_comm,← hq'] at hdm
   refine ⟨?_,?_,fun h => ?_⟩
   ·rw [hv,val_le_iff];omega
   ·rw [← val_add,hv,val_le_iff,Nat.add_mul,Nat.one_mul];omega
   ·rw [hv,val_le_iff,Nat.one_mul];rw [h,Nat.zero_mul] at hdm;omega
 have hex:∃ m' e',FloatKind.f64.decode (double.nearest s q 0) = .number s m' e' ∧ val m' e' = val q 0:=by
  rcases Int.le_total 0 e with h0 | h0
  ·have hq':q = m * 2 ^ e.toNat:=by rw [hq,show (-e).toNat = 0 by omega,Nat.pow_zero,Nat.div_one]
   by_cases hz:q = 0
   ·rw [hz]
    obtain ⟨m',e',h4,h5,-⟩:=ex_double s (m:=0) (e:=0) (by omega) (by omega) (by omega)
    exact ⟨m',e',h4,h5⟩
   ·have hv:val q 0 = val m e:=by rw [hq',val_shift _ _ (by omega)];congr 1;omega
    rw [nearest_val double s hz (by omega) (by omega) hv,hv]
    have hx:=nearest_exact double s (m:=m) (by rw [bD];omega) (e:=e) (by rw [lpD];omega) (by rw [lpD];omega) (by rw [lpD,bD,iD];omega)
    obtain ⟨m',e',h4,h5,-⟩:=hx
    exact ⟨m',e',h4,h5⟩
  ·have hq':q = m / 2 ^ (-e).toNat:=by rw [hq,show e.toNat = 0 by omega,Nat.pow_zero,Nat.mul_one]
   have:q ≤ m:=by rw [hq'];exact Nat.div_le_self _ _
   obtain ⟨m',e',h4,h5,-⟩:=ex_double s (m:=q) (e:=0) (by omega) (by omega) (by omega)
   exact ⟨m',e',h4,h5⟩
 obtain ⟨m',e',h4,h5⟩:=hex
 have hp:=Lw.place h4
 rw [← hw] at h4
 unfold sin1
 by_cases hc:eqk .f64 (whole .zero f) 0 = true
 ·rw [if_pos hc]
  have hz:m' = 0:=by
   have h0:FloatKind.f64.decode 0 = .number false 0 (-1074):=by decide +kernel
   unfold eqk at hc
   have h6:FloatKind.f64.format.order (whole .zero f) 0 = (FloatKind.f64.decode (whole .zero f)).order (FloatKind.f64.decode 0):=rfl
   rw [h6,h4,h0] at hc
   have h7:(Datum.number s m' e').order (.number false 0 (-1074)) = some (compare (signed s m' (e' - min e' (-1074)).toNat) (signed false 0 (-1074 - min e' (-1074)).toNat)):=rfl
   rw [h7] at hc
   exact abs_cmp0 (by simpa using hc)
  have hq0:q = 0:=val_zero.1 (by rw [← h5];exact val_zero.2 hz)
  exact ⟨s,m,e,h,hqv.2.2 hq0⟩
 ·rw [if_neg hc]
  have hD:∃ n,D .sub f (whole .zero f) = FloatKind.f64.encode (.number n (signed s m (e - min e e').toNat + signed (!s) m' (e' - min e e').toNat).natAbs (min e e')):=by
   refine ⟨if signed s m (e - min e e').toNat + signed (!s) m' (e' - min e e').toNat = 0 then s && !s else decide (signed s m (e - min e e').toNat + signed (!s) m' (e' - min e e').toNat < 0),?_⟩
   show (((FloatKind.f64.decode f).sum (FloatKind.f64.decode (whole .zero f)).opposite).map _).getD _ = _
   rw [h,h4]
   rfl
  obtain ⟨n,hD⟩:=hD
  rw [hD]
  refine lw_write _ (by omega) (by omega) (by omega) ?_
  have hA:val (m * 2 ^ (e - min e e').toNat) (min e e') = val m e:=by rw [val_shift _ _ (by omega)];congr 1;omega
  have hB:val (m' * 2 ^ (e' - min e e').toNat) (min e e') = val q 0:=by rw [val_shift _ _ (by omega),← h5];congr 1;omega
  have hAB:(signed s m (e - min e e').toNat + signed (!s) m' (e' - min e e').toNat).natAbs = m * 2 ^ (e - min e e').toNat - m' * 2 ^ (e' - min e e').toNat:=by
   have hle:m' * 2 ^ (e' - min e e').toNat ≤ m * 2 ^ (e - min e e').toNat:=(val_le_iff (e:=min e e')).1 (by rw [hA,hB];exact hqv.1)
   unfold signed
   rw [Nat.shiftLeft_eq,Nat.shiftLeft_eq]
   generalize m * 2 ^ (e - min e e').toNat = X at *
   generalize m' * 2 ^ (e' - min e e').toNat = Y at *
   cases s
   ·simp only [Bool.false_eq_true,if_false,Bool.not_false,if_true];omega
   ·simp only [Bool.not_true,Bool.false_eq_true,if_false,if_true];omega
  rw [hAB]
  have hsub:val (m * 2 ^ (e - min e e').toNat - m' * 2 ^ (e' - min e e').toNat) (min e e') = val m e - val q 0:=by
   rw [← hA,← hB]
   unfold val
   rw [Nat.sub_mul]
  rw [hsub]
  have:=hqv.2.1
  omega

theorem negc_num {x:Nat} {s:Bool} {m:Nat} {e:Int} (h:FloatKind.f64.decode x = .number s m e):FloatKind.f64.decode (negc .f64 x) = .number (!s) m e:=by
 have hd:=decode_neg .f64 x
 rw [h] at hd
 unfold negc
 rw [decode_cn_not (by rw [hd];rfl),hd];rfl

theorem fits_sin (x:Nat) (h:eqk .f32 (B .sub x x) 0 = true):fits (sinW (wid x)):=by
 obtain ⟨s,m,e,hx⟩:=fin_num h
 obtain ⟨m1,e1,h1,-⟩:=wid_num hx
 have l1:=lw_sin1 h1
 generalize wid x = f at *
 have l2:Lw 1 (sin2 f):=by
  unfold sin2
  split
  ·exact lw_add (a:=0) (b:=0) (by omega) (by omega) (by omega) (by omega) l1 lw_one
  ·exact lw_mono (by omega) l1
 have l3:Lw 2 (sin3 f):=by
  unfold sin3
  split
  ·exact lw_sub (a:=1) (b:=0) (by omega) (by omega) (by omega) (by omega) l2 lw_half
  ·exact lw_mono (by omega) l2
 have l4:Lw 3 (sin4 f):=by
  unfold sin4
  split
  ·exact lw_sub (a:=0) (b:=2) (by omega) (by omega) (by omega) (by omega) lw_half l3
  ·exact lw_mono (by omega) l3
 have lz:Lw 6 (sinZ f):=lw_mul (a:=3) (b:=3) (by omega) (by omega) (by omega) l4 lw_turn
 have lu:Lw 12 (D .mul (sinZ f) (sinZ f)):=lw_mul (a:=6) (b:=6) (by omega) (by omega) (by omega) lz lz
 have lo:Lw 110 (sinO f):=lw_mul (a:=6) (b:=104) (by omega) (by omega) (by omega) lz (lw_poly lu 8 (by omega))
 obtain ⟨s2,m2,e2,g1,g2⟩:=lo
 have hp:=Lw.place g1
 unfold sinW
 split
 ·exact fits_le (negc_num g1) (by omega) (by omega) g2 (by omega)
 ·exact fits_le g1 (by omega) (by omega) g2 (by omega)
end Go.Fl
