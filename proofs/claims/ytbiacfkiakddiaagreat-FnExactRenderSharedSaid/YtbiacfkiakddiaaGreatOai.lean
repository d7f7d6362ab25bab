/-
 Lemmas: Tc,Za,D18.
-/
import Derived.Test.YtbiacfkiakddiaaGreatOah
import Derived.BigRegion
import Derived.ChangeAlike
import Derived.Deep.AppendLies
import Derived.Deep.DeepCutAuto
import Derived.Deep.Onto
import Derived.Deep.RegionHeld
import Derived.Laws.FloatArith
import Derived.Laws.MakeOwn
import Derived.Lib.Hide
import Derived.Outline
import Derived.OwnWalk
import Derived.RegionTactic
set_option linter.unusedVariables false
set_option linter.unusedSimpArgs false
namespace Go.Ft
open Ieee
/-- A finite word that is read and written again stays itself,if it has no bits beyond its width. -/
theorem round_trip (f:Format) (hBi:f.binade ≤ f.infRung) {x:Nat} {s:Bool} {m:Nat} {e:Int} (h:f.read x = .number s m e) :
  ∃ r,r < f.infRung ∧ r = x % f.signWeight ∧ (∀ t,f.nearest t m e = f.word t r ∧ f.read (f.word t r) = .number t m e) ∧ (x < 2 * f.signWeight → x = f.word s r):=by
 have hB:0 < f.binade:=pow_pos2 _
 have hsw:f.infRung < f.signWeight:=Format.infRung_lt f
 have hword:∀ r,r = x % f.signWeight → (x / f.signWeight % 2 == 1) = s → x < 2 * f.signWeight → x = f.word s r:=fun r hr hs hx => by
  have hdm:=Nat.div_add_mod x f.signWeight
  have hlt:x / f.signWeight < 2:=Nat.div_lt_of_lt_mul (by rw [Nat.mul_comm];exact hx)
  unfold Format.word
  rw [← hr] at hdm
  have h01:x / f.signWeight = 0 ∨ x / f.signWeight = 1:=by
   generalize x / f.signWeight = k at hlt
   omega
  rcases h01 with h0 | h0
  ·rw [h0] at hdm hs
   rw [← hs]
   simp at hdm ⊢
   omega
  ·rw [h0] at hdm hs
   rw [← hs]
   simp at hdm ⊢
   omega
 unfold Format.read at h
 simp only at h
 by_cases h1:x % f.signWeight < f.binade
 ·rw [if_pos h1] at h
  injection h with hs hm he
  subst hm he
  refine ⟨x % f.signWeight,by omega,rfl,fun t => ⟨?_,?_⟩,hword _ rfl hs⟩
  ·by_cases hz:x % f.signWeight = 0
   ·rw [hz];unfold Format.nearest;rw [if_pos rfl]
   ·have hl:(x % f.signWeight).log2 < f.fractionBits:=(Nat.log2_lt hz).2 h1
    have hla:last f (x % f.signWeight) f.leastPlace = f.leastPlace:=by unfold last;omega
    rw [nearest_eq f t hz,hla,R_pos _ (by omega)]
    congr 1
    rw [show (f.leastPlace - f.leastPlace).toNat = 0 by omega,Nat.zero_mul,Nat.zero_add,Nat.pow_zero,Nat.mul_one]
    omega
  ·rw [read_word f t (by omega),if_pos h1]
 ·rw [if_neg h1] at h
  by_cases h2:x % f.signWeight < f.infRung
  ·rw [if_pos h2] at h
   injection h with hs hm he
   subst hm he
   have hq:1 ≤ x % f.signWeight / f.binade:=(Nat.le_div_iff_mul_le hB).2 (by omega)
   have hdm:=Nat.div_add_mod (x % f.signWeight) f.binade
   have hml:=Nat.mod_lt (x % f.signWeight) hB
   have hz:f.binade + x % f.signWeight % f.binade ≠ 0:=by omega
   have hlog:(f.binade + x % f.signWeight % f.binade).log2 = f.fractionBits:=by
    rw [Nat.log2_eq_iff hz,Nat.pow_succ]
    unfold Format.binade at *
    omega
   refine ⟨x % f.signWeight,h2,rfl,fun t => ⟨?_,?_⟩,hword _ rfl hs⟩
   ·have hla:last f (f.binade + x % f.signWeight % f.binade) (f.leastPlace + (x % f.signWeight / f.binade - 1:Nat)) = f.leastPlace + (x % f.signWeight / f.binade - 1:Nat):=by unfold last;rw [hlog];omega
    rw [nearest_eq f t hz,hla,R_pos _ (by omega)]
    congr 1
    rw [show (f.leastPlace + ((x % f.signWeight / f.binade - 1:Nat):Int) - f.leastPlace).toNat = x % f.signWeight / f.binade - 1 by omega,show (f.leastPlace + ((x % f.signWeight / f.binade - 1:Nat):Int) - (f.leastPlace + ((x % f.signWeight / f.binade - 1:Nat):Int))).toNat = 0 by omega,Nat.pow_zero,Nat.mul_one]
    have:(x % f.signWeight / f.binade - 1) * f.binade + (f.binade + x % f.signWeight % f.binade) = x % f.signWeight:=by
     obtain ⟨q,hq'⟩:∃ q,x % f.signWeight / f.binade = q + 1:=⟨_,(Nat.sub_add_cancel hq).symm⟩
     rw [hq'] at hdm ⊢
     rw [Nat.add_sub_cancel]
     rw [Nat.mul_add,Nat.mul_one,Nat.mul_comm] at hdm
     omega
    rw [this]
    omega
   ·rw [read_word f t h2,if_neg h1]
  ·rw [if_neg h2] at h
   split at h <;> cases h

/-- A value with its sign. -/
def sval (s:Bool) (m:Nat) (e:Int):Int:=if s then -(val m e:Int) else val m e

theorem signed_scale (s:Bool) (m:Nat) {i b:Int} (hb:-6000 ≤ b) (h:b ≤ i):signed s m (i - b).toNat * (2 ^ (b + 6000).toNat:Nat) = sval s m i:=by
 have hv:m * 2 ^ (i - b).toNat * 2 ^ (b + 6000).toNat = val m i:=by
  have:=val_shift m (i - b).toNat hb
  rw [show b + ((i - b).toNat:Int) = i by omega] at this
  exact this
 unfold signed sval
 rw [Nat.shiftLeft_eq,← hv]
 cases s
 ·simp only [Bool.false_eq_true,if_false];rw [Int.natCast_mul (m * 2 ^ (i - b).toNat)]
 ·simp only [if_true];rw [Int.natCast_mul (m * 2 ^ (i - b).toNat),Int.neg_mul]

theorem cmp_scale (a b:Int) {k:Nat} (hk:0 < k):compare (a * k) (b * k) = compare a b:=by
 have hk':(0:Int) < k:=by omega
 have h1:(a * k < b * k) = (a < b):=propext ⟨fun h => Int.lt_of_mul_lt_mul_right h (Int.le_of_lt hk'),fun h => Int.mul_lt_mul_of_pos_right h hk'⟩
 have h2:(a * k = b * k) = (a = b):=propext ⟨fun h => Int.eq_of_mul_eq_mul_right (by omega) h,fun h => by rw [h]⟩
 show compareOfLessAndEq _ _ = compareOfLessAndEq _ _
 unfold compareOfLessAndEq
 simp only [h1,h2]

theorem order_val (s t:Bool) (m n:Nat) {i j:Int} (hi:-6000 ≤ i) (hj:-6000 ≤ j):(Datum.number s m i).order (.number t n j) = some (compare (sval s m i) (sval t n j)):=by
 have hb:-6000 ≤ min i j:=by omega
 show some (compare (signed s m (i - min i j).toNat) (signed t n (j - min i j).toNat)) = _
 rw [← cmp_scale _ _ (pow_pos2 (min i j + 6000).toNat),signed_scale s m hb (by omega),signed_scale t n hb (by omega)]

theorem cmp_lt {a b:Int}:compare a b = .lt ↔ a < b:=by
 show compareOfLessAndEq _ _ = _ ↔ _
 unfold compareOfLessAndEq
 split
 ·simp [*]
 ·split <;> simp [*]
theorem cmp_eq {a b:Int}:compare a b = .eq ↔ a = b:=by
 show compareOfLessAndEq _ _ = _ ↔ _
 unfold compareOfLessAndEq
 split
 ·simp;omega
 ·split <;> simp [*]
theorem cmp_gt {a b:Int}:compare a b = .gt ↔ b < a:=by
 show compareOfLessAndEq _ _ = _ ↔ _
 unfold compareOfLessAndEq
 split
 ·simp;omega
 ·split
  ·simp;omega
  ·simp;omega
end Go.Ft
namespace Go.Fl
open Go Go.RowKit Go.Ft Ieee
theorem rtD {x:Nat} {s:Bool} {m:Nat} {e:Int} (h:FloatKind.f64.decode x = .number s m e) :
  ∃ r,r < double.infRung ∧ r = x % double.signWeight ∧ (∀ t,double.nearest t m e = double.word t r ∧ double.read (double.word t r) = .number t m e) ∧ (x < 2 * double.signWeight → x = double.word s r) :=
 round_trip double (by decide) h
theorem rtS {x:Nat} {s:Bool} {m:Nat} {e:Int} (h:FloatKind.f32.decode x = .number s m e) :
  ∃ r,r < single.infRung ∧ r = x % single.signWeight ∧ (∀ t,single.nearest t m e = single.word t r ∧ single.read (single.word t r) = .number t m e) ∧ (x < 2 * single.signWeight → x = single.word s r) :=
 round_trip single (by decide) h

theorem wid_lt (x:Nat):wid x < 2 * double.signWeight:=by
 have h2:2 ^ double.width = 2 * double.signWeight:=by decide
 unfold wid
 split
 ·decide
 ·rw [← h2];exact Format.write_lt double _

/-- The finite ones,told by the float64. -/
theorem fin_wid (x:Nat):eqk .f64 (D .sub (wid x) (wid x)) 0 = eqk .f32 (B .sub x x) 0:=by
 cases hx:FloatKind.f32.decode x with
 | nan s t =>
  have h1:FloatKind.f32.format.order (B .sub x x) 0 = none:=by
   have:B .sub x x = nanw .f32:=by
    show (((FloatKind.f32.decode x).sum (FloatKind.f32.decode x).opposite).map _).getD _ = _
    rw [hx];rfl
   rw [this];decide +kernel
  have h2:FloatKind.f64.format.order (D .sub (wid x) (wid x)) 0 = none:=by
   have:D .sub (wid x) (wid x) = nanw .f64:=by rw [wid_nan (by rw [hx];rfl)];decide +kernel
   rw [this];decide +kernel
  unfold eqk;rw [h1,h2]
 | infinity s =>
  have h1:FloatKind.f32.format.order (B .sub x x) 0 = none:=by
   have:B .sub x x = nanw .f32:=by
    show (((FloatKind.f32.decode x).sum (FloatKind.f32.decode x).opposite).map _).getD _ = _
    rw [hx];cases s <;> rfl
   rw [this];decide +kernel
  have h2:FloatKind.f64.format.order (D .sub (wid x) (wid x)) 0 = none:=by
   have:D .sub (wid x) (wid x) = nanw .f64:=by
    show (((FloatKind.f64.decode (wid x)).sum (FloatKind.f64.decode (wid x)).opposite).map _).getD _ = _
    rw [wid_inf hx];cases s <;> rfl
   rw [this];decide +kernel
  unfold eqk;rw [h1,h2]
 | number s m e =>
  obtain ⟨m1,e1,h1,-⟩:=wid_num hx
  have key:∀ (k:FloatKind) (y:Nat) (s:Bool) (m:Nat) (e:Int),k.decode y = .number s m e → eqk k (bin .sub k y y) 0 = true:=fun k y s m e h => by
   have hb:bin .sub k y y = k.format.nearest (s && !s) 0 (min e e):=by
    show (((k.decode y).sum (k.decode y).opposite).map _).getD _ = _
    rw [h]
    have:signed s m (e - min e e).toNat + signed (!s) m (e - min e e).toNat = 0:=by
     unfold signed;cases s <;> simp <;> omega
    show ((some (Datum.number (if signed s m (e - min e e).toNat + signed (!s) m (e - min e e).toNat = 0 then s && !s else decide (signed s m (e - min e e).toNat + signed (!s) m (e - min e e).toNat < 0)) (signed s m (e - min e e).toNat + signed (!s) m (e - min e e).toNat).natAbs (min e e))).map _).getD _ = _
    rw [this]
    rfl
   have hn:∀ t,k.format.nearest t 0 (min e e) = k.format.word t 0:=fun t => by unfold Format.nearest;rw [if_pos rfl]
   rw [hb,hn]
   cases k <;> cases s <;> decide +kernel
  have a1:=key .f64 _ _ _ _ h1
  have a2:=key .f32 _ _ _ _ hx
  show eqk .f64 (bin .sub .f64 (wid x) (wid x)) 0 = eqk .f32 (bin .sub .f32 x x) 0
  rw [a1,a2]

theorem and_not63 (x:Nat) (h:x < 18446744073709551616):(Go.bits .andNot .u64 (x:Int) 9223372036854775808).toNat = x % 9223372036854775808:=by
 unfold Go.bits
 have e1:(BitVec.ofInt 64 (x:Int)).toNat = x:=by
  rw [BitVec.toNat_ofInt]
  have:(2:Nat) ^ 64 = 18446744073709551616:=by decide
  omega
 have e2:(~~~(BitVec.ofInt 64 9223372036854775808)).toNat = 2 ^ 63 - 1:=by decide
 have e3:(BitVec.ofInt 64 (x:Int) &&& ~~~(BitVec.ofInt 64 9223372036854775808)).toNat = x % 9223372036854775808:=by
  rw [BitVec.toNat_and,e1,e2,Nat.and_two_pow_sub_one_eq_mod]
 show (IntKind.u64.wrap ((BitVec.ofInt 64 (x:Int) &&& ~~~(BitVec.ofInt 64 9223372036854775808)).toNat:Nat)).toNat = _
 rw [e3]
 have:x % 9223372036854775808 < 9223372036854775808:=Nat.mod_lt _ (by decide)
 have hw:IntKind.u64.wrap ((x % 9223372036854775808:Nat):Int) = ((x % 9223372036854775808:Nat):Int):=by
  simp [IntKind.wrap,IntKind.bits,IntKind.signed]
  omega
 rw [hw];rfl

theorem abs_num {y:Nat} {s:Bool} {m:Nat} {e:Int} (hy:y < 2 * double.signWeight) (h:FloatKind.f64.decode y = .number s m e):FloatKind.f64.decode (absW y) = .number false m e:=by
 obtain ⟨r,hr,hrm,hall,-⟩:=rtD h
 rw [sD] at hy hrm
 unfold absW
 rw [and_not63 y (by omega),← hrm]
 exact (hall false).2

/-- At least 2 ^ 52,or at most its opposite: told by the size. -/
theorem ge_abs {y:Nat} {s:Bool} {m:Nat} {e:Int} (hy:y < 2 * double.signWeight) (h:FloatKind.f64.decode y = .number s m e) :
  ((FloatKind.f64.format.order y 4841369599423283200 == some .gt || FloatKind.f64.format.order y 4841369599423283200 == some .eq) || (FloatKind.f64.format.order y 14064741636278059008 == some .lt || FloatKind.f64.format.order y 14064741636278059008 == some .eq))
   = gek .f64 (absW y) 4841369599423283200:=by
 have hp:=Lw.place h
 have ha:=abs_num hy h
 have c1:FloatKind.f64.decode 4841369599423283200 = .number false 4503599627370496 0:=by decide +kernel
 have c2:FloatKind.f64.decode 14064741636278059008 = .number true 4503599627370496 0:=by decide +kernel
 have o1:FloatKind.f64.format.order y 4841369599423283200 = some (compare (sval s m e) (sval false 4503599627370496 0)):=by
  show (FloatKind.f64.decode y).order (FloatKind.f64.decode _) = _
  rw [h,c1,order_val _ _ _ _ (by omega) (by omega)]
 have o2:FloatKind.f64.format.order y 14064741636278059008 = some (compare (sval s m e) (sval true 4503599627370496 0)):=by
  show (FloatKind.f64.decode y).order (FloatKind.f64.decode _) = _
  rw [h,c2,order_val _ _ _ _ (by omega) (by omega)]
 have o3:FloatKind.f64.format.order (absW y) 4841369599423283200 = some (compare (sval false m e) (sval false 4503599627370496 0)):=by
  show (FloatKind.f64.decode (absW y)).order (FloatKind.f64.decode _) = _
  rw [ha,c1,order_val _ _ _ _ (by omega) (by omega)]
 unfold gek
 rw [o1,o2,o3,Bool.eq_iff_iff]
 simp only [Bool.or_eq_true,beq_iff_eq,Option.some.injEq,cmp_gt,cmp_eq,cmp_lt]
 unfold sval
 have hz:0 < val 4503599627370496 0:=Nat.pos_of_ne_zero fun h => by have:=val_zero.1 h;omega
 generalize val 4503599627370496 0 = A at *
 generalize val m e = v at *
 cases s
 ·simp only [Bool.false_eq_true,if_false,if_true];omega
 ·simp only [Bool.false_eq_true,if_false,if_true];omega

/-- The whole part as an integer,and what is left. -/
theorem trunc_int {y:Nat} {s:Bool} {m:Nat} {e:Int} (hy:y < 2 * double.signWeight) (h:FloatKind.f64.decode y = .number s m e) (hlt:gek .f64 (absW y) 4841369599423283200 = false) :
  ∃ n,floatToIntVal .f64 y .i64 = some n ∧ D .sub y (floatOfInt .f64 n) = sin1 y:=by
 have hp:=read_double h
 have ha:=abs_num hy h
 have c1:FloatKind.f64.decode 4841369599423283200 = .number false 4503599627370496 0:=by decide +kernel
 have o3:FloatKind.f64.format.order (absW y) 4841369599423283200 = some (compare (sval false m e) (sval false 4503599627370496 0)):=by
  show (FloatKind.f64.decode (absW y)).order (FloatKind.f64.decode _) = _
  rw [ha,c1,order_val _ _ _ _ (by omega) (by omega)]
 have hv:val m e < val 4503599627370496 0:=by
  unfold gek at hlt
  rw [o3] at hlt
  simp only [Bool.or_eq_false_iff,beq_eq_false_iff_ne,ne_eq,Option.some.injEq,cmp_gt,cmp_eq] at hlt
  unfold sval at hlt
  simp only [Bool.false_eq_true,if_false] at hlt
  omega
 obtain ⟨q,hq⟩:∃ q,q = m * 2 ^ e.toNat / 2 ^ (-e).toNat:=⟨_,rfl⟩
 have hq52:q < 4503599627370496:=by
  rcases Int.le_total 0 e with h0 | h0
  ·have hq':q = m * 2 ^ e.toNat:=by rw [hq,show (-e).toNat = 0 by omega,Nat.pow_zero,Nat.div_one]
   have h2:val q 0 = val m e:=by rw [hq',val_shift _ _ (by omega)];congr 1;omega
   rw [← h2] at hv
   rcases Nat.lt_or_ge q 4503599627370496 with h3 | h3
   ·exact h3
   ·have:=val_le_iff (e:=0).2 h3;omega
  ·have hq':q = m / 2 ^ (-e).toNat:=by rw [hq,show e.toNat = 0 by omega,Nat.pow_zero,Nat.mul_one]
   rcases Nat.lt_or_ge q 4503599627370496 with h3 | h3
   ·exact h3
   ·have h4:=val_le_iff (e:=0).2 h3
    have hvq:val q 0 = val (q * 2 ^ (-e).toNat) e:=by rw [val_shift _ _ (by omega)];congr 1;omega
    have h5:q * 2 ^ (-e).toNat ≤ m:=by rw [hq'];exact Nat.div_mul_le_self _ _
    have h6:=val_le_iff (e:=e).2 h5
    omega
 have hw:whole .zero y = double.nearest s q 0:=by rw [whole_num _ h,zero_cut,Nat.shiftLeft_eq,hq]
 have hti:(FloatKind.f64.decode y).toInt .zero = some (signed s q 0):=by
  rw [h]
  show some (signed s (Toward.zero.cut s (m <<< e.toNat) (-e).toNat) 0) = _
  rw [zero_cut,Nat.shiftLeft_eq,hq]
 have hsq:signed s q 0 = if s then -(q:Int) else q:=by unfold signed;simp
 refine ⟨signed s q 0,?_,?_⟩
 ·unfold floatToIntVal
  rw [hti]
  have hmin:IntKind.i64.min = -9223372036854775808:=by decide
  have hmax:IntKind.i64.max = 9223372036854775807:=by decide
  have:IntKind.i64.min ≤ signed s q 0 ∧ signed s q 0 ≤ IntKind.i64.max:=by
   rw [hmin,hmax,hsq]
   cases s
   ·simp only [Bool.false_eq_true,if_false];omega
   ·simp only [if_true];omega
  simp only [this,and_self,if_true]
 ·have hfo:floatOfInt .f64 (signed s q 0) = double.nearest (decide (signed s q 0 < 0)) (signed s q 0).natAbs 0:=rfl
  have hna:(signed s q 0).natAbs = q:=by rw [natAbs_signed,Nat.pow_zero,Nat.mul_one]
  rw [hfo,hna]
  obtain ⟨m',e',h4,h5,h6⟩:=ex_double s (m:=q) (e:=0) (by omega) (by omega) (by omega)
  have h4':FloatKind.f64.decode (whole .zero y) = .number s m' e':=by rw [hw];exact h4
  have h0:FloatKind.f64.decode 0 = .number false 0 (-1074):=by decide +kernel
  have hord:FloatKind.f64.format.order (whole .zero y) 0 = some (compare (sval s m' e') (sval false 0 (-1074))):=by
   show (FloatKind.f64.decode (whole .zero y)).order (FloatKind.f64.decode 0) = _
   rw [h4',h0,order_val _ _ _ _ (by omega) (by omega)]
  have hs0:sval false 0 (-1074) = 0:=by unfold sval;simp [val_zero.2]
  have hsv:sval s m' e' = 0 ↔ q = 0:=by
   unfold sval
   rw [h5]
   have:=@val_zero q 0
   cases s
   ·simp only [Bool.false_eq_true,if_false];omega
   ·simp only [if_true];omega
  by_cases hz:q = 0
  ·have he:eqk .f64 (whole .zero y) 0 = true:=by
    unfold eqk
    rw [hord,hs0,hsv.2 hz];decide
   unfold sin1
   rw [if_pos he]
   have hd:double.nearest (decide (signed s q 0 < 0)) q 0 = 0:=by
    have:¬ signed s q 0 < 0:=by rw [hsq,hz];cases s <;> simp
    rw [hz] at this ⊢
    unfold Format.nearest
    rw [if_pos rfl,decide_eq_false this];rfl
   rw [hd]
   -- y - 0 = y
   obtain ⟨r,hr,hrm,hall,hxw⟩:=rtD h
   have hyw:=hxw hy
   have hD:D .sub y 0 = double.nearest (if signed s m (e - min e (-1074)).toNat + signed true 0 (-1074 - min e (-1074)).toNat = 0 then s && true else decide (signed s m (e - min e (-1074)).toNat + signed true 0 (-1074 - min e (-1074)).toNat < 0)) (signed s m (e - min e (-1074)).toNat + signed true 0 (-1074 - min e (-1074)).toNat).natAbs (min e (-1074)):=by
    show (((FloatKind.f64.decode y).sum (FloatKind.f64.decode 0).opposite).map _).getD _ = _
    rw [h,h0];rfl
   have hzz:signed true 0 (-1074 - min e (-1074)).toNat = 0:=by unfold signed;simp
   rw [hD,hzz,Int.add_zero,natAbs_signed]
   have hmin:min e (-1074) = -1074:=by omega
   rw [hmin]
   by_cases hm:m = 0
   ·subst hm
    have:signed s 0 (e - -1074).toNat = 0:=by unfold signed;simp
    rw [this,if_pos rfl,Bool.and_true,Nat.zero_mul,hyw]
    unfold Format.nearest
    rw [if_pos rfl]
    have h7:=(hall s).1
    unfold Format.nearest at h7
    rw [if_pos rfl] at h7
    exact h7
   ·have hne:signed s m (e - -1074).toNat ≠ 0:=fun h' => by
     have:=natAbs_signed s m (e - -1074).toNat
     rw [h'] at this
     have hp2:=pow_pos2 (e - -1074).toNat
     rcases Nat.mul_eq_zero.1 (show m * 2 ^ (e - -1074).toNat = 0 by rw [← this];rfl) with h | h
     ·exact hm h
     ·omega
    have hneg:decide (signed s m (e - -1074).toNat < 0) = s:=by
     cases s
     ·have h9:signed false m (e - -1074).toNat = ((m <<< (e - -1074).toNat:Nat):Int):=rfl
      rw [h9] at hne ⊢
      clear h9
      generalize m <<< (e - -1074).toNat = X at hne ⊢
      exact decide_eq_false (by omega)
     ·have h9:signed true m (e - -1074).toNat = -((m <<< (e - -1074).toNat:Nat):Int):=rfl
      rw [h9] at hne ⊢
      clear h9
      generalize m <<< (e - -1074).toNat = X at hne ⊢
      exact decide_eq_true (by omega)
    rw [if_neg hne,hneg]
    have:=nearest_shift double s hm (e - -1074).toNat e
    rw [show e - ((e - -1074).toNat:Int) = -1074 by omega] at this
    rw [this,(hall s).1,← hyw]
  ·have he:eqk .f64 (whole .zero y) 0 = false:=by
    unfold eqk
    rw [hord,hs0]
    have:¬ sval s m' e' = 0:=fun h => hz (hsv.1 h)
    simp only [beq_eq_false_iff_ne,ne_eq,Option.some.injEq,cmp_eq]
    exact this
   unfold sin1
   rw [he]
   simp only [Bool.false_eq_true,if_false]
   congr 1
   rw [hw]
   have:decide (signed s q 0 < 0) = s:=by
    rw [hsq]
    cases s
    ·simp only [Bool.false_eq_true,if_false,decide_eq_false_iff_not];omega
    ·simp only [if_true,decide_eq_true_eq];omega
   rw [this]
end Go.Fl

namespace Go.Fl
open Go Go.RowKit Go.Ft Ieee
/-- The same datum,or two zeros. -/
def Zd (d d':Datum):Prop:=d = d' ∨ ∃ s t p,d = .number s 0 p ∧ d' = .number t 0 p
/-- .. of words. -/
def Zw (k:FloatKind) (x y:Nat):Prop:=Zd (k.decode x) (k.decode y)
/-- .. of results. -/
def Zo:Option Datum → Option Datum → Prop
 | none,none => True
 | some d,some d' => Zd d d'
 | _,_ => False

theorem Zd.refl (d:Datum):Zd d d:=.inl rfl
theorem Zw.refl (k:FloatKind) (x:Nat):Zw k x x:=.inl rfl
theorem Zo.refl:∀ d,Zo d d
 | none => trivial
 | some d => Zd.refl d
theorem Zd.symm {d d':Datum} (h:Zd d d'):Zd d' d:=by
 rcases h with h | ⟨s,t,p,h1,h2⟩
 ·exact .inl h.symm
 ·exact .inr ⟨t,s,p,h2,h1⟩
theorem Zd.trans {a b c:Datum} (h:Zd a b) (h':Zd b c):Zd a c:=by
 rcases h with rfl | ⟨s,t,p,rfl,rfl⟩
 ·exact h'
 ·rcases h' with rfl | ⟨s',t',p',h1,rfl⟩
  ·exact .inr ⟨s,t,p,rfl,rfl⟩
  ·injection h1 with _ _ h3
   subst h3
   exact .inr ⟨s,t',p,rfl,rfl⟩

theorem signed_zero (s:Bool) (k:Nat):signed s 0 k = 0:=by unfold signed;simp

theorem Zd.opp {d d':Datum} (h:Zd d d'):Zd d.opposite d'.opposite:=by
 rcases h with rfl | ⟨s,t,p,rfl,rfl⟩
 ·exact Zd.refl _
 ·exact .inr ⟨!s,!t,p,rfl,rfl⟩

theorem sum_l {d d':Datum} (h:Zd d d') (e:Datum):Zo (d.sum e) (d'.sum e):=by
 rcases h with rfl | ⟨s,t,p,rfl,rfl⟩
 ·exact Zo.refl _
 ·cases e with
  | nan u v => exact trivial
  | infinity u => exact Zd.refl _
  | number u n j =>
   show Zd (.number (if signed s 0 (p - min p j).toNat + signed u n (j - min p j).toNat = 0 then s && u else decide (signed s 0 (p - min p j).toNat + signed u n (j - min p j).toNat < 0)) (signed s 0 (p - min p j).toNat + signed u n (j - min p j).toNat).natAbs (min p j))
    (.number (if signed t 0 (p - min p j).toNat + signed u n (j - min p j).toNat = 0 then t && u else decide (signed t 0 (p - min p j).toNat + signed u n (j - min p j).toNat < 0)) (signed t 0 (p - min p j).toNat + signed u n (j - min p j).toNat).natAbs (min p j))
   rw [signed_zero,signed_zero,Int.zero_add]
   by_cases h0:signed u n (j - min p j).toNat = 0
   ·rw [h0,if_pos rfl,if_pos rfl]
    exact .inr ⟨_,_,_,rfl,rfl⟩
   ·rw [if_neg h0,if_neg h0]
    exact Zd.refl _

theorem sum_r {d d':Datum} (h:Zd d d') (e:Datum):Zo (e.sum d) (e.sum d'):=by
 rcases h with rfl | ⟨s,t,p,rfl,rfl⟩
 ·exact Zo.refl _
 ·cases e with
  | nan u v => exact trivial
  | infinity u => exact Zd.refl _
  | number u n j =>
   show Zd (.number (if signed u n (j - min j p).toNat + signed s 0 (p - min j p).toNat = 0 then u && s else decide (signed u n (j - min j p).toNat + signed s 0 (p - min j p).toNat < 0)) (signed u n (j - min j p).toNat + signed s 0 (p - min j p).toNat).natAbs (min j p))
    (.number (if signed u n (j - min j p).toNat + signed t 0 (p - min j p).toNat = 0 then u && t else decide (signed u n (j - min j p).toNat + signed t 0 (p - min j p).toNat < 0)) (signed u n (j - min j p).toNat + signed t 0 (p - min j p).toNat).natAbs (min j p))
   rw [signed_zero,signed_zero,Int.add_zero]
   by_cases h0:signed u n (j - min j p).toNat = 0
   ·rw [h0,if_pos rfl,if_pos rfl]
    exact .inr ⟨_,_,_,rfl,rfl⟩
   ·rw [if_neg h0,if_neg h0]
    exact Zd.refl _

theorem prod_l {d d':Datum} (h:Zd d d') (e:Datum):Zo (d.product e) (d'.product e):=by
 rcases h with rfl | ⟨s,t,p,rfl,rfl⟩
 ·exact Zo.refl _
 ·cases e with
  | nan u v => exact trivial
  | infinity u => exact trivial
  | number u n j => exact .inr ⟨s ^^ u,t ^^ u,p + j,by show Datum.number _ (0 * n) _ = _;rw [Nat.zero_mul],by show Datum.number _ (0 * n) _ = _;rw [Nat.zero_mul]⟩

theorem prod_r {d d':Datum} (h:Zd d d') (e:Datum):Zo (e.product d) (e.product d'):=by
 rcases h with rfl | ⟨s,t,p,rfl,rfl⟩
 ·exact Zo.refl _
 ·cases e with
  | nan u v => exact trivial
  | infinity u => exact trivial
  | number u n j => exact .inr ⟨u ^^ s,u ^^ t,j + p,rfl,rfl⟩

theorem quot_l {d d':Datum} (h:Zd d d') (k:Nat) (e:Datum):Zo (d.quotient k e) (d'.quotient k e):=by
 rcases h with rfl | ⟨s,t,p,rfl,rfl⟩
 ·exact Zo.refl _
 ·cases e with
  | nan u v => exact trivial
  | infinity u => exact .inr ⟨s ^^ u,t ^^ u,0,rfl,rfl⟩
  | number u n j =>
   by_cases hn:n = 0
   ·subst hn;exact trivial
   ·rw [quot_eq _ _ _ hn,quot_eq _ _ _ hn]
    refine .inr ⟨s ^^ u,t ^^ u,p - j - (k + n.log2 - (0:Nat).log2:Nat) - 1,?_,?_⟩
    all_goals
     simp only [Nat.zero_shiftLeft,Nat.zero_div,Nat.zero_mod]
     rfl

theorem order_l {d d':Datum} (h:Zd d d') (e:Datum):d.order e = d'.order e:=by
 rcases h with rfl | ⟨s,t,p,rfl,rfl⟩
 ·rfl
 ·cases e with
  | nan u v => rfl
  | infinity u => rfl
  | number u n j =>
   show some (compare (signed s 0 _) _) = some (compare (signed t 0 _) _)
   rw [signed_zero,signed_zero]

theorem order_r {d d':Datum} (h:Zd d d') (e:Datum):e.order d = e.order d':=by
 rcases h with rfl | ⟨s,t,p,rfl,rfl⟩
 ·rfl
 ·cases e with
  | nan u v => rfl
  | infinity u => rfl
  | number u n j =>
   show some (compare _ (signed s 0 _)) = some (compare _ (signed t 0 _))
   rw [signed_zero,signed_zero]

theorem zero_word (k:FloatKind) (s:Bool) (p:Int):k.decode (k.encode (.number s 0 p)) = .number s 0 k.format.leastPlace:=by
 have:k.encode (.number s 0 p) = k.format.word s 0:=by
  show k.format.nearest s 0 p = _
  unfold Format.nearest
  rw [if_pos rfl]
 rw [this]
 cases k <;> cases s <;> decide +kernel

/-- What is written of the like is the like. -/
theorem Zd.write {k:FloatKind} {d d':Datum} (h:Zd d d'):Zw k (k.encode d) (k.encode d'):=by
 rcases h with rfl | ⟨s,t,p,rfl,rfl⟩
 ·exact Zw.refl _ _
 ·exact .inr ⟨s,t,_,zero_word k s p,zero_word k t p⟩

theorem Zo.write {k:FloatKind}:∀ {d d':Option Datum},Zo d d' → Zw k ((d.map k.encode).getD (nanw k)) ((d'.map k.encode).getD (nanw k))
 | none,none,_ => Zw.refl _ _
 | some _,some _,h => Zd.write h
 | none,some _,h => h.elim
 | some _,none,h => h.elim

theorem bin_add (k:FloatKind) (x y:Nat):bin .add k x y = (((k.decode x).sum (k.decode y)).map k.encode).getD (nanw k):=rfl
theorem bin_sub (k:FloatKind) (x y:Nat):bin .sub k x y = (((k.decode x).sum (k.decode y).opposite).map k.encode).getD (nanw k):=rfl
theorem bin_mul (k:FloatKind) (x y:Nat):bin .mul k x y = (((k.decode x).product (k.decode y)).map k.encode).getD (nanw k):=rfl
theorem bin_quo (k:FloatKind) (x y:Nat):bin .quo k x y = (((k.decode x).quotient (k.format.fractionBits + 2) (k.decode y)).map k.encode).getD (nanw k):=rfl

theorem Zw.trans {k:FloatKind} {x y z:Nat} (h:Zw k x y) (h':Zw k y z):Zw k x z:=Zd.trans h h'
theorem Zw.add {k:FloatKind} {x x' y y':Nat} (hx:Zw k x x') (hy:Zw k y y'):Zw k (bin .add k x y) (bin .add k x' y'):=by
 rw [bin_add,bin_add]
 exact Zw.trans (Zo.write (sum_l hx _)) (Zo.write (sum_r hy _))
theorem Zw.sub {k:FloatKind} {x x' y y':Nat} (hx:Zw k x x') (hy:Zw k y y'):Zw k (bin .sub k x y) (bin .sub k x' y'):=by
 rw [bin_sub,bin_sub]
 exact Zw.trans (Zo.write (sum_l hx _)) (Zo.write (sum_r hy.opp _))
theorem Zw.mul {k:FloatKind} {x x' y y':Nat} (hx:Zw k x x') (hy:Zw k y y'):Zw k (bin .mul k x y) (bin .mul k x' y'):=by
 rw [bin_mul,bin_mul]
 exact Zw.trans (Zo.write (prod_l hx _)) (Zo.write (prod_r hy _))
theorem Zw.quo {k:FloatKind} {x x':Nat} (hx:Zw k x x') (y:Nat):Zw k (bin .quo k x y) (bin .quo k x' y):=by
 rw [bin_quo,bin_quo]
 exact Zo.write (quot_l hx _ _)
theorem Zw.order {k:FloatKind} {x x' y y':Nat} (hx:Zw k x x') (hy:Zw k y y'):k.format.order x y = k.format.order x' y' :=
 (order_l hx _).trans (order_r hy _)
theorem Zw.ltk {k:FloatKind} {x x' y y':Nat} (hx:Zw k x x') (hy:Zw k y y'):ltk k x y = ltk k x' y':=by unfold Fl.ltk;rw [Zw.order hx hy]
theorem Zw.gtk {k:FloatKind} {x x' y y':Nat} (hx:Zw k x x') (hy:Zw k y y'):gtk k x y = gtk k x' y':=by unfold Fl.gtk;rw [Zw.order hx hy]

theorem Zw.neg {k:FloatKind} {x x':Nat} (hx:Zw k x x'):Zw k (negc k x) (negc k x'):=by
 have key:∀ y,(k.decode y).isNaN = true → k.decode (negc k y) = k.decode (nanw k):=fun y h => by
  unfold negc
  rw [cn_of_nan (by rw [decode_neg,opp_nan];exact h)]
 have hn:(k.decode x).isNaN = (k.decode x').isNaN:=by
  rcases hx with h | ⟨s,t,p,h1,h2⟩
  ·rw [h]
  ·rw [h1,h2];rfl
 cases h:(k.decode x).isNaN
 ·unfold negc
  rw [cn_of_not (by rw [decode_neg,opp_nan];exact h),cn_of_not (by rw [decode_neg,opp_nan,← hn];exact h)]
  unfold Zw
  rw [decode_neg,decode_neg]
  exact Zd.opp hx
 ·unfold Zw
  rw [key x h,key x' (by rw [← hn];exact h)]
  exact Zd.refl _

theorem Zw.lesser {x x' y y':Nat} (hx:Zw .f32 x x') (hy:Zw .f32 y y'):Zw .f32 (lesserF x y) (lesserF x' y'):=by
 unfold lesserF
 rw [Zw.ltk hy hx]
 split
 ·exact hy
 ·exact hx
theorem Zw.greater {x x' y y':Nat} (hx:Zw .f32 x x') (hy:Zw .f32 y y'):Zw .f32 (greaterF x y) (greaterF x' y'):=by
 unfold greaterF
 rw [Zw.gtk hy hx]
 split
 ·exact hy
 ·exact hx

theorem Zw.wid {x x':Nat} (hx:Zw .f32 x x'):Zw .f64 (wid x) (wid x'):=by
 unfold Fl.wid
 rcases hx with h | ⟨s,t,p,h1,h2⟩
 ·rw [h];exact Zw.refl _ _
 ·rw [h1,h2,if_neg nan_num,if_neg nan_num]
  exact Zd.write (.inr ⟨s,t,p,rfl,rfl⟩)
theorem Zw.nar {x x':Nat} (hx:Zw .f64 x x'):Zw .f32 (nar x) (nar x'):=by
 unfold Fl.nar
 rcases hx with h | ⟨s,t,p,h1,h2⟩
 ·rw [h];exact Zw.refl _ _
 ·rw [h1,h2,if_neg nan_num,if_neg nan_num]
  exact Zd.write (.inr ⟨s,t,p,rfl,rfl⟩)
theorem Zw.sqr {x x':Nat} (hx:Zw .f64 x x'):Zw .f64 (sqr x) (sqr x'):=by
 have hs:∀ y,Fl.sqr y = (((FloatKind.f64.decode y).root (FloatKind.f64.format.fractionBits + 2)).map FloatKind.f64.encode).getD (nanw .f64):=fun y => rfl
 rw [hs,hs]
 rcases hx with h | ⟨s,t,p,h1,h2⟩
 ·rw [h];exact Zw.refl _ _
 ·rw [h1,h2]
  exact Zo.write (d:=some (.number s 0 p)) (d':=some (.number t 0 p)) (.inr ⟨s,t,p,rfl,rfl⟩)
theorem Zw.whole {x x':Nat} (hx:Zw .f64 x x'):Zw .f64 (whole .even x) (whole .even x'):=by
 rcases hx with h | ⟨s,t,p,h1,h2⟩
 ·unfold Fl.whole;rw [h];exact Zw.refl _ _
 ·rw [whole_num _ h1,whole_num _ h2,cut_rnd,cut_rnd,← enc64,← enc64]
  have:rnd (0 <<< p.toNat) (-p).toNat = 0:=by
   have:=rnd_le (n:=0 <<< p.toNat) (q:=0) (d:=(-p).toNat) (by rw [Nat.zero_shiftLeft];exact Nat.zero_le _)
   omega
  rw [this]
  exact Zd.write (.inr ⟨s,t,0,rfl,rfl⟩)

theorem Zw.root {x x':Nat} (hx:Zw .f32 x x'):Zw .f32 (rootF x) (rootF x'):=hx.wid.sqr.nar
theorem Zw.near {x x':Nat} (hx:Zw .f32 x x'):Zw .f32 (nearF x) (nearF x'):=hx.wid.whole.nar
theorem Zw.inner {a b c d e f a' b' c' d' e' f':Nat} (h1:Zw .f32 a a') (h2:Zw .f32 b b') (h3:Zw .f32 c c') (h4:Zw .f32 d d') (h5:Zw .f32 e e') (h6:Zw .f32 f f'):Zw .f32 (innerF a b c d e f) (innerF a' b' c' d' e' f') :=
 ((h1.mul h4).add (h2.mul h5)).add (h3.mul h6)
theorem Zw.long {a b c a' b' c':Nat} (h1:Zw .f32 a a') (h2:Zw .f32 b b') (h3:Zw .f32 c c'):Zw .f32 (longF a b c) (longF a' b' c') :=
 (Zw.inner h1 h2 h3 h1 h2 h3).root

/-- 0 - x is the opposite of x,where x is less than 0. -/
theorem sub_neg {x:Nat} (h:ltk .f32 x 0 = true):Zw .f32 (negc .f32 x) (B .sub 0 x):=by
 have h0:FloatKind.f32.decode 0 = .number false 0 (-149):=by decide +kernel
 have hord:FloatKind.f32.format.order x 0 = (FloatKind.f32.decode x).order (.number false 0 (-149)):=by rw [← h0];rfl
 have hnd:∀ (hn:(FloatKind.f32.decode x).isNaN = false),FloatKind.f32.decode (negc .f32 x) = (FloatKind.f32.decode x).opposite:=fun hn => by
  unfold negc
  rw [cn_of_not (by rw [decode_neg,opp_nan];exact hn),decode_neg]
 unfold Fl.ltk at h
 rw [hord] at h
 cases hx:FloatKind.f32.decode x with
 | nan s t => rw [hx] at h;cases h
 | infinity s =>
  cases s
  ·rw [hx] at h;cases h
  ·unfold Zw
   rw [hnd (by rw [hx];rfl),hx]
   show Zd _ (FloatKind.f32.decode (bin .sub .f32 0 x))
   rw [bin_sub,hx,h0]
   have:FloatKind.f32.decode (((Datum.sum (.number false 0 (-149)) (Datum.opposite (.infinity true))).map FloatKind.f32.encode).getD (nanw .f32)) = .infinity false:=by decide +kernel
   rw [this]
   exact Zd.refl _
 | number s m e =>
  obtain ⟨hm24,he,he2⟩:=read_single hx
  rw [hx,order_val _ _ _ _ (by omega) (by omega)] at h
  have hlt:sval s m e < sval false 0 (-149):=cmp_lt.1 (by simpa using h)
  have hs0:sval false 0 (-149) = 0:=by unfold sval;simp [val_zero.2]
  rw [hs0] at hlt
  have hs:s = true:=by
   cases s
   ·unfold sval at hlt;simp only [Bool.false_eq_true,if_false] at hlt;omega
   ·rfl
  subst hs
  have hm:m ≠ 0:=fun hz => by
   unfold sval at hlt
   rw [val_zero.2 hz] at hlt
   simp at hlt
  obtain ⟨r,hr,hrm,hall,-⟩:=rtS hx
  unfold Zw
  rw [hnd (by rw [hx];rfl),hx]
  show Zd (.number false m e) (FloatKind.f32.decode (bin .sub .f32 0 x))
  have hb:bin .sub .f32 0 x = single.nearest false m e:=by
   rw [bin_sub,hx,h0]
   have hmin:min (-149) e = -149:=by omega
   show single.nearest (if signed false 0 (-149 - min (-149) e).toNat + signed false m (e - min (-149) e).toNat = 0 then false && false else decide (signed false 0 (-149 - min (-149) e).toNat + signed false m (e - min (-149) e).toNat < 0)) (signed false 0 (-149 - min (-149) e).toNat + signed false m (e - min (-149) e).toNat).natAbs (min (-149) e) = _
   rw [hmin,signed_zero,Int.zero_add,natAbs_signed]
   have hp:=natAbs_signed false m (e - -149).toNat
   have hpos:=Nat.mul_pos (Nat.pos_of_ne_zero hm) (pow_pos2 (e - -149).toNat)
   have h9:signed false m (e - -149).toNat = ((m <<< (e - -149).toNat:Nat):Int):=rfl
   have hne:signed false m (e - -149).toNat ≠ 0:=fun h' => by rw [h'] at hp;simp at hp;omega
   have hneg:decide (signed false m (e - -149).toNat < 0) = false:=by
    rw [h9]
    generalize m <<< (e - -149).toNat = X
    exact decide_eq_false (by omega)
   rw [if_neg hne,hneg]
   have:=nearest_shift single false hm (e - -149).toNat e
   rw [show e - ((e - -149).toNat:Int) = -149 by omega] at this
   exact this
  rw [hb,(hall false).1]
  show Zd _ (single.read _)
  rw [(hall false).2]
  exact Zd.refl _
end Go.Fl

namespace Go.Proofs.YtbiacfkiakddiaaGreat
open Go.RowKit Go.Fl Go.Ft Ieee
theorem cut_le {m b:Nat} {e:Int} (he:-1074 ≤ e) (hv:val m e ≤ val 1 (b:Int)):m * 2 ^ e.toNat / 2 ^ (-e).toNat ≤ 2 ^ b:=by
 have h1:val 1 (b:Int) = val (1 * 2 ^ b) 0:=by rw [val_shift 1 b (by omega),Int.zero_add]
 rw [h1,Nat.one_mul] at hv
 rcases Int.le_total 0 e with h0 | h0
 ·rw [show (-e).toNat = 0 by omega,Nat.pow_zero,Nat.div_one]
  have h2:val (m * 2 ^ e.toNat) 0 = val m e:=by rw [val_shift _ _ (by omega),show (0:Int) + (e.toNat:Int) = e by omega]
  rw [← h2] at hv
  exact val_le_iff.1 hv
 ·rw [show e.toNat = 0 by omega,Nat.pow_zero,Nat.mul_one]
  have h5:m / 2 ^ (-e).toNat * 2 ^ (-e).toNat ≤ m:=Nat.div_mul_le_self _ _
  have h6:=(val_le_iff (e:=e)).2 h5
  rw [val_shift _ _ (by omega),show e + ((-e).toNat:Int) = 0 by omega] at h6
  exact val_le_iff.1 (Nat.le_trans h6 hv)

theorem int_small {y b:Nat} (hb:b ≤ 60) (h:Lw (b:Int) y):∃ n,floatToIntVal .f64 y .i64 = some n:=by
 obtain ⟨s,m,e,hd,hv⟩:=h
 have hp:=Lw.place hd
 have hq:=cut_le hp.1 hv
 have hti:(FloatKind.f64.decode y).toInt .zero = some (signed s (m * 2 ^ e.toNat / 2 ^ (-e).toNat) 0):=by
  rw [hd]
  show some (signed s (Toward.zero.cut s (m <<< e.toNat) (-e).toNat) 0) = _
  rw [zero_cut,Nat.shiftLeft_eq]
 generalize m * 2 ^ e.toNat / 2 ^ (-e).toNat = q at *
 have hsq:signed s q 0 = if s then -(q:Int) else q:=by unfold signed;simp
 have h60:2 ^ b ≤ 2 ^ 60:=Nat.pow_le_pow_right (by decide) hb
 refine ⟨signed s q 0,?_⟩
 unfold floatToIntVal
 rw [hti]
 have hmin:IntKind.i64.min = -9223372036854775808:=by decide
 have hmax:IntKind.i64.max = 9223372036854775807:=by decide
 have:IntKind.i64.min ≤ signed s q 0 ∧ signed s q 0 ≤ IntKind.i64.max:=by
  rw [hmin,hmax,hsq]
  cases s
  ·simp only [Bool.false_eq_true,if_false];omega
  ·simp only [if_true];omega
 simp only [this,and_self,if_true]

theorem down_cut (s:Bool) (n d:Nat):Toward.down.cut s n d ≤ n / 2 ^ d + 1:=by
 unfold Toward.cut
 simp only [Nat.one_shiftLeft]
 by_cases h:d ≤ n.log2 + 2
 ·rw [Nat.min_eq_left h]
  exact Nat.add_le_add_left (Bool.toNat_le _) _
 ·have hlt:n < 2 ^ (n.log2 + 2):=by
   by_cases h0:n = 0
   ·subst h0;exact Nat.pow_pos (by decide)
   ·exact Nat.lt_trans ((Nat.log2_lt h0).1 (Nat.lt_succ_self _)) (Nat.pow_lt_pow_right (by decide) (by omega))
  have hz:n / 2 ^ min d (n.log2 + 2) = 0:=by rw [Nat.min_eq_right (by omega)];exact Nat.div_eq_of_lt hlt
  rw [hz]
  exact Nat.le_trans (Nat.add_le_add_left (Bool.toNat_le _) _) (Nat.add_le_add_right (Nat.zero_le _) 1)

theorem lw_floor {t b:Nat} (hb:b ≤ 60) (h:Lw (b:Int) t):Lw ((b + 1:Nat):Int) (whole .down t):=by
 obtain ⟨s,m,e,hd,hv⟩:=h
 have hp:=Lw.place hd
 have hq:=cut_le hp.1 hv
 have hc:=down_cut s (m <<< e.toNat) (-e).toNat
 rw [Nat.shiftLeft_eq] at hc
 rw [whole_num _ hd,← enc64,Nat.shiftLeft_eq]
 have h2:Toward.down.cut s (m * 2 ^ e.toNat) (-e).toNat ≤ 2 ^ (b + 1):=by
  have:1 ≤ 2 ^ b:=Nat.one_le_two_pow
  rw [Nat.pow_succ]
  omega
 refine lw_write s (by omega) (by omega) (by omega) ?_
 have h1:val 1 ((b + 1:Nat):Int) = val (1 * 2 ^ (b + 1)) 0:=by rw [val_shift 1 (b + 1) (by omega),Int.zero_add]
 rw [h1,Nat.one_mul]
 exact val_le_iff.2 h2
end Go.Proofs.YtbiacfkiakddiaaGreat
