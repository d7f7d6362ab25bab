/-
 Lemmas: Ta.
-/
import Derived.Laws.FloatBits
import Ieee.Arith
set_option linter.unusedVariables false
set_option linter.unusedSimpArgs false
namespace Go.Ft
open Ieee
theorem pow_add2 (a b:Nat):(2:Nat) ^ (a + b) = 2 ^ a * 2 ^ b:=Nat.pow_add 2 a b
theorem pow_pos2 (a:Nat):0 < (2:Nat) ^ a:=Nat.two_pow_pos a
theorem pow_le2 {a b:Nat} (h:a ≤ b):(2:Nat) ^ a ≤ 2 ^ b:=Nat.pow_le_pow_right (by decide) h
theorem le_of_pow {a b:Nat} (h:(2:Nat) ^ a ≤ 2 ^ b):a ≤ b:=(Nat.pow_le_pow_iff_right (by decide)).1 h

/-- n / 2 ^ d,to the nearest whole number,between two the even one. -/
def rnd (n d:Nat):Nat:=n / 2 ^ d + (decide (2 ^ d < 2 * (n % 2 ^ d)) || (2 ^ d == 2 * (n % 2 ^ d) && n / 2 ^ d % 2 == 1)).toNat

theorem cut_rnd (neg:Bool) (n d:Nat):Toward.even.cut neg n d = rnd n d:=by
 unfold Toward.cut rnd
 simp only [Nat.one_shiftLeft]
 by_cases h:d ≤ n.log2 + 2
 ·rw [Nat.min_eq_left h]
 ·rw [Nat.min_eq_right (by omega)]
  have h1:n < 2 ^ (n.log2 + 1):=Nat.lt_log2_self
  have h2:(2:Nat) ^ (n.log2 + 2) = 2 * 2 ^ (n.log2 + 1):=by rw [Nat.pow_succ];omega
  have h3:(2:Nat) ^ (n.log2 + 2) ≤ 2 ^ d:=pow_le2 (by omega)
  generalize (2:Nat) ^ (n.log2 + 2) = g at *
  generalize (2:Nat) ^ d = g' at *
  have e1:n / g = 0:=Nat.div_eq_of_lt (by omega)
  have e2:n % g = n:=Nat.mod_eq_of_lt (by omega)
  have e3:n / g' = 0:=Nat.div_eq_of_lt (by omega)
  have e4:n % g' = n:=Nat.mod_eq_of_lt (by omega)
  rw [e1,e2,e3,e4]
  have f1:¬ g < 2 * n:=by omega
  have f2:¬ g' < 2 * n:=by omega
  simp [f1,f2]

theorem zero_cut (neg:Bool) (n d:Nat):Toward.zero.cut neg n d = n / 2 ^ d:=by
 unfold Toward.cut
 simp only [Nat.one_shiftLeft]
 by_cases h:d ≤ n.log2 + 2
 ·rw [Nat.min_eq_left h];rfl
 ·rw [Nat.min_eq_right (by omega)]
  have h1:n < 2 ^ (n.log2 + 1):=Nat.lt_log2_self
  have h2:(2:Nat) ^ (n.log2 + 2) = 2 * 2 ^ (n.log2 + 1):=by rw [Nat.pow_succ];omega
  have h3:(2:Nat) ^ (n.log2 + 2) ≤ 2 ^ d:=pow_le2 (by omega)
  rw [Nat.div_eq_of_lt (by omega),Nat.div_eq_of_lt (by omega)];rfl

theorem rnd_zero (n:Nat):rnd n 0 = n:=by
 unfold rnd
 have e:n % 1 = 0:=Nat.mod_one n
 simp [e]

theorem rnd_shift (n d k:Nat):rnd (n * 2 ^ k) (d + k) = rnd n d:=by
 unfold rnd
 rw [pow_add2,Nat.mul_div_mul_right _ _ (pow_pos2 k),Nat.mul_mod_mul_right]
 have hk:=pow_pos2 k
 generalize (2:Nat) ^ k = K at *
 generalize (2:Nat) ^ d = D at *
 generalize n % D = r
 have e:2 * (r * K) = (2 * r) * K:=by rw [Nat.mul_assoc]
 rw [e]
 have f1:(D * K < 2 * r * K) = (D < 2 * r):=propext ⟨fun h => Nat.lt_of_mul_lt_mul_right h,fun h => Nat.mul_lt_mul_of_pos_right h hk⟩
 have f2:(D * K == 2 * r * K) = (D == 2 * r):=by
  rw [Bool.eq_iff_iff];simp only [beq_iff_eq]
  exact ⟨fun h => Nat.eq_of_mul_eq_mul_right hk h,fun h => by rw [h]⟩
 simp only [f1,f2]

theorem rnd_le {n q d:Nat} (h:n ≤ q * 2 ^ d):rnd n d ≤ q:=by
 have hd:=pow_pos2 d
 unfold rnd
 generalize (2:Nat) ^ d = D at *
 rcases Nat.lt_or_ge n (q * D) with h' | h'
 ·have h1:n / D < q:=(Nat.div_lt_iff_lt_mul hd).2 h'
  have h2:=Bool.toNat_le (decide (D < 2 * (n % D)) || (D == 2 * (n % D) && n / D % 2 == 1))
  omega
 ·have e:n = q * D:=by omega
  subst e
  rw [Nat.mul_div_cancel _ hd,Nat.mul_mod_left]
  have f2:(D == 0) = false:=by simpa using (show D ≠ 0 by omega)
  simp [f2]

theorem rnd_ge {n q d:Nat} (h:q * 2 ^ d ≤ n):q ≤ rnd n d:=by
 have:=(Nat.le_div_iff_mul_le (pow_pos2 d)).2 h
 unfold rnd
 omega

/-- m * 2 ^ t,made whole. -/
def R (m:Nat) (t:Int):Nat:=rnd (m * 2 ^ t.toNat) (-t).toNat

theorem R_pos (m:Nat) {t:Int} (h:0 ≤ t):R m t = m * 2 ^ t.toNat:=by
 unfold R
 rw [show (-t).toNat = 0 by omega,rnd_zero]

theorem R_shift (m k:Nat) (t:Int):R (m * 2 ^ k) (t - k) = R m t:=by
 unfold R
 by_cases h1:(k:Int) ≤ t
 ·rw [show (-(t - k)).toNat = 0 by omega,show (-t).toNat = 0 by omega,Nat.mul_assoc,← pow_add2,show k + (t - k).toNat = t.toNat by omega]
 ·by_cases h2:t ≤ 0
  ·rw [show (t - k).toNat = 0 by omega,show t.toNat = 0 by omega,show (-(t - k)).toNat = (-t).toNat + k by omega]
   simp only [Nat.pow_zero,Nat.mul_one]
   exact rnd_shift m _ k
  ·rw [show (t - k).toNat = 0 by omega,show (-t).toNat = 0 by omega,show (-(t - k)).toNat = 0 + (k - t.toNat) by omega]
   have:m * 2 ^ k * 2 ^ 0 = m * 2 ^ t.toNat * 2 ^ (k - t.toNat):=by
    rw [Nat.pow_zero,Nat.mul_one,Nat.mul_assoc,← pow_add2,show t.toNat + (k - t.toNat) = k by omega]
   rw [this,rnd_shift]

variable (f:Format)
def last (m:Nat) (e:Int):Int:=max (e + m.log2 - f.fractionBits) f.leastPlace

theorem nearest_eq (s:Bool) {m:Nat} (h:m ≠ 0) (e:Int) :
  f.nearest s m e = f.word s (min ((last f m e - f.leastPlace).toNat * f.binade + R m (e - last f m e)) f.infRung):=by
 unfold Format.nearest
 rw [if_neg h]
 show f.word s (min ((last f m e - f.leastPlace).toNat * f.binade + Toward.even.cut s (m <<< (e - last f m e).toNat) (last f m e - e).toNat) f.infRung) = _
 rw [cut_rnd,Nat.shiftLeft_eq]
 unfold R
 rw [show (-(e - last f m e)).toNat = (last f m e - e).toNat by omega]

theorem log2_mul_pow {m:Nat} (h:m ≠ 0) (k:Nat):(m * 2 ^ k).log2 = m.log2 + k:=by
 have hk:=pow_pos2 k
 rw [Nat.log2_eq_iff (by have:=Nat.mul_pos (Nat.pos_of_ne_zero h) hk;omega)]
 have h1:=Nat.log2_self_le h
 have h2:m < 2 ^ (m.log2 + 1):=Nat.lt_log2_self
 refine ⟨by rw [pow_add2];exact Nat.mul_le_mul_right _ h1,?_⟩
 rw [show m.log2 + k + 1 = (m.log2 + 1) + k by omega,pow_add2]
 exact Nat.mul_lt_mul_of_pos_right h2 hk

theorem nearest_shift (s:Bool) {m:Nat} (h:m ≠ 0) (k:Nat) (e:Int):f.nearest s (m * 2 ^ k) (e - k) = f.nearest s m e:=by
 have h':m * 2 ^ k ≠ 0:=by have:=Nat.mul_pos (Nat.pos_of_ne_zero h) (pow_pos2 k);omega
 have hl:last f (m * 2 ^ k) (e - k) = last f m e:=by
  unfold last
  rw [log2_mul_pow h]
  have:(e - (k:Int) + ((m.log2 + k:Nat):Int) - f.fractionBits) = e + m.log2 - f.fractionBits:=by omega
  rw [this]
 rw [nearest_eq f s h',nearest_eq f s h,hl]
 have:e - (k:Int) - last f m e = (e - last f m e) - k:=by omega
 rw [this,R_shift]

/-- The value,in units of 2 ^ -6000. -/
def val (m:Nat) (e:Int):Nat:=m * 2 ^ (e + 6000).toNat

theorem val_shift (m k:Nat) {e:Int} (h:-6000 ≤ e):val (m * 2 ^ k) e = val m (e + k):=by
 unfold val
 rw [Nat.mul_assoc,← pow_add2,show k + (e + 6000).toNat = (e + k + 6000).toNat by omega]

theorem val_inj {m n:Nat} {e:Int} (h:val m e = val n e):m = n:=Nat.eq_of_mul_eq_mul_right (pow_pos2 _) h
theorem val_le_iff {m n:Nat} {e:Int}:val m e ≤ val n e ↔ m ≤ n :=
 ⟨fun h => Nat.le_of_mul_le_mul_right h (pow_pos2 _),fun h => Nat.mul_le_mul_right _ h⟩
theorem val_zero {m:Nat} {e:Int}:val m e = 0 ↔ m = 0:=by
 unfold val
 have:=pow_pos2 (e + 6000).toNat
 rw [Nat.mul_eq_zero];omega

/-- The nearest word depends on the value alone. -/
theorem nearest_val (s:Bool) {m n:Nat} {e e':Int} (hm:m ≠ 0) (he:-6000 ≤ e) (he':-6000 ≤ e') (h:val m e = val n e'):f.nearest s m e = f.nearest s n e':=by
 have hn:n ≠ 0:=fun hn => hm (val_zero.1 (by rw [h];exact val_zero.2 hn))
 have key:∀ (m n:Nat) (e':Int) (k:Nat),n ≠ 0 → -6000 ≤ e' - k → val m (e' - k) = val n e' → f.nearest s m (e' - k) = f.nearest s n e':=fun m n e' k hn he h => by
  have e1:m = n * 2 ^ k:=val_inj (e:=e' - k) (by rw [val_shift _ _ he,h,show e' - (k:Int) + k = e' by omega])
  rw [e1]
  exact nearest_shift f s hn k e'
 rcases Int.le_total e e' with hl | hl
 ·obtain ⟨k,rfl⟩:∃ k:Nat,e = e' - k:=⟨(e' - e).toNat,by omega⟩
  exact key m n e' k hn he h
 ·obtain ⟨k,rfl⟩:∃ k:Nat,e' = e - k:=⟨(e - e').toNat,by omega⟩
  exact (key n m e k hm he' h.symm).symm

theorem sign_div (s:Bool) {r:Nat} (h:r < f.signWeight):(f.word s r / f.signWeight % 2 == 1) = s ∧ f.word s r % f.signWeight = r:=by
 have hp:0 < f.signWeight:=by omega
 unfold Format.word
 cases s
 ·simp only [Bool.false_eq_true,if_false]
  rw [Nat.div_eq_of_lt h,Nat.mod_eq_of_lt h]
  exact ⟨rfl,rfl⟩
 ·simp only [if_true]
  rw [Nat.add_mod_left,Nat.mod_eq_of_lt h,Nat.add_div_left _ hp,Nat.div_eq_of_lt h]
  exact ⟨rfl,rfl⟩

theorem read_word (s:Bool) {r:Nat} (h:r < f.infRung) :
  f.read (f.word s r) = if r < f.binade then .number s r f.leastPlace else .number s (f.binade + r % f.binade) (f.leastPlace + (r / f.binade - 1:Nat)):=by
 have hs:=Nat.lt_trans h (Format.infRung_lt f)
 unfold Format.read
 simp only [(sign_div f s hs).1,(sign_div f s hs).2]
 simp only [h,if_true]

/-- What a rung reads as. -/
theorem read_rung (s:Bool) {l:Int} {k:Nat} (hl:f.leastPlace ≤ l) (h0:-6000 ≤ f.leastPlace) (hk:k ≤ 2 * f.binade) (hb:l = f.leastPlace ∨ f.binade ≤ k)
  (h:(l - f.leastPlace).toNat * f.binade + k < f.infRung) :
  ∃ m e,f.read (f.word s ((l - f.leastPlace).toNat * f.binade + k)) = .number s m e ∧ val m e = val k l ∧ f.leastPlace ≤ e:=by
 rw [read_word f s h]
 have hB:0 < f.binade:=pow_pos2 _
 obtain ⟨j,rfl⟩:∃ j:Nat,l = f.leastPlace + j:=⟨(l - f.leastPlace).toNat,by omega⟩
 rw [show (f.leastPlace + (j:Int) - f.leastPlace).toNat = j by omega] at *
 generalize f.leastPlace = lp at *
 generalize f.binade = B at *
 by_cases hlt:j * B + k < B
 ·rw [if_pos hlt]
  have hj:j = 0:=by
   rcases Nat.eq_zero_or_pos j with h | h
   ·exact h
   ·have:B ≤ j * B:=Nat.le_mul_of_pos_left B h
    omega
  subst hj
  exact ⟨_,_,rfl,by simp,by omega⟩
 ·rw [if_neg hlt]
  refine ⟨_,_,rfl,?_,by omega⟩
  have hk1:B ≤ k:=by
   rcases hb with h | h
   ·have:j = 0:=by omega
    subst this;omega
   ·exact h
  rcases Nat.lt_or_ge k (2 * B) with h2 | h2
  ·have e1:(j * B + k) / B = j + 1:=by
    rw [Nat.add_comm,Nat.add_mul_div_right _ _ hB,Nat.div_eq_of_lt_le (by omega:1 * B ≤ k) (by omega)];omega
   have e2:(j * B + k) % B = k - B:=by
    rw [Nat.add_comm,Nat.add_mul_mod_self_right,show k = k - B + B by omega,Nat.add_mod_right,Nat.mod_eq_of_lt (by omega)];omega
   rw [e1,e2,show B + (k - B) = k by omega,show j + 1 - 1 = j by omega]
  ·have hk2:k = 2 * B:=by omega
   subst hk2
   have e1:(j * B + 2 * B) / B = j + 2:=by rw [← Nat.add_mul,Nat.mul_div_cancel _ hB]
   have e2:(j * B + 2 * B) % B = 0:=by rw [← Nat.add_mul,Nat.mul_mod_left]
   rw [e1,e2,show j + 2 - 1 = j + 1 by omega,Nat.add_zero]
   have:=val_shift B 1 (e:=lp + (j:Int)) (by omega)
   rw [show B * 2 ^ 1 = 2 * B by omega] at this
   rw [this]
   congr 1
   omega

theorem last_ge (m:Nat) (e:Int):f.leastPlace ≤ last f m e:=by unfold last;omega

theorem kept_le {m:Nat} (h:m ≠ 0) (e:Int):R m (e - last f m e) ≤ 2 * f.binade:=by
 have hB:2 * f.binade = 2 ^ (f.fractionBits + 1):=by unfold Format.binade;rw [Nat.pow_succ];omega
 rw [hB]
 refine rnd_le ?_
 have h2:m < 2 ^ (m.log2 + 1):=Nat.lt_log2_self
 have hl:e + m.log2 - f.fractionBits ≤ last f m e:=by unfold last;omega
 generalize last f m e = l at *
 rw [← pow_add2]
 refine Nat.le_trans (Nat.mul_le_mul_right _ (Nat.le_of_lt h2)) ?_
 rw [← pow_add2]
 exact pow_le2 (by omega)

theorem kept_ge {m:Nat} (h:m ≠ 0) (e:Int):last f m e = f.leastPlace ∨ f.binade ≤ R m (e - last f m e):=by
 by_cases hl:last f m e = f.leastPlace
 ·exact .inl hl
 ·right
  refine rnd_ge ?_
  have h1:=Nat.log2_self_le h
  have hl:e + m.log2 - f.fractionBits = last f m e:=by unfold last at *;omega
  generalize last f m e = l at *
  unfold Format.binade
  rw [← pow_add2]
  refine Nat.le_trans ?_ (Nat.mul_le_mul_right _ h1)
  rw [← pow_add2]
  exact pow_le2 (by omega)

/-- WHAT THE NEAREST WORD READS AS: an infinity,or a number of the value kept * 2 ^ last. -/
theorem nearest_read (s:Bool) {m:Nat} (h:m ≠ 0) (e:Int) (h0:-6000 ≤ f.leastPlace)
  (hi:(last f m e - f.leastPlace).toNat * f.binade + R m (e - last f m e) < f.infRung) :
  ∃ m' e',f.read (f.nearest s m e) = .number s m' e' ∧ val m' e' = val (R m (e - last f m e)) (last f m e) ∧ f.leastPlace ≤ e':=by
 rw [nearest_eq f s h,Nat.min_eq_left (Nat.le_of_lt hi)]
 exact read_rung f s (last_ge f m e) h0 (kept_le f h e) (kept_ge f h e) hi

/-- The value kept is at most 2 ^ b,if the number is. -/
theorem kept_bound {m:Nat} (h:m ≠ 0) {e b:Int} (he:-6000 ≤ e) (h0:-6000 ≤ f.leastPlace) (hb:f.leastPlace ≤ b) (hv:val m e ≤ val 1 b) :
  last f m e ≤ max (b - f.fractionBits) f.leastPlace ∧ val (R m (e - last f m e)) (last f m e) ≤ val 1 b:=by
 have h1:=Nat.log2_self_le h
 have hb6:-6000 ≤ b:=by omega
 have hle:e + m.log2 ≤ b:=by
  unfold val at hv
  rw [Nat.one_mul] at hv
  have:=Nat.le_trans (Nat.mul_le_mul_right (2 ^ (e + 6000).toNat) h1) hv
  rw [← pow_add2] at this
  have:=le_of_pow this
  omega
 have hlast:last f m e ≤ max (b - f.fractionBits) f.leastPlace:=by unfold last;omega
 refine ⟨hlast,?_⟩
 have hlb:last f m e ≤ b:=by omega
 have hl6:-6000 ≤ last f m e:=by have:=last_ge f m e;omega
 generalize last f m e = l at *
 have e1:val 1 b = val (2 ^ (b - l).toNat) l:=by
  have:=val_shift 1 (b - l).toNat (e:=l) hl6
  rw [Nat.one_mul] at this
  rw [this,show l + ((b - l).toNat:Int) = b by omega]
 rw [e1,val_le_iff]
 refine rnd_le ?_
 rw [← pow_add2]
 rcases Int.le_total l e with ht | ht
 ·have:val (m * 2 ^ (e - l).toNat) l ≤ val (2 ^ (b - l).toNat) l:=by rw [val_shift _ _ hl6,← e1,show l + ((e - l).toNat:Int) = e by omega];exact hv
  have:=val_le_iff.1 this
  rw [show (-(e - l)).toNat = 0 by omega]
  exact this
 ·have e2:val 1 b = val (2 ^ (b - e).toNat) e:=by
   have:=val_shift 1 (b - e).toNat (e:=e) he
   rw [Nat.one_mul] at this
   rw [this,show e + ((b - e).toNat:Int) = b by omega]
  rw [e2,val_le_iff] at hv
  rw [show (e - l).toNat = 0 by omega,Nat.pow_zero,Nat.mul_one,show (b - l).toNat + (-(e - l)).toNat = (b - e).toNat by omega]
  exact hv

/-- Numbers up to 2 ^ b stay so. -/
theorem nearest_le (s:Bool) {m:Nat} {e b:Int} (he:-6000 ≤ e) (h0:-6000 ≤ f.leastPlace) (hb:f.leastPlace ≤ b) (hv:val m e ≤ val 1 b)
  (hi:(max (b - f.fractionBits) f.leastPlace - f.leastPlace).toNat * f.binade + 2 * f.binade < f.infRung) :
  ∃ m' e',f.read (f.nearest s m e) = .number s m' e' ∧ val m' e' ≤ val 1 b ∧ f.leastPlace ≤ e':=by
 by_cases h:m = 0
 ·subst h
  have hn:f.nearest s 0 e = f.word s 0:=by unfold Format.nearest;rw [if_pos rfl]
  have hB:0 < f.binade:=pow_pos2 _
  rw [hn,read_word f s (by omega),if_pos hB]
  exact ⟨_,_,rfl,by unfold val;omega,by omega⟩
 ·obtain ⟨hl,hk⟩:=kept_bound f h he h0 hb hv
  have hlg:=last_ge f m e
  have hkl:=kept_le f h e
  have hle:(last f m e - f.leastPlace).toNat * f.binade ≤ (max (b - f.fractionBits) f.leastPlace - f.leastPlace).toNat * f.binade:=Nat.mul_le_mul_right _ (by omega)
  obtain ⟨m',e',h1,h2,h3⟩:=nearest_read f s h e h0 (by omega)
  exact ⟨m',e',h1,by rw [h2];exact hk,h3⟩

/-- A number that the format has stays as it is. -/
theorem nearest_exact (s:Bool) {m:Nat} (hm:m < 2 * f.binade) {e:Int} (he:f.leastPlace ≤ e) (h0:-6000 ≤ f.leastPlace)
  (hi:(e - f.leastPlace).toNat * f.binade + 2 * f.binade ≤ f.infRung) :
  ∃ m' e',f.read (f.nearest s m e) = .number s m' e' ∧ val m' e' = val m e ∧ f.leastPlace ≤ e':=by
 have hB:0 < f.binade:=pow_pos2 _
 by_cases h:m = 0
 ·subst h
  have hn:f.nearest s 0 e = f.word s 0:=by unfold Format.nearest;rw [if_pos rfl]
  rw [hn,read_word f s (by omega),if_pos hB]
  exact ⟨_,_,rfl,by unfold val;omega,by omega⟩
 ·have hl:m.log2 ≤ f.fractionBits:=by
   have:m.log2 < f.fractionBits + 1:=(Nat.log2_lt h).2 (by rw [Nat.pow_succ];unfold Format.binade at hm;omega)
   omega
  have hle:last f m e ≤ e:=by unfold last;omega
  have hlg:=last_ge f m e
  have hR:R m (e - last f m e) = m * 2 ^ (e - last f m e).toNat:=R_pos _ (by omega)
  have hlt:(last f m e - f.leastPlace).toNat * f.binade + R m (e - last f m e) < f.infRung:=by
   have hkl:=kept_le f h e
   rcases Nat.lt_or_ge (last f m e - f.leastPlace).toNat (e - f.leastPlace).toNat with h' | h'
   ·have:((last f m e - f.leastPlace).toNat + 1) * f.binade ≤ (e - f.leastPlace).toNat * f.binade:=Nat.mul_le_mul_right _ h'
    rw [Nat.add_mul] at this
    omega
   ·have he':e = last f m e:=by omega
    rw [hR,show (e - last f m e).toNat = 0 by omega,Nat.pow_zero,Nat.mul_one,← he']
    omega
  obtain ⟨m',e',h1,h2,h3⟩:=nearest_read f s h e h0 hlt
  refine ⟨m',e',h1,?_,h3⟩
  rw [h2,hR,val_shift _ _ (by omega),show last f m e + ((e - last f m e).toNat:Int) = e by omega]
end Go.Ft
