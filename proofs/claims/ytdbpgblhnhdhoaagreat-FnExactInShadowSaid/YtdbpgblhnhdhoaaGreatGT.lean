/-
  Rounding: what the nearest word of a number reads as; bounds by powers of two; numbers that a format has. Plain theory of the given words and operations.
  Theory of the float words: what fits a float32.
  Theory of the float words: reading and writing again, the size, whole parts, the two ways to a sine.
  Plain law: two words that differ at most in the sign of a zero, and what the operations make of them.
-/
import Ieee.Arith
import Derived.Laws.FloatBits
import Derived.Test.YtdbpgblhnhdhoaaGreatGA
import Derived.Laws.FloatArith
set_option linter.unusedVariables false
set_option linter.unusedSimpArgs false
namespace Go.Ft
open Ieee

theorem pow_add2 (a b : Nat) : (2 : Nat) ^ (a + b) = 2 ^ a * 2 ^ b := Nat.pow_add 2 a b
theorem pow_pos2 (a : Nat) : 0 < (2 : Nat) ^ a := Nat.two_pow_pos a
theorem pow_le2 {a b : Nat} (h : a ≤ b) : (2 : Nat) ^ a ≤ 2 ^ b := Nat.pow_le_pow_right (by decide) h
theorem le_of_pow {a b : Nat} (h : (2 : Nat) ^ a ≤ 2 ^ b) : a ≤ b := (Nat.pow_le_pow_iff_right (by decide)).1 h

/-- n / 2 ^ d, to the nearest whole number, between two the even one. -/
def rnd (n d : Nat) : Nat := n / 2 ^ d + (decide (2 ^ d < 2 * (n % 2 ^ d)) || (2 ^ d == 2 * (n % 2 ^ d) && n / 2 ^ d % 2 == 1)).toNat

theorem cut_rnd (neg : Bool) (n d : Nat) : Toward.even.cut neg n d = rnd n d := by
  unfold Toward.cut rnd
  simp only [Nat.one_shiftLeft]
  by_cases h : d ≤ n.log2 + 2
  · rw [Nat.min_eq_left h]
  · rw [Nat.min_eq_right (by omega)]
    have h1 : n < 2 ^ (n.log2 + 1) := Nat.lt_log2_self
    have h2 : (2 : Nat) ^ (n.log2 + 2) = 2 * 2 ^ (n.log2 + 1) := by rw [Nat.pow_succ]; omega
    have h3 : (2 : Nat) ^ (n.log2 + 2) ≤ 2 ^ d := pow_le2 (by omega)
    generalize (2 : Nat) ^ (n.log2 + 2) = g at *
    generalize (2 : Nat) ^ d = g' at *
    have e1 : n / g = 0 := Nat.div_eq_of_lt (by omega)
    have e2 : n % g = n := Nat.mod_eq_of_lt (by omega)
    have e3 : n / g' = 0 := Nat.div_eq_of_lt (by omega)
    have e4 : n % g' = n := Nat.mod_eq_of_lt (by omega)
    rw [e1, e2, e3, e4]
    have f1 : ¬ g < 2 * n := by omega
    have f2 : ¬ g' < 2 * n := by omega
    simp [f1, f2]

theorem zero_cut (neg : Bool) (n d : Nat) : Toward.zero.cut neg n d = n / 2 ^ d := by
  unfold Toward.cut
  simp only [Nat.one_shiftLeft]
  by_cases h : d ≤ n.log2 + 2
  · rw [Nat.min_eq_left h]; rfl
  · rw [Nat.min_eq_right (by omega)]
    have h1 : n < 2 ^ (n.log2 + 1) := Nat.lt_log2_self
    have h2 : (2 : Nat) ^ (n.log2 + 2) = 2 * 2 ^ (n.log2 + 1) := by rw [Nat.pow_succ]; omega
    have h3 : (2 : Nat) ^ (n.log2 + 2) ≤ 2 ^ d := pow_le2 (by omega)
    rw [Nat.div_eq_of_lt (by omega), Nat.div_eq_of_lt (by omega)]; rfl

theorem rnd_zero (n : Nat) : rnd n 0 = n := by
  unfold rnd
  have e : n % 1 = 0 := Nat.mod_one n
  simp [e]

theorem rnd_shift (n d k : Nat) : rnd (n * 2 ^ k) (d + k) = rnd n d := by
  unfold rnd
  rw [pow_add2, Nat.mul_div_mul_right _ _ (pow_pos2 k), Nat.mul_mod_mul_right]
  have hk := pow_pos2 k
  generalize (2 : Nat) ^ k = K at *
  generalize (2 : Nat) ^ d = D at *
  generalize n % D = r
  have e : 2 * (r * K) = (2 * r) * K := by rw [Nat.mul_assoc]
  rw [e]
  have f1 : (D * K < 2 * r * K) = (D < 2 * r) := propext ⟨fun h => Nat.lt_of_mul_lt_mul_right h, fun h => Nat.mul_lt_mul_of_pos_right h hk⟩
  have f2 : (D * K == 2 * r * K) = (D == 2 * r) := by
    rw [Bool.eq_iff_iff]; simp only [beq_iff_eq]
    exact ⟨fun h => Nat.eq_of_mul_eq_mul_right hk h, fun h => by rw [h]⟩
  simp only [f1, f2]

theorem rnd_le {n q d : Nat} (h : n ≤ q * 2 ^ d) : rnd n d ≤ q := by
  have hd := pow_pos2 d
  unfold rnd
  generalize (2 : Nat) ^ d = D at *
  rcases Nat.lt_or_ge n (q * D) with h' | h'
  · have h1 : n / D < q := (Nat.div_lt_iff_lt_mul hd).2 h'
    have h2 := Bool.toNat_le (decide (D < 2 * (n % D)) || (D == 2 * (n % D) && n / D % 2 == 1))
    omega
  · have e : n = q * D := by omega
    subst e
    rw [Nat.mul_div_cancel _ hd, Nat.mul_mod_left]
    have f2 : (D == 0) = false := by simpa using (show D ≠ 0 by omega)
    simp [f2]

theorem rnd_ge {n q d : Nat} (h : q * 2 ^ d ≤ n) : q ≤ rnd n d := by
  have := (Nat.le_div_iff_mul_le (pow_pos2 d)).2 h
  unfold rnd
  omega

/-- m * 2 ^ t, made whole. -/
def R (m : Nat) (t : Int) : Nat := rnd (m * 2 ^ t.toNat) (-t).toNat

theorem R_pos (m : Nat) {t : Int} (h : 0 ≤ t) : R m t = m * 2 ^ t.toNat := by
  unfold R
  rw [show (-t).toNat = 0 by omega, rnd_zero]

theorem R_shift (m k : Nat) (t : Int) : R (m * 2 ^ k) (t - k) = R m t := by
  unfold R
  by_cases h1 : (k : Int) ≤ t
  · rw [show (-(t - k)).toNat = 0 by omega, show (-t).toNat = 0 by omega, Nat.mul_assoc, ← pow_add2, show k + (t - k).toNat = t.toNat by omega]
  · by_cases h2 : t ≤ 0
    · rw [show (t - k).toNat = 0 by omega, show t.toNat = 0 by omega, show (-(t - k)).toNat = (-t).toNat + k by omega]
      simp only [Nat.pow_zero, Nat.mul_one]
      exact rnd_shift m _ k
    · rw [show (t - k).toNat = 0 by omega, show (-t).toNat = 0 by omega, show (-(t - k)).toNat = 0 + (k - t.toNat) by omega]
      have : m * 2 ^ k * 2 ^ 0 = m * 2 ^ t.toNat * 2 ^ (k - t.toNat) := by
        rw [Nat.pow_zero, Nat.mul_one, Nat.mul_assoc, ← pow_add2, show t.toNat + (k - t.toNat) = k by omega]
      rw [this, rnd_shift]

variable (f : Format)

def last (m : Nat) (e : Int) : Int := max (e + m.log2 - f.fractionBits) f.leastPlace

theorem nearest_eq (s : Bool) {m : Nat} (h : m ≠ 0) (e : Int) :
    f.nearest s m e = f.word s (min ((last f m e - f.leastPlace).toNat * f.binade + R m (e - last f m e)) f.infRung) := by
  unfold Format.nearest
  rw [if_neg h]
  show f.word s (min ((last f m e - f.leastPlace).toNat * f.binade + Toward.even.cut s (m <<< (e - last f m e).toNat) (last f m e - e).toNat) f.infRung) = _
  rw [cut_rnd, Nat.shiftLeft_eq]
  unfold R
  rw [show (-(e - last f m e)).toNat = (last f m e - e).toNat by omega]

theorem log2_mul_pow {m : Nat} (h : m ≠ 0) (k : Nat) : (m * 2 ^ k).log2 = m.log2 + k := by
  have hk := pow_pos2 k
  rw [Nat.log2_eq_iff (by have := Nat.mul_pos (Nat.pos_of_ne_zero h) hk; omega)]
  have h1 := Nat.log2_self_le h
  have h2 : m < 2 ^ (m.log2 + 1) := Nat.lt_log2_self
  refine ⟨by rw [pow_add2]; exact Nat.mul_le_mul_right _ h1, ?_⟩
  rw [show m.log2 + k + 1 = (m.log2 + 1) + k by omega, pow_add2]
  exact Nat.mul_lt_mul_of_pos_right h2 hk

theorem nearest_shift (s : Bool) {m : Nat} (h : m ≠ 0) (k : Nat) (e : Int) : f.nearest s (m * 2 ^ k) (e - k) = f.nearest s m e := by
  have h' : m * 2 ^ k ≠ 0 := by have := Nat.mul_pos (Nat.pos_of_ne_zero h) (pow_pos2 k); omega
  have hl : last f (m * 2 ^ k) (e - k) = last f m e := by
    unfold last
    rw [log2_mul_pow h]
    have : (e - (k : Int) + ((m.log2 + k : Nat) : Int) - f.fractionBits) = e + m.log2 - f.fractionBits := by omega
    rw [this]
  rw [nearest_eq f s h', nearest_eq f s h, hl]
  have : e - (k : Int) - last f m e = (e - last f m e) - k := by omega
  rw [this, R_shift]

/-- The value, in units of 2 ^ -6000. -/
def val (m : Nat) (e : Int) : Nat := m * 2 ^ (e + 6000).toNat

theorem val_shift (m k : Nat) {e : Int} (h : -6000 ≤ e) : val (m * 2 ^ k) e = val m (e + k) := by
  unfold val
  rw [Nat.mul_assoc, ← pow_add2, show k + (e + 6000).toNat = (e + k + 6000).toNat by omega]

theorem val_inj {m n : Nat} {e : Int} (h : val m e = val n e) : m = n := Nat.eq_of_mul_eq_mul_right (pow_pos2 _) h
theorem val_le_iff {m n : Nat} {e : Int} : val m e ≤ val n e ↔ m ≤ n :=
  ⟨fun h => Nat.le_of_mul_le_mul_right h (pow_pos2 _), fun h => Nat.mul_le_mul_right _ h⟩
theorem val_zero {m : Nat} {e : Int} : val m e = 0 ↔ m = 0 := by
  unfold val
  have := pow_pos2 (e + 6000).toNat
  rw [Nat.mul_eq_zero]; omega

/-- The nearest word depends on the value alone. -/
theorem nearest_val (s : Bool) {m n : Nat} {e e' : Int} (hm : m ≠ 0) (he : -6000 ≤ e) (he' : -6000 ≤ e') (h : val m e = val n e') : f.nearest s m e = f.nearest s n e' := by
  have hn : n ≠ 0 := fun hn => hm (val_zero.1 (by rw [h]; exact val_zero.2 hn))
  have key : ∀ (m n : Nat) (e' : Int) (k : Nat), n ≠ 0 → -6000 ≤ e' - k → val m (e' - k) = val n e' → f.nearest s m (e' - k) = f.nearest s n e' := fun m n e' k hn he h => by
    have e1 : m = n * 2 ^ k := val_inj (e := e' - k) (by rw [val_shift _ _ he, h, show e' - (k : Int) + k = e' by omega])
    rw [e1]
    exact nearest_shift f s hn k e'
  rcases Int.le_total e e' with hl | hl
  · obtain ⟨k, rfl⟩ : ∃ k : Nat, e = e' - k := ⟨(e' - e).toNat, by omega⟩
    exact key m n e' k hn he h
  · obtain ⟨k, rfl⟩ : ∃ k : Nat, e' = e - k := ⟨(e - e').toNat, by omega⟩
    exact (key n m e k hm he' h.symm).symm

theorem sign_div (s : Bool) {r : Nat} (h : r < f.signWeight) : (f.word s r / f.signWeight % 2 == 1) = s ∧ f.word s r % f.signWeight = r := by
  have hp : 0 < f.signWeight := by omega
  unfold Format.word
  cases s
  · simp only [Bool.false_eq_true, if_false]
    rw [Nat.div_eq_of_lt h, Nat.mod_eq_of_lt h]
    exact ⟨rfl, rfl⟩
  · simp only [if_true]
    rw [Nat.add_mod_left, Nat.mod_eq_of_lt h, Nat.add_div_left _ hp, Nat.div_eq_of_lt h]
    exact ⟨rfl, rfl⟩

theorem read_word (s : Bool) {r : Nat} (h : r < f.infRung) :
    f.read (f.word s r) = if r < f.binade then .number s r f.leastPlace else .number s (f.binade + r % f.binade) (f.leastPlace + (r / f.binade - 1 : Nat)) := by
  have hs := Nat.lt_trans h (Format.infRung_lt f)
  unfold Format.read
  simp only [(sign_div f s hs).1, (sign_div f s hs).2]
  simp only [h, if_true]

/-- What a rung reads as. -/
theorem read_rung (s : Bool) {l : Int} {k : Nat} (hl : f.leastPlace ≤ l) (h0 : -6000 ≤ f.leastPlace) (hk : k ≤ 2 * f.binade) (hb : l = f.leastPlace ∨ f.binade ≤ k)
    (h : (l - f.leastPlace).toNat * f.binade + k < f.infRung) :
    ∃ m e, f.read (f.word s ((l - f.leastPlace).toNat * f.binade + k)) = .number s m e ∧ val m e = val k l ∧ f.leastPlace ≤ e := by
  rw [read_word f s h]
  have hB : 0 < f.binade := pow_pos2 _
  obtain ⟨j, rfl⟩ : ∃ j : Nat, l = f.leastPlace + j := ⟨(l - f.leastPlace).toNat, by omega⟩
  rw [show (f.leastPlace + (j : Int) - f.leastPlace).toNat = j by omega] at *
  generalize f.leastPlace = lp at *
  generalize f.binade = B at *
  by_cases hlt : j * B + k < B
  · rw [if_pos hlt]
    have hj : j = 0 := by
      rcases Nat.eq_zero_or_pos j with h | h
      · exact h
      · have : B ≤ j * B := Nat.le_mul_of_pos_left B h
        omega
    subst hj
    exact ⟨_, _, rfl, by simp, by omega⟩
  · rw [if_neg hlt]
    refine ⟨_, _, rfl, ?_, by omega⟩
    have hk1 : B ≤ k := by
      rcases hb with h | h
      · have : j = 0 := by omega
        subst this; omega
      · exact h
    rcases Nat.lt_or_ge k (2 * B) with h2 | h2
    · have e1 : (j * B + k) / B = j + 1 := by
        rw [Nat.add_comm, Nat.add_mul_div_right _ _ hB, Nat.div_eq_of_lt_le (by omega : 1 * B ≤ k) (by omega)]; omega
      have e2 : (j * B + k) % B = k - B := by
        rw [Nat.add_comm, Nat.add_mul_mod_self_right, show k = k - B + B by omega, Nat.add_mod_right, Nat.mod_eq_of_lt (by omega)]; omega
      rw [e1, e2, show B + (k - B) = k by omega, show j + 1 - 1 = j by omega]
    · have hk2 : k = 2 * B := by omega
      subst hk2
      have e1 : (j * B + 2 * B) / B = j + 2 := by rw [← Nat.add_mul, Nat.mul_div_cancel _ hB]
      have e2 : (j * B + 2 * B) % B = 0 := by rw [← Nat.add_mul, Nat.mul_mod_left]
      rw [e1, e2, show j + 2 - 1 = j + 1 by omega, Nat.add_zero]
      have := val_shift B 1 (e := lp + (j : Int)) (by omega)
      rw [show B * 2 ^ 1 = 2 * B by omega] at this
      rw [this]
      congr 1
      omega

theorem last_ge (m : Nat) (e : Int) : f.leastPlace ≤ last f m e := by unfold last; omega

theorem kept_le {m : Nat} (h : m ≠ 0) (e : Int) : R m (e - last f m e) ≤ 2 * f.binade := by
  have hB : 2 * f.binade = 2 ^ (f.fractionBits + 1) := by unfold Format.binade; rw [Nat.pow_succ]; omega
  rw [hB]
  refine rnd_le ?_
  have h2 : m < 2 ^ (m.log2 + 1) := Nat.lt_log2_self
  have hl : e + m.log2 - f.fractionBits ≤ last f m e := by unfold last; omega
  generalize last f m e = l at *
  rw [← pow_add2]
  refine Nat.le_trans (Nat.mul_le_mul_right _ (Nat.le_of_lt h2)) ?_
  rw [← pow_add2]
  exact pow_le2 (by omega)

theorem kept_ge {m : Nat} (h : m ≠ 0) (e : Int) : last f m e = f.leastPlace ∨ f.binade ≤ R m (e - last f m e) := by
  by_cases hl : last f m e = f.leastPlace
  · exact .inl hl
  · right
    refine rnd_ge ?_
    have h1 := Nat.log2_self_le h
    have hl : e + m.log2 - f.fractionBits = last f m e := by unfold last at *; omega
    generalize last f m e = l at *
    unfold Format.binade
    rw [← pow_add2]
    refine Nat.le_trans ?_ (Nat.mul_le_mul_right _ h1)
    rw [← pow_add2]
    exact pow_le2 (by omega)

/-- WHAT THE NEAREST WORD READS AS: an infinity, or a number of the value kept * 2 ^ last. -/
theorem nearest_read (s : Bool) {m : Nat} (h : m ≠ 0) (e : Int) (h0 : -6000 ≤ f.leastPlace)
    (hi : (last f m e - f.leastPlace).toNat * f.binade + R m (e - last f m e) < f.infRung) :
    ∃ m' e', f.read (f.nearest s m e) = .number s m' e' ∧ val m' e' = val (R m (e - last f m e)) (last f m e) ∧ f.leastPlace ≤ e' := by
  rw [nearest_eq f s h, Nat.min_eq_left (Nat.le_of_lt hi)]
  exact read_rung f s (last_ge f m e) h0 (kept_le f h e) (kept_ge f h e) hi

/-- The value kept is at most 2 ^ b, if the number is. -/
theorem kept_bound {m : Nat} (h : m ≠ 0) {e b : Int} (he : -6000 ≤ e) (h0 : -6000 ≤ f.leastPlace) (hb : f.leastPlace ≤ b) (hv : val m e ≤ val 1 b) :
    last f m e ≤ max (b - f.fractionBits) f.leastPlace ∧ val (R m (e - last f m e)) (last f m e) ≤ val 1 b := by
  have h1 := Nat.log2_self_le h
  have hb6 : -6000 ≤ b := by omega
  have hle : e + m.log2 ≤ b := by
    unfold val at hv
    rw [Nat.one_mul] at hv
    have := Nat.le_trans (Nat.mul_le_mul_right (2 ^ (e + 6000).toNat) h1) hv
    rw [← pow_add2] at this
    have := le_of_pow this
    omega
  have hlast : last f m e ≤ max (b - f.fractionBits) f.leastPlace := by unfold last; omega
  refine ⟨hlast, ?_⟩
  have hlb : last f m e ≤ b := by omega
  have hl6 : -6000 ≤ last f m e := by have := last_ge f m e; omega
  generalize last f m e = l at *
  have e1 : val 1 b = val (2 ^ (b - l).toNat) l := by
    have := val_shift 1 (b - l).toNat (e := l) hl6
    rw [Nat.one_mul] at this
    rw [this, show l + ((b - l).toNat : Int) = b by omega]
  rw [e1, val_le_iff]
  refine rnd_le ?_
  rw [← pow_add2]
  rcases Int.le_total l e with ht | ht
  · have : val (m * 2 ^ (e - l).toNat) l ≤ val (2 ^ (b - l).toNat) l := by rw [val_shift _ _ hl6, ← e1, show l + ((e - l).toNat : Int) = e by omega]; exact hv
    have := val_le_iff.1 this
    rw [show (-(e - l)).toNat = 0 by omega]
    exact this
  · have e2 : val 1 b = val (2 ^ (b - e).toNat) e := by
      have := val_shift 1 (b - e).toNat (e := e) he
      rw [Nat.one_mul] at this
      rw [this, show e + ((b - e).toNat : Int) = b by omega]
    rw [e2, val_le_iff] at hv
    rw [show (e - l).toNat = 0 by omega, Nat.pow_zero, Nat.mul_one, show (b - l).toNat + (-(e - l)).toNat = (b - e).toNat by omega]
    exact hv

/-- Numbers up to 2 ^ b stay so. -/
theorem nearest_le (s : Bool) {m : Nat} {e b : Int} (he : -6000 ≤ e) (h0 : -6000 ≤ f.leastPlace) (hb : f.leastPlace ≤ b) (hv : val m e ≤ val 1 b)
    (hi : (max (b - f.fractionBits) f.leastPlace - f.leastPlace).toNat * f.binade + 2 * f.binade < f.infRung) :
    ∃ m' e', f.read (f.nearest s m e) = .number s m' e' ∧ val m' e' ≤ val 1 b ∧ f.leastPlace ≤ e' := by
  by_cases h : m = 0
  · subst h
    have hn : f.nearest s 0 e = f.word s 0 := by unfold Format.nearest; rw [if_pos rfl]
    have hB : 0 < f.binade := pow_pos2 _
    rw [hn, read_word f s (by omega), if_pos hB]
    exact ⟨_, _, rfl, by unfold val; omega, by omega⟩
  · obtain ⟨hl, hk⟩ := kept_bound f h he h0 hb hv
    have hlg := last_ge f m e
    have hkl := kept_le f h e
    have hle : (last f m e - f.leastPlace).toNat * f.binade ≤ (max (b - f.fractionBits) f.leastPlace - f.leastPlace).toNat * f.binade := Nat.mul_le_mul_right _ (by omega)
    obtain ⟨m', e', h1, h2, h3⟩ := nearest_read f s h e h0 (by omega)
    exact ⟨m', e', h1, by rw [h2]; exact hk, h3⟩

/-- A number that the format has stays as it is. -/
theorem nearest_exact (s : Bool) {m : Nat} (hm : m < 2 * f.binade) {e : Int} (he : f.leastPlace ≤ e) (h0 : -6000 ≤ f.leastPlace)
    (hi : (e - f.leastPlace).toNat * f.binade + 2 * f.binade ≤ f.infRung) :
    ∃ m' e', f.read (f.nearest s m e) = .number s m' e' ∧ val m' e' = val m e ∧ f.leastPlace ≤ e' := by
  have hB : 0 < f.binade := pow_pos2 _
  by_cases h : m = 0
  · subst h
    have hn : f.nearest s 0 e = f.word s 0 := by unfold Format.nearest; rw [if_pos rfl]
    rw [hn, read_word f s (by omega), if_pos hB]
    exact ⟨_, _, rfl, by unfold val; omega, by omega⟩
  · have hl : m.log2 ≤ f.fractionBits := by
      have : m.log2 < f.fractionBits + 1 := (Nat.log2_lt h).2 (by rw [Nat.pow_succ]; unfold Format.binade at hm; omega)
      omega
    have hle : last f m e ≤ e := by unfold last; omega
    have hlg := last_ge f m e
    have hR : R m (e - last f m e) = m * 2 ^ (e - last f m e).toNat := R_pos _ (by omega)
    have hlt : (last f m e - f.leastPlace).toNat * f.binade + R m (e - last f m e) < f.infRung := by
      have hkl := kept_le f h e
      rcases Nat.lt_or_ge (last f m e - f.leastPlace).toNat (e - f.leastPlace).toNat with h' | h'
      · have : ((last f m e - f.leastPlace).toNat + 1) * f.binade ≤ (e - f.leastPlace).toNat * f.binade := Nat.mul_le_mul_right _ h'
        rw [Nat.add_mul] at this
        omega
      · have he' : e = last f m e := by omega
        rw [hR, show (e - last f m e).toNat = 0 by omega, Nat.pow_zero, Nat.mul_one, ← he']
        omega
    obtain ⟨m', e', h1, h2, h3⟩ := nearest_read f s h e h0 hlt
    refine ⟨m', e', h1, ?_, h3⟩
    rw [h2, hR, val_shift _ _ (by omega), show last f m e + ((e - last f m e).toNat : Int) = e by omega]
end Go.Ft

namespace Go.Fl
open Go Go.RowKit Go.Ft Ieee

theorem lpS : single.leastPlace = -149 := by decide
theorem lpD : double.leastPlace = -1074 := by decide
theorem bS : single.binade = 8388608 := by decide
theorem bD : double.binade = 4503599627370496 := by decide
theorem iS : single.infRung = 2139095040 := by decide
theorem iD : double.infRung = 9218868437227405312 := by decide
theorem sS : single.signWeight = 2147483648 := by decide
theorem sD : double.signWeight = 9223372036854775808 := by decide
theorem fS : single.fractionBits = 23 := rfl
theorem fD : double.fractionBits = 52 := rfl

theorem read_single {x : Nat} {s : Bool} {m : Nat} {e : Int} (h : single.read x = .number s m e) : m < 16777216 ∧ -149 ≤ e ∧ e ≤ 104 := by
  unfold Format.read at h
  simp only [bS, iS, sS, lpS] at h
  split at h
  · injection h with h1 h2 h3
    omega
  · split at h
    · injection h with h1 h2 h3
      omega
    · split at h <;> cases h

theorem read_double {x : Nat} {s : Bool} {m : Nat} {e : Int} (h : double.read x = .number s m e) : m < 9007199254740992 ∧ -1074 ≤ e ∧ e ≤ 971 := by
  unfold Format.read at h
  simp only [bD, iD, sD, lpD] at h
  split at h
  · injection h with h1 h2 h3
    omega
  · split at h
    · injection h with h1 h2 h3
      omega
    · split at h <;> cases h

theorem le_double (s : Bool) {m : Nat} {e b : Int} (he : -6000 ≤ e) (hb : -1074 ≤ b) (hb2 : b ≤ 1000) (hv : val m e ≤ val 1 b) :
    ∃ m' e', double.read (double.nearest s m e) = .number s m' e' ∧ val m' e' ≤ val 1 b ∧ -1074 ≤ e' := by
  have := nearest_le double s he (by rw [lpD]; omega) (by rw [lpD]; omega) hv (by rw [lpD, bD, iD, fD]; omega)
  rwa [lpD] at this

theorem le_single (s : Bool) {m : Nat} {e b : Int} (he : -6000 ≤ e) (hb : -149 ≤ b) (hb2 : b ≤ 126) (hv : val m e ≤ val 1 b) :
    ∃ m' e', single.read (single.nearest s m e) = .number s m' e' ∧ val m' e' ≤ val 1 b ∧ -149 ≤ e' := by
  have := nearest_le single s he (by rw [lpS]; omega) (by rw [lpS]; omega) hv (by rw [lpS, bS, iS, fS]; omega)
  rwa [lpS] at this

theorem ex_double (s : Bool) {m : Nat} {e : Int} (hm : m < 9007199254740992) (he : -1074 ≤ e) (he2 : e ≤ 970) :
    ∃ m' e', double.read (double.nearest s m e) = .number s m' e' ∧ val m' e' = val m e ∧ -1074 ≤ e' := by
  have := nearest_exact double s (m := m) (by rw [bD]; omega) (e := e) (by rw [lpD]; omega) (by rw [lpD]; omega) (by rw [lpD, bD, iD]; omega)
  rwa [lpD] at this

theorem ex_single (s : Bool) {m : Nat} {e : Int} (hm : m < 16777216) (he : -149 ≤ e) (he2 : e ≤ 104) :
    ∃ m' e', single.read (single.nearest s m e) = .number s m' e' ∧ val m' e' = val m e ∧ -149 ≤ e' := by
  have := nearest_exact single s (m := m) (by rw [bS]; omega) (e := e) (by rw [lpS]; omega) (by rw [lpS]; omega) (by rw [lpS, bS, iS]; omega)
  rwa [lpS] at this

theorem enc64 (s : Bool) (m : Nat) (e : Int) : FloatKind.f64.encode (.number s m e) = double.nearest s m e := rfl
theorem enc32 (s : Bool) (m : Nat) (e : Int) : FloatKind.f32.encode (.number s m e) = single.nearest s m e := rfl
theorem dec64 (x : Nat) : FloatKind.f64.decode x = double.read x := rfl
theorem dec32 (x : Nat) : FloatKind.f32.decode x = single.read x := rfl
theorem nan_num {s : Bool} {m : Nat} {e : Int} : ¬ (Datum.number s m e).isNaN = true := fun h => nomatch h

theorem fitsW_all (x : Nat) : fitsW x := by
  intro s m e h
  obtain ⟨h1, h2, h3⟩ := read_single h
  obtain ⟨m', e', h4, -⟩ := ex_double s (m := m) (e := e) (by omega) (by omega) (by omega)
  rw [enc64, dec64, h4]; rfl

/-- A float32 made a float64. -/
theorem wid_num {x : Nat} {s : Bool} {m : Nat} {e : Int} (h : FloatKind.f32.decode x = .number s m e) :
    ∃ m' e', FloatKind.f64.decode (wid x) = .number s m' e' ∧ val m' e' = val m e ∧ -1074 ≤ e' := by
  obtain ⟨h1, h2, h3⟩ := read_single h
  have hw : wid x = double.nearest s m e := by unfold wid; rw [h, if_neg nan_num, enc64]
  rw [hw]
  exact ex_double s (by omega) (by omega) (by omega)

theorem wid_inf {x : Nat} {s : Bool} (h : FloatKind.f32.decode x = .infinity s) : FloatKind.f64.decode (wid x) = .infinity s := by
  have hw : wid x = FloatKind.f64.encode (.infinity s) := by unfold wid; rw [h, if_neg (fun h => nomatch h)]
  rw [hw]
  cases s <;> decide +kernel

theorem wid_nan {x : Nat} (h : (FloatKind.f32.decode x).isNaN = true) : wid x = nanw .f64 := by unfold wid; rw [if_pos h]
theorem whole_num {x : Nat} {s : Bool} {m : Nat} {e : Int} (way : Toward) (h : FloatKind.f64.decode x = .number s m e) : whole way x = double.nearest s (way.cut s (m <<< e.toNat) (-e).toNat) 0 := by
  unfold whole
  rw [h, if_neg nan_num]
  unfold Datum.integral
  exact enc64 _ _ _
theorem whole_inf {x : Nat} {s : Bool} (way : Toward) (h : FloatKind.f64.decode x = .infinity s) : whole way x = FloatKind.f64.encode (.infinity s) := by
  unfold whole
  rw [h, if_neg (fun h => nomatch h)]
  rfl
theorem whole_nan {x : Nat} (way : Toward) (h : (FloatKind.f64.decode x).isNaN = true) : whole way x = nanw .f64 := by
  unfold whole
  rw [if_pos h]
theorem root_eq (s : Bool) {m : Nat} (h : m ≠ 0) (i : Int) (d : Nat) : (Datum.number s m i).root d = if s then none else
      let more := 2 * d - m.log2
      let more := more + ((i - more) % 2).toNat
      let n := m <<< more
      let whole := Datum.rootFrom n (n.log2 / 2 + 1) 0
      some (.number false (2 * whole + (whole * whole != n).toNat) ((i - more) / 2 - 1)) := if_neg h
theorem quot_eq (s t : Bool) (m : Nat) {n : Nat} (h : n ≠ 0) (i j : Int) (d : Nat) : (Datum.number s m i).quotient d (.number t n j) =
    let more := d + n.log2 - m.log2
    let dividend := m <<< more
    some (.number (s ^^ t) (2 * (dividend / n) + (dividend % n != 0).toNat) (i - j - more - 1)) := if_neg h

theorem not_num {x : Nat} (h : (FloatKind.f64.decode x).isNaN = true) : fits x := by
  intro s m e hx
  rw [hx] at h; cases h

theorem fits_inf {x : Nat} {t : Bool} (h : FloatKind.f64.decode x = .infinity t) : fits x := by
  intro s m e hx
  rw [hx] at h; cases h

theorem fits_le {x : Nat} {s : Bool} {m : Nat} {e b : Int} (h : FloatKind.f64.decode x = .number s m e) (hb : -149 ≤ b) (hb2 : b ≤ 126) (hv : val m e ≤ val 1 b) (he : -6000 ≤ e) : fits x := by
  intro s' m' e' hx
  rw [h] at hx
  injection hx with h1 h2 h3
  subst h1 h2 h3
  obtain ⟨m', e', h4, -⟩ := le_single s he hb hb2 hv
  rw [enc32, dec32, h4]; rfl

theorem inf64 (t : Bool) : FloatKind.f64.decode (FloatKind.f64.encode (.infinity t)) = .infinity t := by cases t <;> decide +kernel

theorem val_one_mono {a b : Int} (h : a ≤ b) : val 1 a ≤ val 1 b := by
  unfold val
  rw [Nat.one_mul, Nat.one_mul]
  exact pow_le2 (by omega)

theorem fits_near (x : Nat) : fits (whole .even (wid x)) := by
  cases hx : FloatKind.f32.decode x with
  | nan s t =>
    have hn : (FloatKind.f64.decode (wid x)).isNaN = true := by rw [wid_nan (by rw [hx]; rfl)]; exact nan_nanw .f64
    refine not_num ?_
    rw [whole_nan _ hn]
    exact nan_nanw .f64
  | infinity s =>
    have h1 := wid_inf hx
    refine fits_inf (t := s) ?_
    rw [whole_inf _ h1]
    exact inf64 s
  | number s m0 e0 =>
    obtain ⟨m1, e1, h1, h2, h3⟩ := wid_num hx
    obtain ⟨hm1, -, -⟩ := read_double h1
    obtain ⟨hm0, he0, he02⟩ := read_single hx
    have hw : whole .even (wid x) = double.nearest s (R m1 e1) 0 := by
      rw [whole_num _ h1, cut_rnd, Nat.shiftLeft_eq]
      unfold R
      rfl
    rw [hw]
    rcases Int.le_total 0 e1 with he | he
    · by_cases hz : m0 = 0
      · subst hz
        have : m1 = 0 := val_zero.1 (by rw [h2]; exact val_zero.2 rfl)
        subst this
        have hr : R 0 e1 = 0 := by rw [R_pos _ he, Nat.zero_mul]
        rw [hr]
        obtain ⟨m', e', h4, h5, h6⟩ := le_double s (m := 0) (e := 0) (b := 0) (by omega) (by omega) (by omega) (by unfold val; omega)
        exact fits_le h4 (by omega) (by omega) h5 (by omega)
      · have hn : double.nearest s (R m1 e1) 0 = double.nearest s m0 e0 := by
          have hm1 : m1 ≠ 0 := fun h => hz (val_zero.1 (by rw [← h2]; exact val_zero.2 h))
          rw [R_pos _ he]
          refine nearest_val double s ?_ (by omega) (by omega) ?_
          · have := Nat.mul_pos (Nat.pos_of_ne_zero hm1) (pow_pos2 e1.toNat); omega
          · rw [val_shift _ _ (by omega), ← h2]; congr 1; omega
        rw [hn]
        obtain ⟨m', e', h4, h5, h6⟩ := ex_double s (m := m0) (e := e0) (by omega) (by omega) (by omega)
        intro s' m'' e'' hx'
        have h4' : FloatKind.f64.decode (double.nearest s m0 e0) = .number s m' e' := h4
        rw [h4'] at hx'
        injection hx' with g1 g2 g3
        subst g1 g2 g3
        have hm' : m' ≠ 0 := fun h => hz (val_zero.1 (by rw [← h5]; exact val_zero.2 h))
        rw [enc32, dec32, nearest_val single s hm' (by omega) (by omega) h5]
        obtain ⟨m3, e3, h7, -⟩ := ex_single s hm0 he0 he02
        rw [h7]; rfl
    · have hr : R m1 e1 ≤ 2 ^ 53 := rnd_le (by
        rw [show e1.toNat = 0 by omega, Nat.pow_zero, Nat.mul_one]
        exact Nat.le_trans (show m1 ≤ 2 ^ 53 by omega) (Nat.le_mul_of_pos_right _ (pow_pos2 _)))
      have hv : val (R m1 e1) 0 ≤ val 1 53 := by
        have := val_shift 1 53 (e := 0) (by omega)
        rw [Nat.one_mul] at this
        rw [show (53 : Int) = 0 + ((53 : Nat) : Int) by omega, ← this, val_le_iff]; exact hr
      obtain ⟨m', e', h4, h5, h6⟩ := le_double s (e := 0) (b := 53) (by omega) (by omega) (by omega) hv
      exact fits_le h4 (by omega) (by omega) h5 (by omega)

theorem rootFrom_sq (n : Nat) : ∀ (t r : Nat), r * r ≤ n → Datum.rootFrom n t r * Datum.rootFrom n t r ≤ n
  | 0, r, h => h
  | t + 1, r, h => by
    unfold Datum.rootFrom
    refine rootFrom_sq n t _ ?_
    show (if _ then _ else _) * (if _ then _ else _) ≤ n
    split
    · assumption
    · exact h

theorem fits_root (x : Nat) : fits (sqr (wid x)) := by
  have hnan : ∀ y, FloatKind.f64.format.sqrt y = none → fits (sqr y) := fun y h => not_num (by unfold sqr; rw [h]; exact nan_nanw .f64)
  cases hx : FloatKind.f32.decode x with
  | nan s t =>
    refine hnan _ ?_
    show ((FloatKind.f64.decode (wid x)).root _).map _ = none
    rw [root_nan (by rw [wid_nan (by rw [hx]; rfl)]; exact nan_nanw .f64)]; rfl
  | infinity s =>
    have h1 := wid_inf hx
    cases s
    · refine fits_inf (t := false) ?_
      have : FloatKind.f64.format.sqrt (wid x) = some (FloatKind.f64.encode (.infinity false)) := by
        show ((FloatKind.f64.decode (wid x)).root _).map _ = _
        rw [h1]; rfl
      unfold sqr
      rw [this]
      exact inf64 false
    · refine hnan _ ?_
      show ((FloatKind.f64.decode (wid x)).root _).map _ = none
      rw [h1]; rfl
  | number s m0 e0 =>
    obtain ⟨m1, e1, h1, h2, h3⟩ := wid_num hx
    obtain ⟨hm1, -, -⟩ := read_double h1
    obtain ⟨hm0, he0, he02⟩ := read_single hx
    by_cases hz : m1 = 0
    · subst hz
      have : FloatKind.f64.format.sqrt (wid x) = some (double.nearest s 0 e1) := by
        show ((FloatKind.f64.decode (wid x)).root _).map _ = _
        rw [h1]
        exact congrArg some (enc64 s 0 e1)
      unfold sqr
      rw [this]
      obtain ⟨m', e', h4, h5, h6⟩ := le_double s (m := 0) (e := e1) (b := 0) (by omega) (by omega) (by omega) (by unfold val; omega)
      exact fits_le (x := double.nearest s 0 e1) h4 (by omega) (by omega) h5 (by omega)
    · cases s
      · obtain ⟨more, hmo⟩ : ∃ more, more = 2 * 54 - m1.log2 + ((e1 - ((2 * 54 - m1.log2 : Nat) : Int)) % 2).toNat := ⟨_, rfl⟩
        obtain ⟨wh, hwh⟩ : ∃ wh, wh = Datum.rootFrom (m1 <<< more) ((m1 <<< more).log2 / 2 + 1) 0 := ⟨_, rfl⟩
        have hs : FloatKind.f64.format.sqrt (wid x) = some (double.nearest false (2 * wh + (wh * wh != m1 <<< more).toNat) ((e1 - more) / 2 - 1)) := by
          show ((FloatKind.f64.decode (wid x)).root 54).map _ = _
          rw [h1, root_eq false hz, if_neg (by decide)]
          simp only [← hmo, ← hwh, Option.map_some]
          exact congrArg some (enc64 _ _ _)
        have hsq : wh * wh ≤ m1 * 2 ^ more := by
          rw [hwh, ← Nat.shiftLeft_eq]
          exact rootFrom_sq _ _ _ (Nat.zero_le _)
        have hpar : (e1 - more) % 2 = 0 := by omega
        have hmore : more ≤ 109 := by omega
        obtain ⟨p, hp⟩ : ∃ p : Int, e1 - more = 2 * p := ⟨(e1 - more) / 2, by omega⟩
        have hd : (e1 - more) / 2 = p := by omega
        have hp1 : -600 ≤ p := by omega
        -- the value of the number is below 2 ^ 128
        obtain ⟨T, hT⟩ : ∃ T : Nat, T = 3064 := ⟨_, rfl⟩
        obtain ⟨S, hS⟩ : ∃ S : Nat, S = 6000 := ⟨_, rfl⟩
        have hv : m1 * 2 ^ (e1 + 6000).toNat ≤ 2 ^ (T + T) := by
          have h24 : m0 ≤ 2 ^ 24 := by omega
          have h3 : (2 : Nat) ^ (e0 + 6000).toNat ≤ 2 ^ (T + T - 24) := pow_le2 (by omega)
          have h5 := Nat.mul_le_mul h24 h3
          rw [← pow_add2, show 24 + (T + T - 24) = T + T by omega] at h5
          exact Nat.le_trans (Nat.le_of_eq h2) h5
        have hple : p ≤ 64 := by
          have : 2 ^ (e1 + 6000).toNat ≤ 2 ^ (T + T) := Nat.le_trans (Nat.le_mul_of_pos_left _ (Nat.pos_of_ne_zero hz)) hv
          have := le_of_pow this
          omega
        have hw2 : wh * 2 ^ (p + 3000).toNat ≤ 2 ^ T := by
          have h4 : (wh * 2 ^ (p + 3000).toNat) * (wh * 2 ^ (p + 3000).toNat) ≤ 2 ^ T * 2 ^ T := by
            rw [← pow_add2, show wh * 2 ^ (p + 3000).toNat * (wh * 2 ^ (p + 3000).toNat) = (wh * wh) * (2 ^ (p + 3000).toNat * 2 ^ (p + 3000).toNat) by rw [Nat.mul_mul_mul_comm], ← pow_add2]
            refine Nat.le_trans (Nat.mul_le_mul_right _ hsq) ?_
            rw [Nat.mul_assoc, ← pow_add2, show more + ((p + 3000).toNat + (p + 3000).toNat) = (e1 + 6000).toNat by omega]
            exact hv
          exact Nat.mul_self_le_mul_self_iff.1 h4
        have hM : val (2 * wh + (wh * wh != m1 <<< more).toNat) (p - 1) ≤ val 1 126 := by
          have hb := Bool.toNat_le (wh * wh != m1 <<< more)
          unfold val
          rw [show (p - 1 + 6000).toNat = (p + 2999).toNat + (S - 3000) by omega, show (126 + 6000 : Int).toNat = (T + 61 + 1) + (S - 3000) by omega, pow_add2, pow_add2 (T + 61 + 1), Nat.one_mul, ← Nat.mul_assoc]
          refine Nat.mul_le_mul_right _ ?_
          have e1' : (p + 3000).toNat = (p + 2999).toNat + 1 := by omega
          rw [e1', Nat.pow_succ] at hw2
          have h5 : 2 ^ (p + 2999).toNat ≤ 2 ^ T := pow_le2 (by omega)
          have h6 : (2 * wh + (wh * wh != m1 <<< more).toNat) * 2 ^ (p + 2999).toNat ≤ (2 * wh + 1) * 2 ^ (p + 2999).toNat := Nat.mul_le_mul_right _ (by omega)
          refine Nat.le_trans h6 ?_
          rw [Nat.add_mul, Nat.one_mul]
          have h7 : 2 * wh * 2 ^ (p + 2999).toNat = wh * (2 ^ (p + 2999).toNat * 2) := by rw [Nat.mul_comm 2 wh, Nat.mul_assoc, Nat.mul_comm 2]
          rw [h7]
          have h8 : (2 : Nat) ^ T ≤ 2 ^ (T + 61) := pow_le2 (by omega)
          have h10 : (2 : Nat) ^ (T + 61 + 1) = 2 ^ (T + 61) * 2 := Nat.pow_succ 2 (T + 61)
          generalize (2 : Nat) ^ T = A at *
          generalize (2 : Nat) ^ (T + 61) = C at *
          generalize (2 : Nat) ^ (T + 61 + 1) = D at *
          omega
        rw [hd] at hs
        unfold sqr
        rw [hs]
        obtain ⟨m', e', h4, h5, h6⟩ := le_double false (e := p - 1) (b := 126) (by omega) (by omega) (by omega) hM
        exact fits_le (x := double.nearest false _ (p - 1)) h4 (by omega) (by omega) h5 (by omega)
      · refine hnan _ ?_
        show ((FloatKind.f64.decode (wid x)).root _).map _ = none
        rw [h1, root_eq true hz, if_pos rfl]; rfl

/-- A finite float32 is a number. -/
theorem fin_num {x : Nat} (h : eqk .f32 (B .sub x x) 0 = true) : ∃ s m e, FloatKind.f32.decode x = .number s m e := by
  have hnone : floatBits .sub .f32 x x = none → False := fun h' => by
    have hb : B .sub x x = nanw .f32 := by show (floatBits .sub .f32 x x).getD _ = _; rw [h']; rfl
    unfold eqk at h
    rw [hb, show FloatKind.f32.format.order (nanw .f32) 0 = none from by decide +kernel] at h
    cases h
  cases hx : FloatKind.f32.decode x with
  | nan s t => exact (hnone (by show ((FloatKind.f32.decode x).sum (FloatKind.f32.decode x).opposite).map _ = none; rw [hx]; rfl)).elim
  | infinity s => exact (hnone (by show ((FloatKind.f32.decode x).sum (FloatKind.f32.decode x).opposite).map _ = none; rw [hx]; cases s <;> rfl)).elim
  | number s m e => exact ⟨s, m, e, rfl⟩

theorem fin_not {x : Nat} (h : eqk .f32 (B .sub x x) 0 = true) : (FloatKind.f64.decode (wid x)).isNaN = false := by
  obtain ⟨s, m, e, hx⟩ := fin_num h
  obtain ⟨m1, e1, h1, -⟩ := wid_num hx
  rw [h1]; rfl

/-- A number of at most 2 ^ b. -/
def Lw (b : Int) (x : Nat) : Prop := ∃ s m e, FloatKind.f64.decode x = .number s m e ∧ val m e ≤ val 1 b

theorem Lw.place {x : Nat} {s : Bool} {m : Nat} {e : Int} (h : FloatKind.f64.decode x = .number s m e) : -1074 ≤ e ∧ e ≤ 971 := (read_double h).2

theorem lw_write {b : Int} (s : Bool) {m : Nat} {e : Int} (he : -6000 ≤ e) (hb : -1074 ≤ b) (hb2 : b ≤ 1000) (hv : val m e ≤ val 1 b) : Lw b (FloatKind.f64.encode (.number s m e)) := by
  obtain ⟨m', e', h1, h2, h3⟩ := le_double s he hb hb2 hv
  exact ⟨s, m', e', h1, h2⟩

theorem lw_mono {a b : Int} (h : a ≤ b) {x : Nat} (hx : Lw a x) : Lw b x := by
  obtain ⟨s, m, e, h1, h2⟩ := hx
  exact ⟨s, m, e, h1, Nat.le_trans h2 (val_one_mono h)⟩

theorem natAbs_signed (s : Bool) (m k : Nat) : (signed s m k).natAbs = m * 2 ^ k := by
  unfold signed
  rw [Nat.shiftLeft_eq]
  cases s
  · exact Int.natAbs_natCast _
  · exact (Int.natAbs_neg _).trans (Int.natAbs_natCast _)

theorem val_dbl {b : Int} (hb : -6000 ≤ b) : val 1 b + val 1 b = val 1 (b + 1) := by
  unfold val
  rw [Nat.one_mul, Nat.one_mul, show (b + 1 + 6000).toNat = (b + 6000).toNat + 1 by omega, Nat.pow_succ]
  omega

theorem val_add (m n : Nat) (e : Int) : val (m + n) e = val m e + val n e := by unfold val; rw [Nat.add_mul]

theorem lw_sum {a b : Int} (ha : -1000 ≤ a) (hb : -1000 ≤ b) (ha2 : a ≤ 900) (hb2 : b ≤ 900) {s t : Bool} {m n : Nat} {i j : Int} (hi : -1074 ≤ i) (hj : -1074 ≤ j) (hm : val m i ≤ val 1 a) (hn : val n j ≤ val 1 b) :
    ∃ d, (Datum.number s m i).sum (.number t n j) = some d ∧ Lw (max a b + 1) (FloatKind.f64.encode d) := by
  refine ⟨_, rfl, ?_⟩
  refine lw_write _ (by omega) (by omega) (by omega) ?_
  refine Nat.le_trans (val_le_iff.2 (Int.natAbs_add_le _ _)) ?_
  rw [natAbs_signed, natAbs_signed, val_add, val_shift _ _ (by omega), val_shift _ _ (by omega)]
  rw [show min i j + ((i - min i j).toNat : Int) = i by omega, show min i j + ((j - min i j).toNat : Int) = j by omega, ← val_dbl (by omega)]
  have h1 := val_one_mono (show a ≤ max a b by omega)
  have h2 := val_one_mono (show b ≤ max a b by omega)
  omega

theorem lw_add {a b : Int} (ha : -1000 ≤ a) (hb : -1000 ≤ b) (ha2 : a ≤ 900) (hb2 : b ≤ 900) {x y : Nat} (hx : Lw a x) (hy : Lw b y) : Lw (max a b + 1) (D .add x y) := by
  obtain ⟨s, m, i, h1, h2⟩ := hx
  obtain ⟨t, n, j, h3, h4⟩ := hy
  obtain ⟨d, hd, hl⟩ := lw_sum (s := s) (t := t) ha hb ha2 hb2 (Lw.place h1).1 (Lw.place h3).1 h2 h4
  have : D .add x y = FloatKind.f64.encode d := by
    show (((FloatKind.f64.decode x).sum (FloatKind.f64.decode y)).map _).getD _ = _
    rw [h1, h3, hd]; rfl
  rw [this]; exact hl

theorem lw_sub {a b : Int} (ha : -1000 ≤ a) (hb : -1000 ≤ b) (ha2 : a ≤ 900) (hb2 : b ≤ 900) {x y : Nat} (hx : Lw a x) (hy : Lw b y) : Lw (max a b + 1) (D .sub x y) := by
  obtain ⟨s, m, i, h1, h2⟩ := hx
  obtain ⟨t, n, j, h3, h4⟩ := hy
  obtain ⟨d, hd, hl⟩ := lw_sum (s := s) (t := !t) ha hb ha2 hb2 (Lw.place h1).1 (Lw.place h3).1 h2 h4
  have : D .sub x y = FloatKind.f64.encode d := by
    show (((FloatKind.f64.decode x).sum (FloatKind.f64.decode y).opposite).map _).getD _ = _
    rw [h1, h3]
    show (((Datum.number s m i).sum (.number (!t) n j)).map _).getD _ = _
    rw [hd]; rfl
  rw [this]; exact hl

theorem lw_mul {a b : Int} (ha : -400 ≤ a) (hb : -400 ≤ b) (hab : a + b ≤ 900) {x y : Nat} (hx : Lw a x) (hy : Lw b y) : Lw (a + b) (D .mul x y) := by
  obtain ⟨s, m, i, h1, h2⟩ := hx
  obtain ⟨t, n, j, h3, h4⟩ := hy
  have hi := (Lw.place h1)
  have hj := (Lw.place h3)
  have : D .mul x y = FloatKind.f64.encode (.number (s ^^ t) (m * n) (i + j)) := by
    show (((FloatKind.f64.decode x).product (FloatKind.f64.decode y)).map _).getD _ = _
    rw [h1, h3]; rfl
  rw [this]
  refine lw_write _ (by omega) (by omega) (by omega) ?_
  unfold val at *
  rw [Nat.one_mul] at *
  obtain ⟨S, hS⟩ : ∃ S : Nat, S = 6000 := ⟨_, rfl⟩
  have h5 := Nat.mul_le_mul h2 h4
  rw [Nat.mul_mul_mul_comm, ← pow_add2, ← pow_add2, show (i + 6000).toNat + (j + 6000).toNat = (i + j + 6000).toNat + S by omega, show (a + 6000).toNat + (b + 6000).toNat = (a + b + 6000).toNat + S by omega,
    pow_add2, pow_add2 (a + b + 6000).toNat, ← Nat.mul_assoc] at h5
  exact Nat.le_of_mul_le_mul_right h5 (pow_pos2 S)

/-- Divided by a number of at least 1. -/
theorem lw_quo {a : Int} (ha : -400 ≤ a) (ha2 : a ≤ 900) {x y : Nat} (hx : Lw a x) {t : Bool} {n : Nat} {j : Int} (hy : FloatKind.f64.decode y = .number t n j) (hn : val 1 0 ≤ val n j) : Lw a (D .quo x y) := by
  obtain ⟨s, m, i, h1, h2⟩ := hx
  have hi := (Lw.place h1)
  have hj := (Lw.place hy)
  have hm53 := (read_double h1).1
  have hn0 : n ≠ 0 := fun h => by rw [val_zero.2 h] at hn; have := val_zero.1 (Nat.le_zero.1 hn); omega
  obtain ⟨more, hmore⟩ : ∃ more, more = 54 + n.log2 - m.log2 := ⟨_, rfl⟩
  have hq : D .quo x y = FloatKind.f64.encode (.number (s ^^ t) (2 * ((m <<< more) / n) + ((m <<< more) % n != 0).toNat) (i - j - more - 1)) := by
    show (((FloatKind.f64.decode x).quotient 54 (FloatKind.f64.decode y)).map _).getD _ = _
    rw [h1, hy, quot_eq _ _ _ hn0, hmore]; rfl
  rw [hq, Nat.shiftLeft_eq]
  have hn53 := (read_double hy).1
  have hnl : n.log2 < 53 := (Nat.log2_lt hn0).2 (by omega)
  have hmr : more ≤ 107 := by omega
  refine lw_write _ (by omega) (by omega) (by omega) ?_
  by_cases hm : m = 0
  · subst hm
    rw [Nat.zero_mul, Nat.zero_div, Nat.zero_mod]
    unfold val
    simp
  -- the dividend is at most 2 ^ K * n, with K = a - (i - j - more)
  have hlm := Nat.log2_self_le hm
  have hml : m.log2 < 53 := (Nat.log2_lt hm).2 (by omega)
  have hbig : n ≤ m * 2 ^ more := by
    refine Nat.le_trans (Nat.le_of_lt (Nat.lt_log2_self (n := n))) ?_
    refine Nat.le_trans ?_ (Nat.mul_le_mul_right _ hlm)
    rw [← pow_add2]
    exact pow_le2 (by omega)
  obtain ⟨S, hS⟩ : ∃ S : Nat, S = 6000 := ⟨_, rfl⟩
  have h3 : m * 2 ^ more * 2 ^ ((i - more + 6000).toNat + S) ≤ 2 ^ (a + 6000).toNat * 2 ^ S := by
    unfold val at h2
    rw [Nat.one_mul] at h2
    rw [pow_add2 _ S, ← Nat.mul_assoc]
    refine Nat.mul_le_mul_right _ ?_
    rw [Nat.mul_assoc, ← pow_add2, show more + (i - more + 6000).toNat = (i + 6000).toNat by omega]; exact h2
  unfold val at hn
  rw [Nat.one_mul, show (0 + 6000 : Int).toNat = S by omega] at hn
  have hK : 0 ≤ a - (i - j - more) := by
    have h6 := Nat.mul_le_mul_right (2 ^ (i - j - more + 6000).toNat) hn
    rw [Nat.mul_assoc, ← pow_add2, ← pow_add2, show (j + 6000).toNat + (i - j - more + 6000).toNat = (i - more + 6000).toNat + S by omega] at h6
    have h7 := Nat.le_trans h6 (Nat.le_trans (Nat.mul_le_mul_right _ hbig) h3)
    rw [← pow_add2 (a + 6000).toNat S] at h7
    have := le_of_pow h7
    omega
  obtain ⟨K, hKe⟩ : ∃ K : Nat, (K : Int) = a - (i - j - more) := ⟨(a - (i - j - more)).toNat, by omega⟩
  have hdiv : m * 2 ^ more ≤ 2 ^ K * n := by
    have h4 : (2 : Nat) ^ (a + 6000).toNat * 2 ^ S ≤ 2 ^ K * n * 2 ^ ((i - more + 6000).toNat + S) := by
      have h5 : (2 : Nat) ^ (a + 6000).toNat * 2 ^ S ≤ 2 ^ (a + 6000).toNat * (n * 2 ^ (j + 6000).toNat) := Nat.mul_le_mul_left _ hn
      refine Nat.le_trans h5 (Nat.le_of_eq ?_)
      rw [Nat.mul_left_comm, ← pow_add2, Nat.mul_comm (2 ^ K) n, Nat.mul_assoc n, ← pow_add2]
      congr 2
      omega
    exact Nat.le_of_mul_le_mul_right (Nat.le_trans h3 h4) (pow_pos2 ((i - more + 6000).toNat + S))
  have hmag : 2 * (m * 2 ^ more / n) + (m * 2 ^ more % n != 0).toNat ≤ 2 ^ (K + 1) := by
    have hpos : 0 < n := Nat.pos_of_ne_zero hn0
    have hdm := Nat.div_add_mod (m * 2 ^ more) n
    rw [Nat.pow_succ]
    generalize m * 2 ^ more = dv at *
    generalize (2 : Nat) ^ K = K2 at *
    by_cases hr : dv % n = 0
    · have : dv / n ≤ K2 := Nat.div_le_of_le_mul (by rw [Nat.mul_comm]; exact hdiv)
      rw [hr]
      simp only [bne_self_eq_false, Bool.toNat_false]
      omega
    · have : dv / n < K2 := (Nat.div_lt_iff_lt_mul hpos).2 (by
        rcases Nat.lt_or_ge dv (K2 * n) with h | h
        · exact h
        · have : dv = K2 * n := by omega
          rw [this, Nat.mul_mod_left] at hr
          exact absurd rfl hr)
      have hb := Bool.toNat_le (dv % n != 0)
      omega
  have hfin : val (2 ^ (K + 1)) (i - j - more - 1) = val 1 a := by
    have := val_shift 1 (K + 1) (e := i - j - more - 1) (by omega)
    rw [Nat.one_mul] at this
    rw [this]
    congr 1
    omega
  rw [← hfin, val_le_iff]
  exact hmag

theorem lw_const {c : Nat} {s : Bool} {m : Nat} {e b : Int} (h : FloatKind.f64.decode c = .number s m e) (hv : val m e ≤ val 1 b) : Lw b c := ⟨s, m, e, h, hv⟩

theorem num_c {c : Nat} (h : (match FloatKind.f64.decode c with | .number .. => true | _ => false) = true) : ∃ s m e, FloatKind.f64.decode c = .number s m e := by
  cases hc : FloatKind.f64.decode c with
  | number s m e => exact ⟨s, m, e, rfl⟩
  | infinity s => rw [hc] at h; cases h
  | nan s t => rw [hc] at h; cases h

theorem lw_one : Lw 0 4607182418800017408 := ⟨false, 4503599627370496, -52, by decide +kernel, by
  have := val_shift 1 52 (e := -52) (by omega)
  rw [Nat.one_mul] at this
  exact Nat.le_of_eq this⟩
theorem lw_half : Lw 0 4602678819172646912 := lw_mono (show (-1 : Int) ≤ 0 by omega) ⟨false, 4503599627370496, -53, by decide +kernel, by
  have := val_shift 1 52 (e := -53) (by omega)
  rw [Nat.one_mul] at this
  exact Nat.le_of_eq this⟩
theorem lw_turn : Lw 3 4618760256179416344 := by
  obtain ⟨s, m, e, h⟩ := num_c (c := 4618760256179416344) (by decide +kernel)
  have h2 : FloatKind.f64.decode 4618760256179416344 = .number false 7074237752028440 (-50) := by decide +kernel
  refine ⟨_, _, _, h2, ?_⟩
  have := val_shift 1 53 (e := -50) (by omega)
  rw [Nat.one_mul] at this
  rw [show (3 : Int) = -50 + ((53 : Nat) : Int) by omega, ← this, val_le_iff]
  omega

/-- The numbers that are divided by are at least 1. -/
theorem fac_num (n : Nat) (h : n < 8) : ∃ t m j, FloatKind.f64.decode (floatOfInt .f64 (facN n)) = .number t m j ∧ val 1 0 ≤ val m j := by
  have key : ∀ c : Nat, 0 < c → c < 1000 → ∃ t m j, FloatKind.f64.decode (FloatKind.f64.encode (.number false c 0)) = .number t m j ∧ val 1 0 ≤ val m j := fun c h0 h1 => by
    obtain ⟨m', e', h4, h5, h6⟩ := ex_double false (m := c) (e := 0) (by omega) (by omega) (by omega)
    exact ⟨_, _, _, h4, by rw [h5]; exact val_le_iff.2 h0⟩
  have : n = 0 ∨ n = 1 ∨ n = 2 ∨ n = 3 ∨ n = 4 ∨ n = 5 ∨ n = 6 ∨ n = 7 := by omega
  rcases this with h | h | h | h | h | h | h | h <;> subst h
  · exact key 272 (by omega) (by omega)
  · exact key 210 (by omega) (by omega)
  · exact key 156 (by omega) (by omega)
  · exact key 110 (by omega) (by omega)
  · exact key 72 (by omega) (by omega)
  · exact key 42 (by omega) (by omega)
  · exact key 20 (by omega) (by omega)
  · exact key 6 (by omega) (by omega)

theorem lw_poly {u : Nat} (hu : Lw 12 u) : ∀ n : Nat, n ≤ 8 → Lw (13 * n) (polyF u n)
  | 0, _ => lw_one
  | n + 1, h => by
    have h1 := lw_poly hu n (by omega)
    obtain ⟨t, m, j, h2, h3⟩ := fac_num n (by omega)
    have h4 := lw_quo (a := 12 + 13 * (n : Int)) (by omega) (by omega) (lw_mul (by omega) (by omega) (by omega) hu h1) h2 h3
    have h5 := lw_sub (by omega) (by omega) (by omega) (by omega) lw_one h4
    refine lw_mono ?_ h5
    omega

theorem abs_cmp0 {m : Nat} {s t : Bool} {k j : Nat} (h : compare (signed s m k) (signed t 0 j) = .eq) : m = 0 := by
  have h1 : signed t 0 j = 0 := by unfold signed; cases t <;> simp
  rw [h1] at h
  have h2 : signed s m k = 0 := by
    have := Std.LawfulEqOrd.eq_of_compare h
    exact this
  have h3 := natAbs_signed s m k
  rw [h2] at h3
  have := pow_pos2 k
  rcases Nat.mul_eq_zero.1 (show m * 2 ^ k = 0 by rw [← h3]; rfl) with h | h
  · exact h
  · omega

/-- A number without its whole part is at most 1. -/
theorem lw_sin1 {f : Nat} {s : Bool} {m : Nat} {e : Int} (h : FloatKind.f64.decode f = .number s m e) : Lw 0 (sin1 f) := by
  obtain ⟨hm, he1, he2⟩ := read_double h
  obtain ⟨q, hq⟩ : ∃ q, q = m * 2 ^ e.toNat / 2 ^ (-e).toNat := ⟨_, rfl⟩
  have hw : whole .zero f = double.nearest s q 0 := by
    rw [whole_num _ h, zero_cut, Nat.shiftLeft_eq, hq]
  have hqv : val q 0 ≤ val m e ∧ val m e ≤ val q 0 + val 1 0 ∧ (q = 0 → val m e ≤ val 1 0) := by
    rcases Int.le_total 0 e with h0 | h0
    · have hq' : q = m * 2 ^ e.toNat := by rw [hq, show (-e).toNat = 0 by omega, Nat.pow_zero, Nat.div_one]
      have : val q 0 = val m e := by rw [hq', val_shift _ _ (by omega)]; congr 1; omega
      exact ⟨Nat.le_of_eq this, by omega, fun h => by rw [← this, h]; unfold val; omega⟩
    · have hq' : q = m / 2 ^ (-e).toNat := by rw [hq, show e.toNat = 0 by omega, Nat.pow_zero, Nat.mul_one]
      have hv : ∀ r, val r 0 = val (r * 2 ^ (-e).toNat) e := fun r => by rw [val_shift _ _ (by omega)]; congr 1; omega
      have hdm := Nat.div_add_mod m (2 ^ (-e).toNat)
      have hml := Nat.mod_lt m (pow_pos2 (-e).toNat)
      rw [Nat.mul_comm, ← hq'] at hdm
      refine ⟨?_, ?_, fun h => ?_⟩
      · rw [hv, val_le_iff]; omega
      · rw [← val_add, hv, val_le_iff, Nat.add_mul, Nat.one_mul]; omega
      · rw [hv, val_le_iff, Nat.one_mul]; rw [h, Nat.zero_mul] at hdm; omega
  have hex : ∃ m' e', FloatKind.f64.decode (double.nearest s q 0) = .number s m' e' ∧ val m' e' = val q 0 := by
    rcases Int.le_total 0 e with h0 | h0
    · have hq' : q = m * 2 ^ e.toNat := by rw [hq, show (-e).toNat = 0 by omega, Nat.pow_zero, Nat.div_one]
      by_cases hz : q = 0
      · rw [hz]
        obtain ⟨m', e', h4, h5, -⟩ := ex_double s (m := 0) (e := 0) (by omega) (by omega) (by omega)
        exact ⟨m', e', h4, h5⟩
      · have hv : val q 0 = val m e := by rw [hq', val_shift _ _ (by omega)]; congr 1; omega
        rw [nearest_val double s hz (by omega) (by omega) hv, hv]
        have hx := nearest_exact double s (m := m) (by rw [bD]; omega) (e := e) (by rw [lpD]; omega) (by rw [lpD]; omega) (by rw [lpD, bD, iD]; omega)
        obtain ⟨m', e', h4, h5, -⟩ := hx
        exact ⟨m', e', h4, h5⟩
    · have hq' : q = m / 2 ^ (-e).toNat := by rw [hq, show e.toNat = 0 by omega, Nat.pow_zero, Nat.mul_one]
      have : q ≤ m := by rw [hq']; exact Nat.div_le_self _ _
      obtain ⟨m', e', h4, h5, -⟩ := ex_double s (m := q) (e := 0) (by omega) (by omega) (by omega)
      exact ⟨m', e', h4, h5⟩
  obtain ⟨m', e', h4, h5⟩ := hex
  have hp := Lw.place h4
  rw [← hw] at h4
  unfold sin1
  by_cases hc : eqk .f64 (whole .zero f) 0 = true
  · rw [if_pos hc]
    have hz : m' = 0 := by
      have h0 : FloatKind.f64.decode 0 = .number false 0 (-1074) := by decide +kernel
      unfold eqk at hc
      have h6 : FloatKind.f64.format.order (whole .zero f) 0 = (FloatKind.f64.decode (whole .zero f)).order (FloatKind.f64.decode 0) := rfl
      rw [h6, h4, h0] at hc
      have h7 : (Datum.number s m' e').order (.number false 0 (-1074)) = some (compare (signed s m' (e' - min e' (-1074)).toNat) (signed false 0 (-1074 - min e' (-1074)).toNat)) := rfl
      rw [h7] at hc
      exact abs_cmp0 (by simpa using hc)
    have hq0 : q = 0 := val_zero.1 (by rw [← h5]; exact val_zero.2 hz)
    exact ⟨s, m, e, h, hqv.2.2 hq0⟩
  · rw [if_neg hc]
    have hD : ∃ n, D .sub f (whole .zero f) = FloatKind.f64.encode (.number n (signed s m (e - min e e').toNat + signed (!s) m' (e' - min e e').toNat).natAbs (min e e')) := by
      refine ⟨if signed s m (e - min e e').toNat + signed (!s) m' (e' - min e e').toNat = 0 then s && !s else decide (signed s m (e - min e e').toNat + signed (!s) m' (e' - min e e').toNat < 0), ?_⟩
      show (((FloatKind.f64.decode f).sum (FloatKind.f64.decode (whole .zero f)).opposite).map _).getD _ = _
      rw [h, h4]
      rfl
    obtain ⟨n, hD⟩ := hD
    rw [hD]
    refine lw_write _ (by omega) (by omega) (by omega) ?_
    have hA : val (m * 2 ^ (e - min e e').toNat) (min e e') = val m e := by rw [val_shift _ _ (by omega)]; congr 1; omega
    have hB : val (m' * 2 ^ (e' - min e e').toNat) (min e e') = val q 0 := by rw [val_shift _ _ (by omega), ← h5]; congr 1; omega
    have hAB : (signed s m (e - min e e').toNat + signed (!s) m' (e' - min e e').toNat).natAbs = m * 2 ^ (e - min e e').toNat - m' * 2 ^ (e' - min e e').toNat := by
      have hle : m' * 2 ^ (e' - min e e').toNat ≤ m * 2 ^ (e - min e e').toNat := (val_le_iff (e := min e e')).1 (by rw [hA, hB]; exact hqv.1)
      unfold signed
      rw [Nat.shiftLeft_eq, Nat.shiftLeft_eq]
      generalize m * 2 ^ (e - min e e').toNat = X at *
      generalize m' * 2 ^ (e' - min e e').toNat = Y at *
      cases s
      · simp only [Bool.false_eq_true, if_false, Bool.not_false, if_true]; omega
      · simp only [Bool.not_true, Bool.false_eq_true, if_false, if_true]; omega
    rw [hAB]
    have hsub : val (m * 2 ^ (e - min e e').toNat - m' * 2 ^ (e' - min e e').toNat) (min e e') = val m e - val q 0 := by
      rw [← hA, ← hB]
      unfold val
      rw [Nat.sub_mul]
    rw [hsub]
    have := hqv.2.1
    omega

theorem negc_num {x : Nat} {s : Bool} {m : Nat} {e : Int} (h : FloatKind.f64.decode x = .number s m e) : FloatKind.f64.decode (negc .f64 x) = .number (!s) m e := by
  have hd := decode_neg .f64 x
  rw [h] at hd
  unfold negc
  rw [decode_cn_not (by rw [hd]; rfl), hd]; rfl

theorem fits_sin (x : Nat) (h : eqk .f32 (B .sub x x) 0 = true) : fits (sinW (wid x)) := by
  obtain ⟨s, m, e, hx⟩ := fin_num h
  obtain ⟨m1, e1, h1, -⟩ := wid_num hx
  have l1 := lw_sin1 h1
  generalize wid x = f at *
  have l2 : Lw 1 (sin2 f) := by
    unfold sin2
    split
    · exact lw_add (a := 0) (b := 0) (by omega) (by omega) (by omega) (by omega) l1 lw_one
    · exact lw_mono (by omega) l1
  have l3 : Lw 2 (sin3 f) := by
    unfold sin3
    split
    · exact lw_sub (a := 1) (b := 0) (by omega) (by omega) (by omega) (by omega) l2 lw_half
    · exact lw_mono (by omega) l2
  have l4 : Lw 3 (sin4 f) := by
    unfold sin4
    split
    · exact lw_sub (a := 0) (b := 2) (by omega) (by omega) (by omega) (by omega) lw_half l3
    · exact lw_mono (by omega) l3
  have lz : Lw 6 (sinZ f) := lw_mul (a := 3) (b := 3) (by omega) (by omega) (by omega) l4 lw_turn
  have lu : Lw 12 (D .mul (sinZ f) (sinZ f)) := lw_mul (a := 6) (b := 6) (by omega) (by omega) (by omega) lz lz
  have lo : Lw 110 (sinO f) := lw_mul (a := 6) (b := 104) (by omega) (by omega) (by omega) lz (lw_poly lu 8 (by omega))
  obtain ⟨s2, m2, e2, g1, g2⟩ := lo
  have hp := Lw.place g1
  unfold sinW
  split
  · exact fits_le (negc_num g1) (by omega) (by omega) g2 (by omega)
  · exact fits_le g1 (by omega) (by omega) g2 (by omega)
end Go.Fl

namespace Go.Ft
open Ieee

/-- A finite word that is read and written again stays itself, if it has no bits beyond its width. -/
theorem round_trip (f : Format) (hBi : f.binade ≤ f.infRung) {x : Nat} {s : Bool} {m : Nat} {e : Int} (h : f.read x = .number s m e) :
    ∃ r, r < f.infRung ∧ r = x % f.signWeight ∧ (∀ t, f.nearest t m e = f.word t r ∧ f.read (f.word t r) = .number t m e) ∧ (x < 2 * f.signWeight → x = f.word s r) := by
  have hB : 0 < f.binade := pow_pos2 _
  have hsw : f.infRung < f.signWeight := Format.infRung_lt f
  have hword : ∀ r, r = x % f.signWeight → (x / f.signWeight % 2 == 1) = s → x < 2 * f.signWeight → x = f.word s r := fun r hr hs hx => by
    have hdm := Nat.div_add_mod x f.signWeight
    have hlt : x / f.signWeight < 2 := Nat.div_lt_of_lt_mul (by rw [Nat.mul_comm]; exact hx)
    unfold Format.word
    rw [← hr] at hdm
    have h01 : x / f.signWeight = 0 ∨ x / f.signWeight = 1 := by
      generalize x / f.signWeight = k at hlt
      omega
    rcases h01 with h0 | h0
    · rw [h0] at hdm hs
      rw [← hs]
      simp at hdm ⊢
      omega
    · rw [h0] at hdm hs
      rw [← hs]
      simp at hdm ⊢
      omega
  unfold Format.read at h
  simp only at h
  by_cases h1 : x % f.signWeight < f.binade
  · rw [if_pos h1] at h
    injection h with hs hm he
    subst hm he
    refine ⟨x % f.signWeight, by omega, rfl, fun t => ⟨?_, ?_⟩, hword _ rfl hs⟩
    · by_cases hz : x % f.signWeight = 0
      · rw [hz]; unfold Format.nearest; rw [if_pos rfl]
      · have hl : (x % f.signWeight).log2 < f.fractionBits := (Nat.log2_lt hz).2 h1
        have hla : last f (x % f.signWeight) f.leastPlace = f.leastPlace := by unfold last; omega
        rw [nearest_eq f t hz, hla, R_pos _ (by omega)]
        congr 1
        rw [show (f.leastPlace - f.leastPlace).toNat = 0 by omega, Nat.zero_mul, Nat.zero_add, Nat.pow_zero, Nat.mul_one]
        omega
    · rw [read_word f t (by omega), if_pos h1]
  · rw [if_neg h1] at h
    by_cases h2 : x % f.signWeight < f.infRung
    · rw [if_pos h2] at h
      injection h with hs hm he
      subst hm he
      have hq : 1 ≤ x % f.signWeight / f.binade := (Nat.le_div_iff_mul_le hB).2 (by omega)
      have hdm := Nat.div_add_mod (x % f.signWeight) f.binade
      have hml := Nat.mod_lt (x % f.signWeight) hB
      have hz : f.binade + x % f.signWeight % f.binade ≠ 0 := by omega
      have hlog : (f.binade + x % f.signWeight % f.binade).log2 = f.fractionBits := by
        rw [Nat.log2_eq_iff hz, Nat.pow_succ]
        unfold Format.binade at *
        omega
      refine ⟨x % f.signWeight, h2, rfl, fun t => ⟨?_, ?_⟩, hword _ rfl hs⟩
      · have hla : last f (f.binade + x % f.signWeight % f.binade) (f.leastPlace + (x % f.signWeight / f.binade - 1 : Nat)) = f.leastPlace + (x % f.signWeight / f.binade - 1 : Nat) := by unfold last; rw [hlog]; omega
        rw [nearest_eq f t hz, hla, R_pos _ (by omega)]
        congr 1
        rw [show (f.leastPlace + ((x % f.signWeight / f.binade - 1 : Nat) : Int) - f.leastPlace).toNat = x % f.signWeight / f.binade - 1 by omega, show (f.leastPlace + ((x % f.signWeight / f.binade - 1 : Nat) : Int) - (f.leastPlace + ((x % f.signWeight / f.binade - 1 : Nat) : Int))).toNat = 0 by omega, Nat.pow_zero, Nat.mul_one]
        have : (x % f.signWeight / f.binade - 1) * f.binade + (f.binade + x % f.signWeight % f.binade) = x % f.signWeight := by
          obtain ⟨q, hq'⟩ : ∃ q, x % f.signWeight / f.binade = q + 1 := ⟨_, (Nat.sub_add_cancel hq).symm⟩
          rw [hq'] at hdm ⊢
          rw [Nat.add_sub_cancel]
          rw [Nat.mul_add, Nat.mul_one, Nat.mul_comm] at hdm
          omega
        rw [this]
        omega
      · rw [read_word f t h2, if_neg h1]
    · rw [if_neg h2] at h
      split at h <;> cases h

/-- A value with its sign. -/
def sval (s : Bool) (m : Nat) (e : Int) : Int := if s then -(val m e : Int) else val m e

theorem signed_scale (s : Bool) (m : Nat) {i b : Int} (hb : -6000 ≤ b) (h : b ≤ i) : signed s m (i - b).toNat * (2 ^ (b + 6000).toNat : Nat) = sval s m i := by
  have hv : m * 2 ^ (i - b).toNat * 2 ^ (b + 6000).toNat = val m i := by
    have := val_shift m (i - b).toNat hb
    rw [show b + ((i - b).toNat : Int) = i by omega] at this
    exact this
  unfold signed sval
  rw [Nat.shiftLeft_eq, ← hv]
  cases s
  · simp only [Bool.false_eq_true, if_false]; rw [Int.natCast_mul (m * 2 ^ (i - b).toNat)]
  · simp only [if_true]; rw [Int.natCast_mul (m * 2 ^ (i - b).toNat), Int.neg_mul]

theorem cmp_scale (a b : Int) {k : Nat} (hk : 0 < k) : compare (a * k) (b * k) = compare a b := by
  have hk' : (0 : Int) < k := by omega
  have h1 : (a * k < b * k) = (a < b) := propext ⟨fun h => Int.lt_of_mul_lt_mul_right h (Int.le_of_lt hk'), fun h => Int.mul_lt_mul_of_pos_right h hk'⟩
  have h2 : (a * k = b * k) = (a = b) := propext ⟨fun h => Int.eq_of_mul_eq_mul_right (by omega) h, fun h => by rw [h]⟩
  show compareOfLessAndEq _ _ = compareOfLessAndEq _ _
  unfold compareOfLessAndEq
  simp only [h1, h2]

theorem order_val (s t : Bool) (m n : Nat) {i j : Int} (hi : -6000 ≤ i) (hj : -6000 ≤ j) : (Datum.number s m i).order (.number t n j) = some (compare (sval s m i) (sval t n j)) := by
  have hb : -6000 ≤ min i j := by omega
  show some (compare (signed s m (i - min i j).toNat) (signed t n (j - min i j).toNat)) = _
  rw [← cmp_scale _ _ (pow_pos2 (min i j + 6000).toNat), signed_scale s m hb (by omega), signed_scale t n hb (by omega)]

theorem cmp_lt {a b : Int} : compare a b = .lt ↔ a < b := by
  show compareOfLessAndEq _ _ = _ ↔ _
  unfold compareOfLessAndEq
  split
  · simp [*]
  · split <;> simp [*]
theorem cmp_eq {a b : Int} : compare a b = .eq ↔ a = b := by
  show compareOfLessAndEq _ _ = _ ↔ _
  unfold compareOfLessAndEq
  split
  · simp; omega
  · split <;> simp [*]
theorem cmp_gt {a b : Int} : compare a b = .gt ↔ b < a := by
  show compareOfLessAndEq _ _ = _ ↔ _
  unfold compareOfLessAndEq
  split
  · simp; omega
  · split
    · simp; omega
    · simp; omega
end Go.Ft

namespace Go.Fl
open Go Go.RowKit Go.Ft Ieee

theorem rtD {x : Nat} {s : Bool} {m : Nat} {e : Int} (h : FloatKind.f64.decode x = .number s m e) :
    ∃ r, r < double.infRung ∧ r = x % double.signWeight ∧ (∀ t, double.nearest t m e = double.word t r ∧ double.read (double.word t r) = .number t m e) ∧ (x < 2 * double.signWeight → x = double.word s r) :=
  round_trip double (by decide) h
theorem rtS {x : Nat} {s : Bool} {m : Nat} {e : Int} (h : FloatKind.f32.decode x = .number s m e) :
    ∃ r, r < single.infRung ∧ r = x % single.signWeight ∧ (∀ t, single.nearest t m e = single.word t r ∧ single.read (single.word t r) = .number t m e) ∧ (x < 2 * single.signWeight → x = single.word s r) :=
  round_trip single (by decide) h

theorem wid_lt (x : Nat) : wid x < 2 * double.signWeight := by
  have h2 : 2 ^ double.width = 2 * double.signWeight := by decide
  unfold wid
  split
  · decide
  · rw [← h2]; exact Format.write_lt double _

/-- The finite ones, told by the float64. -/
theorem fin_wid (x : Nat) : eqk .f64 (D .sub (wid x) (wid x)) 0 = eqk .f32 (B .sub x x) 0 := by
  cases hx : FloatKind.f32.decode x with
  | nan s t =>
    have h1 : FloatKind.f32.format.order (B .sub x x) 0 = none := by
      have : B .sub x x = nanw .f32 := by
        show (((FloatKind.f32.decode x).sum (FloatKind.f32.decode x).opposite).map _).getD _ = _
        rw [hx]; rfl
      rw [this]; decide +kernel
    have h2 : FloatKind.f64.format.order (D .sub (wid x) (wid x)) 0 = none := by
      have : D .sub (wid x) (wid x) = nanw .f64 := by rw [wid_nan (by rw [hx]; rfl)]; decide +kernel
      rw [this]; decide +kernel
    unfold eqk; rw [h1, h2]
  | infinity s =>
    have h1 : FloatKind.f32.format.order (B .sub x x) 0 = none := by
      have : B .sub x x = nanw .f32 := by
        show (((FloatKind.f32.decode x).sum (FloatKind.f32.decode x).opposite).map _).getD _ = _
        rw [hx]; cases s <;> rfl
      rw [this]; decide +kernel
    have h2 : FloatKind.f64.format.order (D .sub (wid x) (wid x)) 0 = none := by
      have : D .sub (wid x) (wid x) = nanw .f64 := by
        show (((FloatKind.f64.decode (wid x)).sum (FloatKind.f64.decode (wid x)).opposite).map _).getD _ = _
        rw [wid_inf hx]; cases s <;> rfl
      rw [this]; decide +kernel
    unfold eqk; rw [h1, h2]
  | number s m e =>
    obtain ⟨m1, e1, h1, -⟩ := wid_num hx
    have key : ∀ (k : FloatKind) (y : Nat) (s : Bool) (m : Nat) (e : Int), k.decode y = .number s m e → eqk k (bin .sub k y y) 0 = true := fun k y s m e h => by
      have hb : bin .sub k y y = k.format.nearest (s && !s) 0 (min e e) := by
        show (((k.decode y).sum (k.decode y).opposite).map _).getD _ = _
        rw [h]
        have : signed s m (e - min e e).toNat + signed (!s) m (e - min e e).toNat = 0 := by
          unfold signed; cases s <;> simp <;> omega
        show ((some (Datum.number (if signed s m (e - min e e).toNat + signed (!s) m (e - min e e).toNat = 0 then s && !s else decide (signed s m (e - min e e).toNat + signed (!s) m (e - min e e).toNat < 0)) (signed s m (e - min e e).toNat + signed (!s) m (e - min e e).toNat).natAbs (min e e))).map _).getD _ = _
        rw [this]
        rfl
      have hn : ∀ t, k.format.nearest t 0 (min e e) = k.format.word t 0 := fun t => by unfold Format.nearest; rw [if_pos rfl]
      rw [hb, hn]
      cases k <;> cases s <;> decide +kernel
    have a1 := key .f64 _ _ _ _ h1
    have a2 := key .f32 _ _ _ _ hx
    show eqk .f64 (bin .sub .f64 (wid x) (wid x)) 0 = eqk .f32 (bin .sub .f32 x x) 0
    rw [a1, a2]

theorem and_not63 (x : Nat) (h : x < 18446744073709551616) : (Go.bits .andNot .u64 (x : Int) 9223372036854775808).toNat = x % 9223372036854775808 := by
  unfold Go.bits
  have e1 : (BitVec.ofInt 64 (x : Int)).toNat = x := by
    rw [BitVec.toNat_ofInt]
    have : (2 : Nat) ^ 64 = 18446744073709551616 := by decide
    omega
  have e2 : (~~~(BitVec.ofInt 64 9223372036854775808)).toNat = 2 ^ 63 - 1 := by decide
  have e3 : (BitVec.ofInt 64 (x : Int) &&& ~~~(BitVec.ofInt 64 9223372036854775808)).toNat = x % 9223372036854775808 := by
    rw [BitVec.toNat_and, e1, e2, Nat.and_two_pow_sub_one_eq_mod]
  show (IntKind.u64.wrap ((BitVec.ofInt 64 (x : Int) &&& ~~~(BitVec.ofInt 64 9223372036854775808)).toNat : Nat)).toNat = _
  rw [e3]
  have : x % 9223372036854775808 < 9223372036854775808 := Nat.mod_lt _ (by decide)
  have hw : IntKind.u64.wrap ((x % 9223372036854775808 : Nat) : Int) = ((x % 9223372036854775808 : Nat) : Int) := by
    simp [IntKind.wrap, IntKind.bits, IntKind.signed]
    omega
  rw [hw]; rfl

theorem abs_num {y : Nat} {s : Bool} {m : Nat} {e : Int} (hy : y < 2 * double.signWeight) (h : FloatKind.f64.decode y = .number s m e) : FloatKind.f64.decode (absW y) = .number false m e := by
  obtain ⟨r, hr, hrm, hall, -⟩ := rtD h
  rw [sD] at hy hrm
  unfold absW
  rw [and_not63 y (by omega), ← hrm]
  exact (hall false).2

/-- At least 2 ^ 52, or at most its opposite: told by the size. -/
theorem ge_abs {y : Nat} {s : Bool} {m : Nat} {e : Int} (hy : y < 2 * double.signWeight) (h : FloatKind.f64.decode y = .number s m e) :
    ((FloatKind.f64.format.order y 4841369599423283200 == some .gt || FloatKind.f64.format.order y 4841369599423283200 == some .eq) || (FloatKind.f64.format.order y 14064741636278059008 == some .lt || FloatKind.f64.format.order y 14064741636278059008 == some .eq))
      = gek .f64 (absW y) 4841369599423283200 := by
  have hp := Lw.place h
  have ha := abs_num hy h
  have c1 : FloatKind.f64.decode 4841369599423283200 = .number false 4503599627370496 0 := by decide +kernel
  have c2 : FloatKind.f64.decode 14064741636278059008 = .number true 4503599627370496 0 := by decide +kernel
  have o1 : FloatKind.f64.format.order y 4841369599423283200 = some (compare (sval s m e) (sval false 4503599627370496 0)) := by
    show (FloatKind.f64.decode y).order (FloatKind.f64.decode _) = _
    rw [h, c1, order_val _ _ _ _ (by omega) (by omega)]
  have o2 : FloatKind.f64.format.order y 14064741636278059008 = some (compare (sval s m e) (sval true 4503599627370496 0)) := by
    show (FloatKind.f64.decode y).order (FloatKind.f64.decode _) = _
    rw [h, c2, order_val _ _ _ _ (by omega) (by omega)]
  have o3 : FloatKind.f64.format.order (absW y) 4841369599423283200 = some (compare (sval false m e) (sval false 4503599627370496 0)) := by
    show (FloatKind.f64.decode (absW y)).order (FloatKind.f64.decode _) = _
    rw [ha, c1, order_val _ _ _ _ (by omega) (by omega)]
  unfold gek
  rw [o1, o2, o3, Bool.eq_iff_iff]
  simp only [Bool.or_eq_true, beq_iff_eq, Option.some.injEq, cmp_gt, cmp_eq, cmp_lt]
  unfold sval
  have hz : 0 < val 4503599627370496 0 := Nat.pos_of_ne_zero fun h => by have := val_zero.1 h; omega
  generalize val 4503599627370496 0 = A at *
  generalize val m e = v at *
  cases s
  · simp only [Bool.false_eq_true, if_false, if_true]; omega
  · simp only [Bool.false_eq_true, if_false, if_true]; omega

/-- The whole part as an integer, and what is left. -/
theorem trunc_int {y : Nat} {s : Bool} {m : Nat} {e : Int} (hy : y < 2 * double.signWeight) (h : FloatKind.f64.decode y = .number s m e) (hlt : gek .f64 (absW y) 4841369599423283200 = false) :
    ∃ n, floatToIntVal .f64 y .i64 = some n ∧ D .sub y (floatOfInt .f64 n) = sin1 y := by
  have hp := read_double h
  have ha := abs_num hy h
  have c1 : FloatKind.f64.decode 4841369599423283200 = .number false 4503599627370496 0 := by decide +kernel
  have o3 : FloatKind.f64.format.order (absW y) 4841369599423283200 = some (compare (sval false m e) (sval false 4503599627370496 0)) := by
    show (FloatKind.f64.decode (absW y)).order (FloatKind.f64.decode _) = _
    rw [ha, c1, order_val _ _ _ _ (by omega) (by omega)]
  have hv : val m e < val 4503599627370496 0 := by
    unfold gek at hlt
    rw [o3] at hlt
    simp only [Bool.or_eq_false_iff, beq_eq_false_iff_ne, ne_eq, Option.some.injEq, cmp_gt, cmp_eq] at hlt
    unfold sval at hlt
    simp only [Bool.false_eq_true, if_false] at hlt
    omega
  obtain ⟨q, hq⟩ : ∃ q, q = m * 2 ^ e.toNat / 2 ^ (-e).toNat := ⟨_, rfl⟩
  have hq52 : q < 4503599627370496 := by
    rcases Int.le_total 0 e with h0 | h0
    · have hq' : q = m * 2 ^ e.toNat := by rw [hq, show (-e).toNat = 0 by omega, Nat.pow_zero, Nat.div_one]
      have h2 : val q 0 = val m e := by rw [hq', val_shift _ _ (by omega)]; congr 1; omega
      rw [← h2] at hv
      rcases Nat.lt_or_ge q 4503599627370496 with h3 | h3
      · exact h3
      · have := val_le_iff (e := 0).2 h3; omega
    · have hq' : q = m / 2 ^ (-e).toNat := by rw [hq, show e.toNat = 0 by omega, Nat.pow_zero, Nat.mul_one]
      rcases Nat.lt_or_ge q 4503599627370496 with h3 | h3
      · exact h3
      · have h4 := val_le_iff (e := 0).2 h3
        have hvq : val q 0 = val (q * 2 ^ (-e).toNat) e := by rw [val_shift _ _ (by omega)]; congr 1; omega
        have h5 : q * 2 ^ (-e).toNat ≤ m := by rw [hq']; exact Nat.div_mul_le_self _ _
        have h6 := val_le_iff (e := e).2 h5
        omega
  have hw : whole .zero y = double.nearest s q 0 := by rw [whole_num _ h, zero_cut, Nat.shiftLeft_eq, hq]
  have hti : (FloatKind.f64.decode y).toInt .zero = some (signed s q 0) := by
    rw [h]
    show some (signed s (Toward.zero.cut s (m <<< e.toNat) (-e).toNat) 0) = _
    rw [zero_cut, Nat.shiftLeft_eq, hq]
  have hsq : signed s q 0 = if s then -(q : Int) else q := by unfold signed; simp
  refine ⟨signed s q 0, ?_, ?_⟩
  · unfold floatToIntVal
    rw [hti]
    have hmin : IntKind.i64.min = -9223372036854775808 := by decide
    have hmax : IntKind.i64.max = 9223372036854775807 := by decide
    have : IntKind.i64.min ≤ signed s q 0 ∧ signed s q 0 ≤ IntKind.i64.max := by
      rw [hmin, hmax, hsq]
      cases s
      · simp only [Bool.false_eq_true, if_false]; omega
      · simp only [if_true]; omega
    simp only [this, and_self, if_true]
  · have hfo : floatOfInt .f64 (signed s q 0) = double.nearest (decide (signed s q 0 < 0)) (signed s q 0).natAbs 0 := rfl
    have hna : (signed s q 0).natAbs = q := by rw [natAbs_signed, Nat.pow_zero, Nat.mul_one]
    rw [hfo, hna]
    obtain ⟨m', e', h4, h5, h6⟩ := ex_double s (m := q) (e := 0) (by omega) (by omega) (by omega)
    have h4' : FloatKind.f64.decode (whole .zero y) = .number s m' e' := by rw [hw]; exact h4
    have h0 : FloatKind.f64.decode 0 = .number false 0 (-1074) := by decide +kernel
    have hord : FloatKind.f64.format.order (whole .zero y) 0 = some (compare (sval s m' e') (sval false 0 (-1074))) := by
      show (FloatKind.f64.decode (whole .zero y)).order (FloatKind.f64.decode 0) = _
      rw [h4', h0, order_val _ _ _ _ (by omega) (by omega)]
    have hs0 : sval false 0 (-1074) = 0 := by unfold sval; simp [val_zero.2]
    have hsv : sval s m' e' = 0 ↔ q = 0 := by
      unfold sval
      rw [h5]
      have := @val_zero q 0
      cases s
      · simp only [Bool.false_eq_true, if_false]; omega
      · simp only [if_true]; omega
    by_cases hz : q = 0
    · have he : eqk .f64 (whole .zero y) 0 = true := by
        unfold eqk
        rw [hord, hs0, hsv.2 hz]; decide
      unfold sin1
      rw [if_pos he]
      have hd : double.nearest (decide (signed s q 0 < 0)) q 0 = 0 := by
        have : ¬ signed s q 0 < 0 := by rw [hsq, hz]; cases s <;> simp
        rw [hz] at this ⊢
        unfold Format.nearest
        rw [if_pos rfl, decide_eq_false this]; rfl
      rw [hd]
      -- y - 0 = y
      obtain ⟨r, hr, hrm, hall, hxw⟩ := rtD h
      have hyw := hxw hy
      have hD : D .sub y 0 = double.nearest (if signed s m (e - min e (-1074)).toNat + signed true 0 (-1074 - min e (-1074)).toNat = 0 then s && true else decide (signed s m (e - min e (-1074)).toNat + signed true 0 (-1074 - min e (-1074)).toNat < 0)) (signed s m (e - min e (-1074)).toNat + signed true 0 (-1074 - min e (-1074)).toNat).natAbs (min e (-1074)) := by
        show (((FloatKind.f64.decode y).sum (FloatKind.f64.decode 0).opposite).map _).getD _ = _
        rw [h, h0]; rfl
      have hzz : signed true 0 (-1074 - min e (-1074)).toNat = 0 := by unfold signed; simp
      rw [hD, hzz, Int.add_zero, natAbs_signed]
      have hmin : min e (-1074) = -1074 := by omega
      rw [hmin]
      by_cases hm : m = 0
      · subst hm
        have : signed s 0 (e - -1074).toNat = 0 := by unfold signed; simp
        rw [this, if_pos rfl, Bool.and_true, Nat.zero_mul, hyw]
        unfold Format.nearest
        rw [if_pos rfl]
        have h7 := (hall s).1
        unfold Format.nearest at h7
        rw [if_pos rfl] at h7
        exact h7
      · have hne : signed s m (e - -1074).toNat ≠ 0 := fun h' => by
          have := natAbs_signed s m (e - -1074).toNat
          rw [h'] at this
          have hp2 := pow_pos2 (e - -1074).toNat
          rcases Nat.mul_eq_zero.1 (show m * 2 ^ (e - -1074).toNat = 0 by rw [← this]; rfl) with h | h
          · exact hm h
          · omega
        have hneg : decide (signed s m (e - -1074).toNat < 0) = s := by
          cases s
          · have h9 : signed false m (e - -1074).toNat = ((m <<< (e - -1074).toNat : Nat) : Int) := rfl
            rw [h9] at hne ⊢
            clear h9
            generalize m <<< (e - -1074).toNat = X at hne ⊢
            exact decide_eq_false (by omega)
          · have h9 : signed true m (e - -1074).toNat = -((m <<< (e - -1074).toNat : Nat) : Int) := rfl
            rw [h9] at hne ⊢
            clear h9
            generalize m <<< (e - -1074).toNat = X at hne ⊢
            exact decide_eq_true (by omega)
        rw [if_neg hne, hneg]
        have := nearest_shift double s hm (e - -1074).toNat e
        rw [show e - ((e - -1074).toNat : Int) = -1074 by omega] at this
        rw [this, (hall s).1, ← hyw]
    · have he : eqk .f64 (whole .zero y) 0 = false := by
        unfold eqk
        rw [hord, hs0]
        have : ¬ sval s m' e' = 0 := fun h => hz (hsv.1 h)
        simp only [beq_eq_false_iff_ne, ne_eq, Option.some.injEq, cmp_eq]
        exact this
      unfold sin1
      rw [he]
      simp only [Bool.false_eq_true, if_false]
      congr 1
      rw [hw]
      have : decide (signed s q 0 < 0) = s := by
        rw [hsq]
        cases s
        · simp only [Bool.false_eq_true, if_false, decide_eq_false_iff_not]; omega
        · simp only [if_true, decide_eq_true_eq]; omega
      rw [this]
end Go.Fl

namespace Go.Fl
open Go Go.RowKit Go.Ft Ieee

/-- The same datum, or two zeros. -/
def Zd (d d' : Datum) : Prop := d = d' ∨ ∃ s t p, d = .number s 0 p ∧ d' = .number t 0 p
/-- .. of words. -/
def Zw (k : FloatKind) (x y : Nat) : Prop := Zd (k.decode x) (k.decode y)
/-- .. of results. -/
def Zo : Option Datum → Option Datum → Prop
  | none, none => True
  | some d, some d' => Zd d d'
  | _, _ => False

theorem Zd.refl (d : Datum) : Zd d d := .inl rfl
theorem Zw.refl (k : FloatKind) (x : Nat) : Zw k x x := .inl rfl
theorem Zo.refl : ∀ d, Zo d d
  | none => trivial
  | some d => Zd.refl d
theorem Zd.symm {d d' : Datum} (h : Zd d d') : Zd d' d := by
  rcases h with h | ⟨s, t, p, h1, h2⟩
  · exact .inl h.symm
  · exact .inr ⟨t, s, p, h2, h1⟩
theorem Zd.trans {a b c : Datum} (h : Zd a b) (h' : Zd b c) : Zd a c := by
  rcases h with rfl | ⟨s, t, p, rfl, rfl⟩
  · exact h'
  · rcases h' with rfl | ⟨s', t', p', h1, rfl⟩
    · exact .inr ⟨s, t, p, rfl, rfl⟩
    · injection h1 with _ _ h3
      subst h3
      exact .inr ⟨s, t', p, rfl, rfl⟩

theorem signed_zero (s : Bool) (k : Nat) : signed s 0 k = 0 := by unfold signed; simp

theorem Zd.opp {d d' : Datum} (h : Zd d d') : Zd d.opposite d'.opposite := by
  rcases h with rfl | ⟨s, t, p, rfl, rfl⟩
  · exact Zd.refl _
  · exact .inr ⟨!s, !t, p, rfl, rfl⟩

theorem sum_l {d d' : Datum} (h : Zd d d') (e : Datum) : Zo (d.sum e) (d'.sum e) := by
  rcases h with rfl | ⟨s, t, p, rfl, rfl⟩
  · exact Zo.refl _
  · cases e with
    | nan u v => exact trivial
    | infinity u => exact Zd.refl _
    | number u n j =>
      show Zd (.number (if signed s 0 (p - min p j).toNat + signed u n (j - min p j).toNat = 0 then s && u else decide (signed s 0 (p - min p j).toNat + signed u n (j - min p j).toNat < 0)) (signed s 0 (p - min p j).toNat + signed u n (j - min p j).toNat).natAbs (min p j))
        (.number (if signed t 0 (p - min p j).toNat + signed u n (j - min p j).toNat = 0 then t && u else decide (signed t 0 (p - min p j).toNat + signed u n (j - min p j).toNat < 0)) (signed t 0 (p - min p j).toNat + signed u n (j - min p j).toNat).natAbs (min p j))
      rw [signed_zero, signed_zero, Int.zero_add]
      by_cases h0 : signed u n (j - min p j).toNat = 0
      · rw [h0, if_pos rfl, if_pos rfl]
        exact .inr ⟨_, _, _, rfl, rfl⟩
      · rw [if_neg h0, if_neg h0]
        exact Zd.refl _

theorem sum_r {d d' : Datum} (h : Zd d d') (e : Datum) : Zo (e.sum d) (e.sum d') := by
  rcases h with rfl | ⟨s, t, p, rfl, rfl⟩
  · exact Zo.refl _
  · cases e with
    | nan u v => exact trivial
    | infinity u => exact Zd.refl _
    | number u n j =>
      show Zd (.number (if signed u n (j - min j p).toNat + signed s 0 (p - min j p).toNat = 0 then u && s else decide (signed u n (j - min j p).toNat + signed s 0 (p - min j p).toNat < 0)) (signed u n (j - min j p).toNat + signed s 0 (p - min j p).toNat).natAbs (min j p))
        (.number (if signed u n (j - min j p).toNat + signed t 0 (p - min j p).toNat = 0 then u && t else decide (signed u n (j - min j p).toNat + signed t 0 (p - min j p).toNat < 0)) (signed u n (j - min j p).toNat + signed t 0 (p - min j p).toNat).natAbs (min j p))
      rw [signed_zero, signed_zero, Int.add_zero]
      by_cases h0 : signed u n (j - min j p).toNat = 0
      · rw [h0, if_pos rfl, if_pos rfl]
        exact .inr ⟨_, _, _, rfl, rfl⟩
      · rw [if_neg h0, if_neg h0]
        exact Zd.refl _

theorem prod_l {d d' : Datum} (h : Zd d d') (e : Datum) : Zo (d.product e) (d'.product e) := by
  rcases h with rfl | ⟨s, t, p, rfl, rfl⟩
  · exact Zo.refl _
  · cases e with
    | nan u v => exact trivial
    | infinity u => exact trivial
    | number u n j => exact .inr ⟨s ^^ u, t ^^ u, p + j, by show Datum.number _ (0 * n) _ = _; rw [Nat.zero_mul], by show Datum.number _ (0 * n) _ = _; rw [Nat.zero_mul]⟩

theorem prod_r {d d' : Datum} (h : Zd d d') (e : Datum) : Zo (e.product d) (e.product d') := by
  rcases h with rfl | ⟨s, t, p, rfl, rfl⟩
  · exact Zo.refl _
  · cases e with
    | nan u v => exact trivial
    | infinity u => exact trivial
    | number u n j => exact .inr ⟨u ^^ s, u ^^ t, j + p, rfl, rfl⟩

theorem quot_l {d d' : Datum} (h : Zd d d') (k : Nat) (e : Datum) : Zo (d.quotient k e) (d'.quotient k e) := by
  rcases h with rfl | ⟨s, t, p, rfl, rfl⟩
  · exact Zo.refl _
  · cases e with
    | nan u v => exact trivial
    | infinity u => exact .inr ⟨s ^^ u, t ^^ u, 0, rfl, rfl⟩
    | number u n j =>
      by_cases hn : n = 0
      · subst hn; exact trivial
      · rw [quot_eq _ _ _ hn, quot_eq _ _ _ hn]
        refine .inr ⟨s ^^ u, t ^^ u, p - j - (k + n.log2 - (0 : Nat).log2 : Nat) - 1, ?_, ?_⟩
        all_goals
          simp only [Nat.zero_shiftLeft, Nat.zero_div, Nat.zero_mod]
          rfl

theorem order_l {d d' : Datum} (h : Zd d d') (e : Datum) : d.order e = d'.order e := by
  rcases h with rfl | ⟨s, t, p, rfl, rfl⟩
  · rfl
  · cases e with
    | nan u v => rfl
    | infinity u => rfl
    | number u n j =>
      show some (compare (signed s 0 _) _) = some (compare (signed t 0 _) _)
      rw [signed_zero, signed_zero]

theorem order_r {d d' : Datum} (h : Zd d d') (e : Datum) : e.order d = e.order d' := by
  rcases h with rfl | ⟨s, t, p, rfl, rfl⟩
  · rfl
  · cases e with
    | nan u v => rfl
    | infinity u => rfl
    | number u n j =>
      show some (compare _ (signed s 0 _)) = some (compare _ (signed t 0 _))
      rw [signed_zero, signed_zero]

theorem zero_word (k : FloatKind) (s : Bool) (p : Int) : k.decode (k.encode (.number s 0 p)) = .number s 0 k.format.leastPlace := by
  have : k.encode (.number s 0 p) = k.format.word s 0 := by
    show k.format.nearest s 0 p = _
    unfold Format.nearest
    rw [if_pos rfl]
  rw [this]
  cases k <;> cases s <;> decide +kernel

/-- What is written of the like is the like. -/
theorem Zd.write {k : FloatKind} {d d' : Datum} (h : Zd d d') : Zw k (k.encode d) (k.encode d') := by
  rcases h with rfl | ⟨s, t, p, rfl, rfl⟩
  · exact Zw.refl _ _
  · exact .inr ⟨s, t, _, zero_word k s p, zero_word k t p⟩

theorem Zo.write {k : FloatKind} : ∀ {d d' : Option Datum}, Zo d d' → Zw k ((d.map k.encode).getD (nanw k)) ((d'.map k.encode).getD (nanw k))
  | none, none, _ => Zw.refl _ _
  | some _, some _, h => Zd.write h
  | none, some _, h => h.elim
  | some _, none, h => h.elim

theorem bin_add (k : FloatKind) (x y : Nat) : bin .add k x y = (((k.decode x).sum (k.decode y)).map k.encode).getD (nanw k) := rfl
theorem bin_sub (k : FloatKind) (x y : Nat) : bin .sub k x y = (((k.decode x).sum (k.decode y).opposite).map k.encode).getD (nanw k) := rfl
theorem bin_mul (k : FloatKind) (x y : Nat) : bin .mul k x y = (((k.decode x).product (k.decode y)).map k.encode).getD (nanw k) := rfl
theorem bin_quo (k : FloatKind) (x y : Nat) : bin .quo k x y = (((k.decode x).quotient (k.format.fractionBits + 2) (k.decode y)).map k.encode).getD (nanw k) := rfl

theorem Zw.trans {k : FloatKind} {x y z : Nat} (h : Zw k x y) (h' : Zw k y z) : Zw k x z := Zd.trans h h'
theorem Zw.add {k : FloatKind} {x x' y y' : Nat} (hx : Zw k x x') (hy : Zw k y y') : Zw k (bin .add k x y) (bin .add k x' y') := by
  rw [bin_add, bin_add]
  exact Zw.trans (Zo.write (sum_l hx _)) (Zo.write (sum_r hy _))
theorem Zw.sub {k : FloatKind} {x x' y y' : Nat} (hx : Zw k x x') (hy : Zw k y y') : Zw k (bin .sub k x y) (bin .sub k x' y') := by
  rw [bin_sub, bin_sub]
  exact Zw.trans (Zo.write (sum_l hx _)) (Zo.write (sum_r hy.opp _))
theorem Zw.mul {k : FloatKind} {x x' y y' : Nat} (hx : Zw k x x') (hy : Zw k y y') : Zw k (bin .mul k x y) (bin .mul k x' y') := by
  rw [bin_mul, bin_mul]
  exact Zw.trans (Zo.write (prod_l hx _)) (Zo.write (prod_r hy _))
theorem Zw.quo {k : FloatKind} {x x' : Nat} (hx : Zw k x x') (y : Nat) : Zw k (bin .quo k x y) (bin .quo k x' y) := by
  rw [bin_quo, bin_quo]
  exact Zo.write (quot_l hx _ _)
theorem Zw.order {k : FloatKind} {x x' y y' : Nat} (hx : Zw k x x') (hy : Zw k y y') : k.format.order x y = k.format.order x' y' :=
  (order_l hx _).trans (order_r hy _)
theorem Zw.ltk {k : FloatKind} {x x' y y' : Nat} (hx : Zw k x x') (hy : Zw k y y') : ltk k x y = ltk k x' y' := by unfold Fl.ltk; rw [Zw.order hx hy]
theorem Zw.gtk {k : FloatKind} {x x' y y' : Nat} (hx : Zw k x x') (hy : Zw k y y') : gtk k x y = gtk k x' y' := by unfold Fl.gtk; rw [Zw.order hx hy]

theorem decode_negc (k : FloatKind) (x : Nat) : Zw k (negc k x) (Op.negFloat k x) ∨ (k.decode x).isNaN = true := by
  cases h : (k.decode x).isNaN
  · left
    unfold negc
    rw [cn_of_not (by rw [decode_neg, opp_nan]; exact h)]
    exact Zw.refl _ _
  · exact .inr rfl

theorem Zw.neg {k : FloatKind} {x x' : Nat} (hx : Zw k x x') : Zw k (negc k x) (negc k x') := by
  have key : ∀ y, (k.decode y).isNaN = true → k.decode (negc k y) = k.decode (nanw k) := fun y h => by
    unfold negc
    rw [cn_of_nan (by rw [decode_neg, opp_nan]; exact h)]
  have hn : (k.decode x).isNaN = (k.decode x').isNaN := by
    rcases hx with h | ⟨s, t, p, h1, h2⟩
    · rw [h]
    · rw [h1, h2]; rfl
  cases h : (k.decode x).isNaN
  · unfold negc
    rw [cn_of_not (by rw [decode_neg, opp_nan]; exact h), cn_of_not (by rw [decode_neg, opp_nan, ← hn]; exact h)]
    unfold Zw
    rw [decode_neg, decode_neg]
    exact Zd.opp hx
  · unfold Zw
    rw [key x h, key x' (by rw [← hn]; exact h)]
    exact Zd.refl _

theorem Zw.lesser {x x' y y' : Nat} (hx : Zw .f32 x x') (hy : Zw .f32 y y') : Zw .f32 (lesserF x y) (lesserF x' y') := by
  unfold lesserF
  rw [Zw.ltk hy hx]
  split
  · exact hy
  · exact hx
theorem Zw.greater {x x' y y' : Nat} (hx : Zw .f32 x x') (hy : Zw .f32 y y') : Zw .f32 (greaterF x y) (greaterF x' y') := by
  unfold greaterF
  rw [Zw.gtk hy hx]
  split
  · exact hy
  · exact hx

/-- A function of a datum that takes all not-a-numbers to one. -/
theorem pick_dec {α : Type} {k : FloatKind} {x y : Nat} (h : k.decode x = k.decode y) (f : Datum → α) : f (k.decode x) = f (k.decode y) := by rw [h]

theorem Zw.wid {x x' : Nat} (hx : Zw .f32 x x') : Zw .f64 (wid x) (wid x') := by
  unfold Fl.wid
  rcases hx with h | ⟨s, t, p, h1, h2⟩
  · rw [h]; exact Zw.refl _ _
  · rw [h1, h2, if_neg nan_num, if_neg nan_num]
    exact Zd.write (.inr ⟨s, t, p, rfl, rfl⟩)
theorem Zw.nar {x x' : Nat} (hx : Zw .f64 x x') : Zw .f32 (nar x) (nar x') := by
  unfold Fl.nar
  rcases hx with h | ⟨s, t, p, h1, h2⟩
  · rw [h]; exact Zw.refl _ _
  · rw [h1, h2, if_neg nan_num, if_neg nan_num]
    exact Zd.write (.inr ⟨s, t, p, rfl, rfl⟩)
theorem Zw.sqr {x x' : Nat} (hx : Zw .f64 x x') : Zw .f64 (sqr x) (sqr x') := by
  have hs : ∀ y, Fl.sqr y = (((FloatKind.f64.decode y).root (FloatKind.f64.format.fractionBits + 2)).map FloatKind.f64.encode).getD (nanw .f64) := fun y => rfl
  rw [hs, hs]
  rcases hx with h | ⟨s, t, p, h1, h2⟩
  · rw [h]; exact Zw.refl _ _
  · rw [h1, h2]
    exact Zo.write (d := some (.number s 0 p)) (d' := some (.number t 0 p)) (.inr ⟨s, t, p, rfl, rfl⟩)
theorem Zw.whole {x x' : Nat} (hx : Zw .f64 x x') : Zw .f64 (whole .even x) (whole .even x') := by
  rcases hx with h | ⟨s, t, p, h1, h2⟩
  · unfold Fl.whole; rw [h]; exact Zw.refl _ _
  · rw [whole_num _ h1, whole_num _ h2, cut_rnd, cut_rnd, ← enc64, ← enc64]
    have : rnd (0 <<< p.toNat) (-p).toNat = 0 := by
      have := rnd_le (n := 0 <<< p.toNat) (q := 0) (d := (-p).toNat) (by rw [Nat.zero_shiftLeft]; exact Nat.zero_le _)
      omega
    rw [this]
    exact Zd.write (.inr ⟨s, t, 0, rfl, rfl⟩)

theorem Zw.root {x x' : Nat} (hx : Zw .f32 x x') : Zw .f32 (rootF x) (rootF x') := hx.wid.sqr.nar
theorem Zw.near {x x' : Nat} (hx : Zw .f32 x x') : Zw .f32 (nearF x) (nearF x') := hx.wid.whole.nar
theorem Zw.inner {a b c d e f a' b' c' d' e' f' : Nat} (h1 : Zw .f32 a a') (h2 : Zw .f32 b b') (h3 : Zw .f32 c c') (h4 : Zw .f32 d d') (h5 : Zw .f32 e e') (h6 : Zw .f32 f f') : Zw .f32 (innerF a b c d e f) (innerF a' b' c' d' e' f') :=
  ((h1.mul h4).add (h2.mul h5)).add (h3.mul h6)
theorem Zw.long {a b c a' b' c' : Nat} (h1 : Zw .f32 a a') (h2 : Zw .f32 b b') (h3 : Zw .f32 c c') : Zw .f32 (longF a b c) (longF a' b' c') :=
  (Zw.inner h1 h2 h3 h1 h2 h3).root

/-- 0 - x is the opposite of x, where x is less than 0. -/
theorem sub_neg {x : Nat} (h : ltk .f32 x 0 = true) : Zw .f32 (negc .f32 x) (B .sub 0 x) := by
  have h0 : FloatKind.f32.decode 0 = .number false 0 (-149) := by decide +kernel
  have hord : FloatKind.f32.format.order x 0 = (FloatKind.f32.decode x).order (.number false 0 (-149)) := by rw [← h0]; rfl
  have hnd : ∀ (hn : (FloatKind.f32.decode x).isNaN = false), FloatKind.f32.decode (negc .f32 x) = (FloatKind.f32.decode x).opposite := fun hn => by
    unfold negc
    rw [cn_of_not (by rw [decode_neg, opp_nan]; exact hn), decode_neg]
  unfold Fl.ltk at h
  rw [hord] at h
  cases hx : FloatKind.f32.decode x with
  | nan s t => rw [hx] at h; cases h
  | infinity s =>
    cases s
    · rw [hx] at h; cases h
    · unfold Zw
      rw [hnd (by rw [hx]; rfl), hx]
      show Zd _ (FloatKind.f32.decode (bin .sub .f32 0 x))
      rw [bin_sub, hx, h0]
      have : FloatKind.f32.decode (((Datum.sum (.number false 0 (-149)) (Datum.opposite (.infinity true))).map FloatKind.f32.encode).getD (nanw .f32)) = .infinity false := by decide +kernel
      rw [this]
      exact Zd.refl _
  | number s m e =>
    obtain ⟨hm24, he, he2⟩ := read_single hx
    rw [hx, order_val _ _ _ _ (by omega) (by omega)] at h
    have hlt : sval s m e < sval false 0 (-149) := cmp_lt.1 (by simpa using h)
    have hs0 : sval false 0 (-149) = 0 := by unfold sval; simp [val_zero.2]
    rw [hs0] at hlt
    have hs : s = true := by
      cases s
      · unfold sval at hlt; simp only [Bool.false_eq_true, if_false] at hlt; omega
      · rfl
    subst hs
    have hm : m ≠ 0 := fun hz => by
      unfold sval at hlt
      rw [val_zero.2 hz] at hlt
      simp at hlt
    obtain ⟨r, hr, hrm, hall, -⟩ := rtS hx
    unfold Zw
    rw [hnd (by rw [hx]; rfl), hx]
    show Zd (.number false m e) (FloatKind.f32.decode (bin .sub .f32 0 x))
    have hb : bin .sub .f32 0 x = single.nearest false m e := by
      rw [bin_sub, hx, h0]
      have hmin : min (-149) e = -149 := by omega
      show single.nearest (if signed false 0 (-149 - min (-149) e).toNat + signed false m (e - min (-149) e).toNat = 0 then false && false else decide (signed false 0 (-149 - min (-149) e).toNat + signed false m (e - min (-149) e).toNat < 0)) (signed false 0 (-149 - min (-149) e).toNat + signed false m (e - min (-149) e).toNat).natAbs (min (-149) e) = _
      rw [hmin, signed_zero, Int.zero_add, natAbs_signed]
      have hp := natAbs_signed false m (e - -149).toNat
      have hpos := Nat.mul_pos (Nat.pos_of_ne_zero hm) (pow_pos2 (e - -149).toNat)
      have h9 : signed false m (e - -149).toNat = ((m <<< (e - -149).toNat : Nat) : Int) := rfl
      have hne : signed false m (e - -149).toNat ≠ 0 := fun h' => by rw [h'] at hp; simp at hp; omega
      have hneg : decide (signed false m (e - -149).toNat < 0) = false := by
        rw [h9]
        generalize m <<< (e - -149).toNat = X
        exact decide_eq_false (by omega)
      rw [if_neg hne, hneg]
      have := nearest_shift single false hm (e - -149).toNat e
      rw [show e - ((e - -149).toNat : Int) = -149 by omega] at this
      exact this
    rw [hb, (hall false).1]
    show Zd _ (single.read _)
    rw [(hall false).2]
    exact Zd.refl _
end Go.Fl
