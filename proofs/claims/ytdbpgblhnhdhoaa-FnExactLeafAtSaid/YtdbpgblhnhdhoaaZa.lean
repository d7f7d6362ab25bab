/-
  Plain law: two words that differ at most in the sign of a zero, and what the operations make of them.
-/
import Derived.Test.YtdbpgblhnhdhoaaTc
set_option linter.unusedVariables false
set_option linter.unusedSimpArgs false
namespace Go.Fl
open Go Go.RowKit Go.Ft Ieee

/-- The same datum, or two zeros. -/
def Zd (d d' : Datum) : Prop := d = d' ∨ ∃ s t p, d = .number s 0 p ∧ d' = .number t 0 p
/-- .. of words. -/
def Zw (k : FloatKind) (x y : Nat) : Prop := Zd (k.decode x) (k.decode y)
/-- .. of results. -/
def Zo : Option Datum → Option Datum → Prop
  | none, none => True
  | some d, some d' => Zd d d'
  | _, _ => False

theorem Zd.refl (d : Datum) : Zd d d := .inl rfl
theorem Zw.refl (k : FloatKind) (x : Nat) : Zw k x x := .inl rfl
theorem Zo.refl : ∀ d, Zo d d
  | none => trivial
  | some d => Zd.refl d
theorem Zd.symm {d d' : Datum} (h : Zd d d') : Zd d' d := by
  rcases h with h | ⟨s, t, p, h1, h2⟩
  · exact .inl h.symm
  · exact .inr ⟨t, s, p, h2, h1⟩
theorem Zd.trans {a b c : Datum} (h : Zd a b) (h' : Zd b c) : Zd a c := by
  rcases h with rfl | ⟨s, t, p, rfl, rfl⟩
  · exact h'
  · rcases h' with rfl | ⟨s', t', p', h1, rfl⟩
    · exact .inr ⟨s, t, p, rfl, rfl⟩
    · injection h1 with _ _ h3
      subst h3
      exact .inr ⟨s, t', p, rfl, rfl⟩

theorem signed_zero (s : Bool) (k : Nat) : signed s 0 k = 0 := by unfold signed; simp

theorem Zd.opp {d d' : Datum} (h : Zd d d') : Zd d.opposite d'.opposite := by
  rcases h with rfl | ⟨s, t, p, rfl, rfl⟩
  · exact Zd.refl _
  · exact .inr ⟨!s, !t, p, rfl, rfl⟩

theorem sum_l {d d' : Datum} (h : Zd d d') (e : Datum) : Zo (d.sum e) (d'.sum e) := by
  rcases h with rfl | ⟨s, t, p, rfl, rfl⟩
  · exact Zo.refl _
  · cases e with
    | nan u v => exact trivial
    | infinity u => exact Zd.refl _
    | number u n j =>
      show Zd (.number (if signed s 0 (p - min p j).toNat + signed u n (j - min p j).toNat = 0 then s && u else decide (signed s 0 (p - min p j).toNat + signed u n (j - min p j).toNat < 0)) (signed s 0 (p - min p j).toNat + signed u n (j - min p j).toNat).natAbs (min p j))
        (.number (if signed t 0 (p - min p j).toNat + signed u n (j - min p j).toNat = 0 then t && u else decide (signed t 0 (p - min p j).toNat + signed u n (j - min p j).toNat < 0)) (signed t 0 (p - min p j).toNat + signed u n (j - min p j).toNat).natAbs (min p j))
      rw [signed_zero, signed_zero, Int.zero_add]
      by_cases h0 : signed u n (j - min p j).toNat = 0
      · rw [h0, if_pos rfl, if_pos rfl]
        exact .inr ⟨_, _, _, rfl, rfl⟩
      · rw [if_neg h0, if_neg h0]
        exact Zd.refl _

theorem sum_r {d d' : Datum} (h : Zd d d') (e : Datum) : Zo (e.sum d) (e.sum d') := by
  rcases h with rfl | ⟨s, t, p, rfl, rfl⟩
  · exact Zo.refl _
  · cases e with
    | nan u v => exact trivial
    | infinity u => exact Zd.refl _
    | number u n j =>
      show Zd (.number (if signed u n (j - min j p).toNat + signed s 0 (p - min j p).toNat = 0 then u && s else decide (signed u n (j - min j p).toNat + signed s 0 (p - min j p).toNat < 0)) (signed u n (j - min j p).toNat + signed s 0 (p - min j p).toNat).natAbs (min j p))
        (.number (if signed u n (j - min j p).toNat + signed t 0 (p - min j p).toNat = 0 then u && t else decide (signed u n (j - min j p).toNat + signed t 0 (p - min j p).toNat < 0)) (signed u n (j - min j p).toNat + signed t 0 (p - min j p).toNat).natAbs (min j p))
      rw [signed_zero, signed_zero, Int.add_zero]
      by_cases h0 : signed u n (j - min j p).toNat = 0
      · rw [h0, if_pos rfl, if_pos rfl]
        exact .inr ⟨_, _, _, rfl, rfl⟩
      · rw [if_neg h0, if_neg h0]
        exact Zd.refl _

theorem prod_l {d d' : Datum} (h : Zd d d') (e : Datum) : Zo (d.product e) (d'.product e) := by
  rcases h with rfl | ⟨s, t, p, rfl, rfl⟩
  · exact Zo.refl _
  · cases e with
    | nan u v => exact trivial
    | infinity u => exact trivial
    | number u n j => exact .inr ⟨s ^^ u, t ^^ u, p + j, by show Datum.number _ (0 * n) _ = _; rw [Nat.zero_mul], by show Datum.number _ (0 * n) _ = _; rw [Nat.zero_mul]⟩

theorem prod_r {d d' : Datum} (h : Zd d d') (e : Datum) : Zo (e.product d) (e.product d') := by
  rcases h with rfl | ⟨s, t, p, rfl, rfl⟩
  · exact Zo.refl _
  · cases e with
    | nan u v => exact trivial
    | infinity u => exact trivial
    | number u n j => exact .inr ⟨u ^^ s, u ^^ t, j + p, rfl, rfl⟩

theorem quot_l {d d' : Datum} (h : Zd d d') (k : Nat) (e : Datum) : Zo (d.quotient k e) (d'.quotient k e) := by
  rcases h with rfl | ⟨s, t, p, rfl, rfl⟩
  · exact Zo.refl _
  · cases e with
    | nan u v => exact trivial
    | infinity u => exact .inr ⟨s ^^ u, t ^^ u, 0, rfl, rfl⟩
    | number u n j =>
      by_cases hn : n = 0
      · subst hn; exact trivial
      · rw [quot_eq _ _ _ hn, quot_eq _ _ _ hn]
        refine .inr ⟨s ^^ u, t ^^ u, p - j - (k + n.log2 - (0 : Nat).log2 : Nat) - 1, ?_, ?_⟩
        all_goals
          simp only [Nat.zero_shiftLeft, Nat.zero_div, Nat.zero_mod]
          rfl

theorem order_l {d d' : Datum} (h : Zd d d') (e : Datum) : d.order e = d'.order e := by
  rcases h with rfl | ⟨s, t, p, rfl, rfl⟩
  · rfl
  · cases e with
    | nan u v => rfl
    | infinity u => rfl
    | number u n j =>
      show some (compare (signed s 0 _) _) = some (compare (signed t 0 _) _)
      rw [signed_zero, signed_zero]

theorem order_r {d d' : Datum} (h : Zd d d') (e : Datum) : e.order d = e.order d' := by
  rcases h with rfl | ⟨s, t, p, rfl, rfl⟩
  · rfl
  · cases e with
    | nan u v => rfl
    | infinity u => rfl
    | number u n j =>
      show some (compare _ (signed s 0 _)) = some (compare _ (signed t 0 _))
      rw [signed_zero, signed_zero]

theorem zero_word (k : FloatKind) (s : Bool) (p : Int) : k.decode (k.encode (.number s 0 p)) = .number s 0 k.format.leastPlace := by
  have : k.encode (.number s 0 p) = k.format.word s 0 := by
    show k.format.nearest s 0 p = _
    unfold Format.nearest
    rw [if_pos rfl]
  rw [this]
  cases k <;> cases s <;> decide +kernel

/-- What is written of the like is the like. -/
theorem Zd.write {k : FloatKind} {d d' : Datum} (h : Zd d d') : Zw k (k.encode d) (k.encode d') := by
  rcases h with rfl | ⟨s, t, p, rfl, rfl⟩
  · exact Zw.refl _ _
  · exact .inr ⟨s, t, _, zero_word k s p, zero_word k t p⟩

theorem Zo.write {k : FloatKind} : ∀ {d d' : Option Datum}, Zo d d' → Zw k ((d.map k.encode).getD (nanw k)) ((d'.map k.encode).getD (nanw k))
  | none, none, _ => Zw.refl _ _
  | some _, some _, h => Zd.write h
  | none, some _, h => h.elim
  | some _, none, h => h.elim

theorem bin_add (k : FloatKind) (x y : Nat) : bin .add k x y = (((k.decode x).sum (k.decode y)).map k.encode).getD (nanw k) := rfl
theorem bin_sub (k : FloatKind) (x y : Nat) : bin .sub k x y = (((k.decode x).sum (k.decode y).opposite).map k.encode).getD (nanw k) := rfl
theorem bin_mul (k : FloatKind) (x y : Nat) : bin .mul k x y = (((k.decode x).product (k.decode y)).map k.encode).getD (nanw k) := rfl
theorem bin_quo (k : FloatKind) (x y : Nat) : bin .quo k x y = (((k.decode x).quotient (k.format.fractionBits + 2) (k.decode y)).map k.encode).getD (nanw k) := rfl

theorem Zw.trans {k : FloatKind} {x y z : Nat} (h : Zw k x y) (h' : Zw k y z) : Zw k x z := Zd.trans h h'
theorem Zw.add {k : FloatKind} {x x' y y' : Nat} (hx : Zw k x x') (hy : Zw k y y') : Zw k (bin .add k x y) (bin .add k x' y') := by
  rw [bin_add, bin_add]
  exact Zw.trans (Zo.write (sum_l hx _)) (Zo.write (sum_r hy _))
theorem Zw.sub {k : FloatKind} {x x' y y' : Nat} (hx : Zw k x x') (hy : Zw k y y') : Zw k (bin .sub k x y) (bin .sub k x' y') := by
  rw [bin_sub, bin_sub]
  exact Zw.trans (Zo.write (sum_l hx _)) (Zo.write (sum_r hy.opp _))
theorem Zw.mul {k : FloatKind} {x x' y y' : Nat} (hx : Zw k x x') (hy : Zw k y y') : Zw k (bin .mul k x y) (bin .mul k x' y') := by
  rw [bin_mul, bin_mul]
  exact Zw.trans (Zo.write (prod_l hx _)) (Zo.write (prod_r hy _))
theorem Zw.quo {k : FloatKind} {x x' : Nat} (hx : Zw k x x') (y : Nat) : Zw k (bin .quo k x y) (bin .quo k x' y) := by
  rw [bin_quo, bin_quo]
  exact Zo.write (quot_l hx _ _)
theorem Zw.order {k : FloatKind} {x x' y y' : Nat} (hx : Zw k x x') (hy : Zw k y y') : k.format.order x y = k.format.order x' y' :=
  (order_l hx _).trans (order_r hy _)
theorem Zw.ltk {k : FloatKind} {x x' y y' : Nat} (hx : Zw k x x') (hy : Zw k y y') : ltk k x y = ltk k x' y' := by unfold Fl.ltk; rw [Zw.order hx hy]
theorem Zw.gtk {k : FloatKind} {x x' y y' : Nat} (hx : Zw k x x') (hy : Zw k y y') : gtk k x y = gtk k x' y' := by unfold Fl.gtk; rw [Zw.order hx hy]

theorem decode_negc (k : FloatKind) (x : Nat) : Zw k (negc k x) (Op.negFloat k x) ∨ (k.decode x).isNaN = true := by
  cases h : (k.decode x).isNaN
  · left
    unfold negc
    rw [cn_of_not (by rw [decode_neg, opp_nan]; exact h)]
    exact Zw.refl _ _
  · exact .inr rfl

theorem Zw.neg {k : FloatKind} {x x' : Nat} (hx : Zw k x x') : Zw k (negc k x) (negc k x') := by
  have key : ∀ y, (k.decode y).isNaN = true → k.decode (negc k y) = k.decode (nanw k) := fun y h => by
    unfold negc
    rw [cn_of_nan (by rw [decode_neg, opp_nan]; exact h)]
  have hn : (k.decode x).isNaN = (k.decode x').isNaN := by
    rcases hx with h | ⟨s, t, p, h1, h2⟩
    · rw [h]
    · rw [h1, h2]; rfl
  cases h : (k.decode x).isNaN
  · unfold negc
    rw [cn_of_not (by rw [decode_neg, opp_nan]; exact h), cn_of_not (by rw [decode_neg, opp_nan, ← hn]; exact h)]
    unfold Zw
    rw [decode_neg, decode_neg]
    exact Zd.opp hx
  · unfold Zw
    rw [key x h, key x' (by rw [← hn]; exact h)]
    exact Zd.refl _

theorem Zw.lesser {x x' y y' : Nat} (hx : Zw .f32 x x') (hy : Zw .f32 y y') : Zw .f32 (lesserF x y) (lesserF x' y') := by
  unfold lesserF
  rw [Zw.ltk hy hx]
  split
  · exact hy
  · exact hx
theorem Zw.greater {x x' y y' : Nat} (hx : Zw .f32 x x') (hy : Zw .f32 y y') : Zw .f32 (greaterF x y) (greaterF x' y') := by
  unfold greaterF
  rw [Zw.gtk hy hx]
  split
  · exact hy
  · exact hx

/-- A function of a datum that takes all not-a-numbers to one. -/
theorem pick_dec {α : Type} {k : FloatKind} {x y : Nat} (h : k.decode x = k.decode y) (f : Datum → α) : f (k.decode x) = f (k.decode y) := by rw [h]

theorem Zw.wid {x x' : Nat} (hx : Zw .f32 x x') : Zw .f64 (wid x) (wid x') := by
  unfold Fl.wid
  rcases hx with h | ⟨s, t, p, h1, h2⟩
  · rw [h]; exact Zw.refl _ _
  · rw [h1, h2, if_neg nan_num, if_neg nan_num]
    exact Zd.write (.inr ⟨s, t, p, rfl, rfl⟩)
theorem Zw.nar {x x' : Nat} (hx : Zw .f64 x x') : Zw .f32 (nar x) (nar x') := by
  unfold Fl.nar
  rcases hx with h | ⟨s, t, p, h1, h2⟩
  · rw [h]; exact Zw.refl _ _
  · rw [h1, h2, if_neg nan_num, if_neg nan_num]
    exact Zd.write (.inr ⟨s, t, p, rfl, rfl⟩)
theorem Zw.sqr {x x' : Nat} (hx : Zw .f64 x x') : Zw .f64 (sqr x) (sqr x') := by
  have hs : ∀ y, Fl.sqr y = (((FloatKind.f64.decode y).root (FloatKind.f64.format.fractionBits + 2)).map FloatKind.f64.encode).getD (nanw .f64) := fun y => rfl
  rw [hs, hs]
  rcases hx with h | ⟨s, t, p, h1, h2⟩
  · rw [h]; exact Zw.refl _ _
  · rw [h1, h2]
    exact Zo.write (d := some (.number s 0 p)) (d' := some (.number t 0 p)) (.inr ⟨s, t, p, rfl, rfl⟩)
theorem Zw.whole {x x' : Nat} (hx : Zw .f64 x x') : Zw .f64 (whole .even x) (whole .even x') := by
  rcases hx with h | ⟨s, t, p, h1, h2⟩
  · unfold Fl.whole; rw [h]; exact Zw.refl _ _
  · rw [whole_num _ h1, whole_num _ h2, cut_rnd, cut_rnd, ← enc64, ← enc64]
    have : rnd (0 <<< p.toNat) (-p).toNat = 0 := by
      have := rnd_le (n := 0 <<< p.toNat) (q := 0) (d := (-p).toNat) (by rw [Nat.zero_shiftLeft]; exact Nat.zero_le _)
      omega
    rw [this]
    exact Zd.write (.inr ⟨s, t, 0, rfl, rfl⟩)

theorem Zw.root {x x' : Nat} (hx : Zw .f32 x x') : Zw .f32 (rootF x) (rootF x') := hx.wid.sqr.nar
theorem Zw.near {x x' : Nat} (hx : Zw .f32 x x') : Zw .f32 (nearF x) (nearF x') := hx.wid.whole.nar
theorem Zw.inner {a b c d e f a' b' c' d' e' f' : Nat} (h1 : Zw .f32 a a') (h2 : Zw .f32 b b') (h3 : Zw .f32 c c') (h4 : Zw .f32 d d') (h5 : Zw .f32 e e') (h6 : Zw .f32 f f') : Zw .f32 (innerF a b c d e f) (innerF a' b' c' d' e' f') :=
  ((h1.mul h4).add (h2.mul h5)).add (h3.mul h6)
theorem Zw.long {a b c a' b' c' : Nat} (h1 : Zw .f32 a a') (h2 : Zw .f32 b b') (h3 : Zw .f32 c c') : Zw .f32 (longF a b c) (longF a' b' c') :=
  (Zw.inner h1 h2 h3 h1 h2 h3).root

/-- 0 - x is the opposite of x, where x is less than 0. -/
theorem sub_neg {x : Nat} (h : ltk .f32 x 0 = true) : Zw .f32 (negc .f32 x) (B .sub 0 x) := by
  have h0 : FloatKind.f32.decode 0 = .number false 0 (-149) := by decide +kernel
  have hord : FloatKind.f32.format.order x 0 = (FloatKind.f32.decode x).order (.number false 0 (-149)) := by rw [← h0]; rfl
  have hnd : ∀ (hn : (FloatKind.f32.decode x).isNaN = false), FloatKind.f32.decode (negc .f32 x) = (FloatKind.f32.decode x).opposite := fun hn => by
    unfold negc
    rw [cn_of_not (by rw [decode_neg, opp_nan]; exact hn), decode_neg]
  unfold Fl.ltk at h
  rw [hord] at h
  cases hx : FloatKind.f32.decode x with
  | nan s t => rw [hx] at h; cases h
  | infinity s =>
    cases s
    · rw [hx] at h; cases h
    · unfold Zw
      rw [hnd (by rw [hx]; rfl), hx]
      show Zd _ (FloatKind.f32.decode (bin .sub .f32 0 x))
      rw [bin_sub, hx, h0]
      have : FloatKind.f32.decode (((Datum.sum (.number false 0 (-149)) (Datum.opposite (.infinity true))).map FloatKind.f32.encode).getD (nanw .f32)) = .infinity false := by decide +kernel
      rw [this]
      exact Zd.refl _
  | number s m e =>
    obtain ⟨hm24, he, he2⟩ := read_single hx
    rw [hx, order_val _ _ _ _ (by omega) (by omega)] at h
    have hlt : sval s m e < sval false 0 (-149) := cmp_lt.1 (by simpa using h)
    have hs0 : sval false 0 (-149) = 0 := by unfold sval; simp [val_zero.2]
    rw [hs0] at hlt
    have hs : s = true := by
      cases s
      · unfold sval at hlt; simp only [Bool.false_eq_true, if_false] at hlt; omega
      · rfl
    subst hs
    have hm : m ≠ 0 := fun hz => by
      unfold sval at hlt
      rw [val_zero.2 hz] at hlt
      simp at hlt
    obtain ⟨r, hr, hrm, hall, -⟩ := rtS hx
    unfold Zw
    rw [hnd (by rw [hx]; rfl), hx]
    show Zd (.number false m e) (FloatKind.f32.decode (bin .sub .f32 0 x))
    have hb : bin .sub .f32 0 x = single.nearest false m e := by
      rw [bin_sub, hx, h0]
      have hmin : min (-149) e = -149 := by omega
      show single.nearest (if signed false 0 (-149 - min (-149) e).toNat + signed false m (e - min (-149) e).toNat = 0 then false && false else decide (signed false 0 (-149 - min (-149) e).toNat + signed false m (e - min (-149) e).toNat < 0)) (signed false 0 (-149 - min (-149) e).toNat + signed false m (e - min (-149) e).toNat).natAbs (min (-149) e) = _
      rw [hmin, signed_zero, Int.zero_add, natAbs_signed]
      have hp := natAbs_signed false m (e - -149).toNat
      have hpos := Nat.mul_pos (Nat.pos_of_ne_zero hm) (pow_pos2 (e - -149).toNat)
      have h9 : signed false m (e - -149).toNat = ((m <<< (e - -149).toNat : Nat) : Int) := rfl
      have hne : signed false m (e - -149).toNat ≠ 0 := fun h' => by rw [h'] at hp; simp at hp; omega
      have hneg : decide (signed false m (e - -149).toNat < 0) = false := by
        rw [h9]
        generalize m <<< (e - -149).toNat = X
        exact decide_eq_false (by omega)
      rw [if_neg hne, hneg]
      have := nearest_shift single false hm (e - -149).toNat e
      rw [show e - ((e - -149).toNat : Int) = -149 by omega] at this
      exact this
    rw [hb, (hall false).1]
    show Zd _ (single.read _)
    rw [(hall false).2]
    exact Zd.refl _
end Go.Fl
