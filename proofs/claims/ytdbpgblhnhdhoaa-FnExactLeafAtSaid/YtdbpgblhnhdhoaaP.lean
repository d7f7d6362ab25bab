/-
  The functions that the program computes, on words with one not-a-number.
-/
import Derived.Test.YtdbpgblhnhdhoaaFl
set_option linter.unusedVariables false
set_option linter.unusedSimpArgs false
namespace Go.Fl
open Go Go.RowKit

/-- x < y, at words. -/
def ltk (k : FloatKind) (x y : Nat) : Bool := k.format.order x y == some .lt
def gtk (k : FloatKind) (x y : Nat) : Bool := k.format.order x y == some .gt
def eqk (k : FloatKind) (x y : Nat) : Bool := k.format.order x y == some .eq
theorem ltk_cn (k : FloatKind) (x y : Nat) : ltk k (cn k x) (cn k y) = ltk k x y := by unfold ltk; rw [order_cn]
theorem gtk_cn (k : FloatKind) (x y : Nat) : gtk k (cn k x) (cn k y) = gtk k x y := by unfold gtk; rw [order_cn]
theorem eqk_cn (k : FloatKind) (x y : Nat) : eqk k (cn k x) (cn k y) = eqk k x y := by unfold eqk; rw [order_cn]

theorem xor_mod (x n : Nat) : (x ^^^ 2 ^ n) % 2 ^ n = x % 2 ^ n := by rw [Nat.xor_mod_two_pow]; simp
theorem xor_div (x n : Nat) : (x ^^^ 2 ^ n) / 2 ^ n % 2 = (x / 2 ^ n + 1) % 2 := by
  have h : (x ^^^ 2 ^ n).testBit n = !x.testBit n := by simp [Nat.testBit_xor]
  rw [Nat.testBit_eq_decide_div_mod_eq, Nat.testBit_eq_decide_div_mod_eq] at h
  have h1 : (x ^^^ 2 ^ n) / 2 ^ n % 2 < 2 := Nat.mod_lt _ (by decide)
  have h2 : x / 2 ^ n % 2 < 2 := Nat.mod_lt _ (by decide)
  by_cases e : x / 2 ^ n % 2 = 1
  · have : ¬ (x ^^^ 2 ^ n) / 2 ^ n % 2 = 1 := by simpa [e] using h
    omega
  · have : (x ^^^ 2 ^ n) / 2 ^ n % 2 = 1 := by simpa [e] using h
    omega

theorem decode_neg (k : FloatKind) (x : Nat) : k.decode (Op.negFloat k x) = (k.decode x).opposite := by
  have hs : k.format.signWeight = 2 ^ (k.format.exponentBits + k.format.fractionBits) := rfl
  show k.format.read (x ^^^ 2 ^ (k.format.exponentBits + k.format.fractionBits)) = _
  show _ = (k.format.read x).opposite
  unfold Ieee.Format.read
  rw [hs]
  simp only [xor_mod, xor_div]
  have hb : ((x / 2 ^ (k.format.exponentBits + k.format.fractionBits) + 1) % 2 == 1) = !(x / 2 ^ (k.format.exponentBits + k.format.fractionBits) % 2 == 1) := by
    rw [Bool.eq_iff_iff]; simp; omega
  rw [hb]
  split
  · rfl
  · split
    · rfl
    · split <;> rfl

/-- -x. -/
def negc (k : FloatKind) (x : Nat) : Nat := cn k (Op.negFloat k x)
theorem negc_cn (k : FloatKind) (x : Nat) : negc k (cn k x) = cn k (Op.negFloat k x) := by
  unfold negc
  cases h : (k.decode x).isNaN
  · rw [cn_of_not h]
  · rw [cn_of_nan (by rw [decode_neg, opp_nan, isNaN_cn]; exact h), cn_of_nan (by rw [decode_neg, opp_nan]; exact h)]

theorem cn_zero (k : FloatKind) : cn k 0 = 0 := by cases k <;> decide +kernel
theorem ord_r0 (k : FloatKind) (x : Nat) : k.format.order (cn k x) 0 = k.format.order x 0 := by have := order_cn k x 0; rwa [cn_zero] at this
theorem ord_l0 (k : FloatKind) (x : Nat) : k.format.order 0 (cn k x) = k.format.order 0 x := by have := order_cn k 0 x; rwa [cn_zero] at this

theorem gtk_of {x : Nat} {b : Bool} (h : (FloatKind.f32.format.order x 0 == some .gt) = b) : gtk .f32 (cn .f32 x) 0 = b := by unfold gtk; rw [ord_r0]; exact h
theorem ltk_of {x : Nat} {b : Bool} (h : (FloatKind.f32.format.order x 0 == some .lt) = b) : ltk .f32 (cn .f32 x) 0 = b := by unfold ltk; rw [ord_r0]; exact h

abbrev B (op : BinOp) (x y : Nat) : Nat := bin op .f32 x y

/-- impl -/
def sizeF (x : Nat) : Nat := if ltk .f32 x 0 then negc .f32 x else x
def lesserF (a b : Nat) : Nat := if ltk .f32 b a then b else a
def greaterF (a b : Nat) : Nat := if gtk .f32 b a then b else a
def shortF (y h : Nat) : Nat := B .sub y (lesserF (greaterF 0 y) h)
def innerF (a b c d e f : Nat) : Nat := B .add (B .add (B .mul a d) (B .mul b e)) (B .mul c f)
def rootF (x : Nat) : Nat := nar (sqr (wid x))
def longF (a b c : Nat) : Nat := rootF (innerF a b c a b c)
def bulgeF (h k : Nat) : Nat := if gtk .f32 h 0 then B .quo (B .mul h h) (B .mul 1082130432 k) else 0
def nearF (x : Nat) : Nat := nar (whole .even (wid x))
def foldF (c s : Nat) : Nat := B .mul (B .mul 1073741824 s) (nearF (B .quo c (B .mul 1073741824 s)))

/-- impl: leaves, mixes. -/
def ballF (x y z r : Nat) : Nat := B .sub (longF x y z) r
def boxF (x y z u v t : Nat) : Nat :=
  B .add (longF (greaterF 0 (B .sub (sizeF x) u)) (greaterF 0 (B .sub (sizeF y) v)) (greaterF 0 (B .sub (sizeF z) t)))
    (lesserF 0 (greaterF (greaterF (B .sub (sizeF x) u) (B .sub (sizeF y) v)) (B .sub (sizeF z) t)))
def tubeF (x y z h r : Nat) : Nat := B .sub (longF x (shortF y h) z) r
def ringF (x y z u r : Nat) : Nat := B .sub (longF (B .sub (longF x 0 z) u) y 0) r
def planeF (x y z a b c d : Nat) : Nat := B .sub (innerF x y z a b c) d
def smoothF (a b k : Nat) : Nat := if gtk .f32 (B .sub k (sizeF (B .sub a b))) 0 then B .sub (lesserF a b) (bulgeF (B .sub k (sizeF (B .sub a b))) k) else lesserF a b

abbrev D (op : BinOp) (x y : Nat) : Nat := bin op .f64 x y
def gek (k : FloatKind) (x y : Nat) : Bool := k.format.order x y == some .gt || k.format.order x y == some .eq
/-- |x|, as math.Abs has it. -/
def absW (x : Nat) : Nat := (Go.bits .andNot .u64 (x : Int) 9223372036854775808).toNat
/-- 2 k (2 k + 1), with k = 8 - n. -/
def facN (n : Nat) : Int := 2 * (8 - (n : Int)) * (2 * (8 - (n : Int)) + 1)
def polyF (u : Nat) : Nat → Nat
  | 0 => 4607182418800017408
  | n + 1 => D .sub 4607182418800017408 (D .quo (D .mul u (polyF u n)) (floatOfInt .f64 (facN n)))
def sin1 (f : Nat) : Nat := if eqk .f64 (whole .zero f) 0 then f else D .sub f (whole .zero f)
def sin2 (f : Nat) : Nat := if ltk .f64 (sin1 f) 0 then D .add (sin1 f) 4607182418800017408 else sin1 f
def sinT (f : Nat) : Bool := gek .f64 (sin2 f) 4602678819172646912
def sin3 (f : Nat) : Nat := if sinT f then D .sub (sin2 f) 4602678819172646912 else sin2 f
def sin4 (f : Nat) : Nat := if gtk .f64 (sin3 f) 4598175219545276416 then D .sub 4602678819172646912 (sin3 f) else sin3 f
def sinZ (f : Nat) : Nat := D .mul (sin4 f) 4618760256179416344
def sinO (f : Nat) : Nat := D .mul (sinZ f) (polyF (D .mul (sinZ f) (sinZ f)) 8)
def sinW (f : Nat) : Nat := if sinT f then negc .f64 (sinO f) else sinO f
def sineF (x : Nat) : Nat := if eqk .f32 (B .sub x x) 0 then (if gek .f64 (absW (wid x)) 4841369599423283200 then 0 else nar (sinW (wid x))) else nanw .f32

theorem fits_nan : fits (nanw .f64) := by
  intro s m e h
  have := nan_nanw .f64
  rw [h] at this
  cases this
theorem nar_nan : nar (nanw .f64) = nanw .f32 := by unfold nar; rw [nan_nanw]; rfl
theorem cn_ofInt (k : FloatKind) (n : Int) : cn k (floatOfInt k n) = floatOfInt k n := cn_enc (d := .number (n < 0) n.natAbs 0) rfl
theorem cn_c1 : cn .f64 4607182418800017408 = 4607182418800017408 := by decide +kernel
theorem cn_c2 : cn .f64 4602678819172646912 = 4602678819172646912 := by decide +kernel
theorem cn_c3 : cn .f64 4598175219545276416 = 4598175219545276416 := by decide +kernel
theorem cn_c4 : cn .f64 4618760256179416344 = 4618760256179416344 := by decide +kernel
theorem cn_c5 : cn .f64 4841369599423283200 = 4841369599423283200 := by decide +kernel
theorem cn_c6 : cn .f32 1048576000 = 1048576000 := by decide +kernel
theorem cn_c7 : cn .f32 1073741824 = 1073741824 := by decide +kernel
theorem cn_c8 : cn .f32 1082130432 = 1082130432 := by decide +kernel
theorem ord_c (k : FloatKind) (x : Nat) {c : Nat} (h : cn k c = c) : k.format.order (cn k x) c = k.format.order x c := by have := order_cn k x c; rwa [h] at this
theorem eqk_ne {k : FloatKind} {x : Nat} {b : Bool} (h : (k.format.order x 0 != some .eq) = b) : eqk k (cn k x) 0 = !b := by unfold eqk; rw [ord_r0, ← h, bne, Bool.not_not]
theorem ltk_of' {k : FloatKind} {x : Nat} {b : Bool} (h : (k.format.order x 0 == some .lt) = b) : ltk k (cn k x) 0 = b := by unfold ltk; rw [ord_r0]; exact h
theorem gtk_c {k : FloatKind} {x c : Nat} {b : Bool} (hc : cn k c = c) (h : (k.format.order x c == some .gt) = b) : gtk k (cn k x) c = b := by unfold gtk; rw [ord_c k x hc]; exact h
theorem gek_c {k : FloatKind} {x c : Nat} (hc : cn k c = c) : gek k (cn k x) c = (k.format.order x c == some .gt || k.format.order x c == some .eq) := by unfold gek; rw [ord_c k x hc]

def turn1 (t i j : Nat) : Nat := B .add (B .mul (sineF (B .sub 1048576000 t)) i) (B .mul (sineF t) j)
def turn2 (t i j : Nat) : Nat := B .sub (B .mul (sineF (B .sub 1048576000 t)) j) (B .mul (sineF t) i)
def foldedF (c s : Nat) : Nat := sizeF (B .sub c (foldF c s))

/-- A vector's result. -/
def RetV (x y z : Nat) (w : World) (e : Ending) (w' : World) : Prop :=
  ∃ a b c, e = .returned (.agg #[.float .f32 a, .float .f32 b, .float .f32 c]) ∧ cn .f32 a = x ∧ cn .f32 b = y ∧ cn .f32 c = z ∧ Below w.heap.size w w'
end Go.Fl
