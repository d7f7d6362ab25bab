/-
  Plain law: a march, told twice.
-/
import Derived.Test.YtdbpgblhnhdhoaaGreatY11
import Derived.Test.YtdbpgblhnhdhoaaGreatGO
import Derived.Test.YtdbpgblhnhdhoaaGreatGR
set_option linter.unusedVariables false
set_option linter.unusedSimpArgs false
namespace Go.Proofs.YtdbpgblhnhdhoaaGreat
open Go.RowKit Go.Fl Ieee

theorem cmp_swap2 (a b : Int) : (some (compare a b) == some Ordering.lt) = (some (compare b a) == some Ordering.gt) := by
  have h : compare a b = .lt ↔ compare b a = .gt := by rw [Ft.cmp_lt, Ft.cmp_gt]
  cases h1 : compare a b <;> cases h2 : compare b a <;> simp_all

theorem order_turn2 (d e : Datum) : (d.order e == some .lt) = (e.order d == some .gt) := by
  cases d with
  | nan s t => cases e <;> rfl
  | infinity s =>
    cases e with
    | nan u v => cases s <;> rfl
    | infinity u => cases s <;> cases u <;> rfl
    | number u n j => cases s <;> rfl
  | number s m i =>
    cases e with
    | nan u v => rfl
    | infinity u => cases u <;> rfl
    | number u n j =>
      show (some (compare _ _) == some Ordering.lt) = (some (compare _ _) == some Ordering.gt)
      rw [cmp_swap2, Int.min_comm]

theorem order_some {d e : Datum} (hd : d.isNaN = false) (he : e.isNaN = false) : ∃ o, d.order e = some o := by
  cases d <;> cases e <;> first | exact ⟨_, rfl⟩ | (cases hd; done) | (cases he; done)

/-- Not farther than a number. -/
theorem le_cond {m : Nat} (hm : (FloatKind.f32.decode m).isNaN = false) (a : Nat) : (gtk .f32 a m || !eqk .f32 a a) = !lek .f32 a m := by
  unfold gtk eqk lek
  cases ha : (FloatKind.f32.decode a).isNaN
  · rw [order_self ha]
    obtain ⟨o, ho⟩ := order_some ha hm
    have ho' : FloatKind.f32.format.order a m = some o := ho
    rw [ho']
    cases o <;> rfl
  · have h1 : FloatKind.f32.format.order a m = none := order_nan_l ha
    have h2 : FloatKind.f32.format.order a a = none := order_nan_l ha
    rw [h1, h2]
    rfl

theorem near_zero {x near : Nat} {s : Bool} {p : Int} (hx : FloatKind.f32.decode x = .number s 0 p) (hn : gtk .f32 near 0 = true) : ltk .f32 x near = true := by
  have hp := zero_place hx
  subst hp
  have h0 : Zw .f32 x 0 := Or.inr ⟨s, false, _, hx, by kernel_rfl⟩
  rw [Zw.ltk h0 (Zw.refl _ _)]
  have : ltk .f32 0 near = gtk .f32 near 0 := order_turn2 _ _
  rw [this, hn]

theorem march_same {D D' : Nat × Nat × Nat → Nat} (hD : ∀ q, Zw .f32 (D q) (D' q)) (f t : Nat × Nat × Nat) (sl : Nat) {near most : Nat} (hn : gtk .f32 near 0 = true) (hm : (FloatKind.f32.decode most).isNaN = false) :
    ∀ (m k far : Nat), marchGs D' f t sl near most m k far = marchGo D f t sl near most m k far
  | 0, _, _ => rfl
  | m + 1, k, far => by
    rw [marchGs, marchGo, Zw.ltk (hD _) (Zw.refl _ near)]
    cases hl : ltk .f32 (D' (onF f t far)) near
    · have he : B .quo (D (onF f t far)) sl = B .quo (D' (onF f t far)) sl := by
        rcases hD (onF f t far) with h | ⟨s, u, p, h, h'⟩
        · rw [B, B, bin_quo, bin_quo, h]
        · rw [near_zero h' hn] at hl; cases hl
      rw [he, le_cond hm, march_same hD f t sl hn hm]
      cases lek .f32 (B .add far (B .quo (D' (onF f t far)) sl)) most <;> rfl
    · rfl

theorem mar_parts {near most : Nat} {n : Int} (h : marOk near most n = true) : gtk .f32 near 0 = true ∧ (FloatKind.f32.decode most).isNaN = false := by
  unfold marOk rightP at h
  simp only [Bool.and_eq_true] at h
  refine ⟨h.1.1.1.2, ?_⟩
  cases hn : (FloatKind.f32.decode most).isNaN
  · rfl
  · have h1 : FloatKind.f32.format.order most 0 = none := order_nan_l hn
    have := h.1.2
    unfold gtk eqk at this
    rw [h1] at this
    cases this

theorem mr_same (ns : List PN) (f t : Nat × Nat × Nat) (near most : Nat) (n : Int) :
    mrOk (validS ns) f t near most n = mrOk (validF ns) f t near most n ∧ mrV (mrOk (validF ns) f t near most n) f t (marchGs (atS ns) f t (slopeF ns) near most n.toNat 1 0) = mrV (mrOk (validF ns) f t near most n) f t (marchGo (topF ns) f t (slopeF ns) near most n.toNat 1 0) := by
  rw [valid_same]
  refine ⟨rfl, ?_⟩
  cases hk : mrOk (validF ns) f t near most n
  · rfl
  · unfold mrOk at hk
    simp only [Bool.and_eq_true] at hk
    obtain ⟨h1, h2⟩ := mar_parts hk.2
    rw [march_same (fun q => top_same (tree_of hk.1.1) q) f t (slopeF ns) h1 h2]
end Go.Proofs.YtdbpgblhnhdhoaaGreat
