/-
  Plain law: how free a place is, told twice.
-/
import Derived.Test.YtdbpgblhnhdhoaaGreatX4
import Derived.Test.YtdbpgblhnhdhoaaGreatGO
set_option linter.unusedVariables false
set_option linter.unusedSimpArgs false
namespace Go.Proofs.YtdbpgblhnhdhoaaGreat
open Go.RowKit Go.Fl Ieee

theorem cmp_swap (a b : Int) : (some (compare a b) == some Ordering.lt) = (some (compare b a) == some Ordering.gt) := by
  have h : compare a b = .lt ↔ compare b a = .gt := by rw [Ft.cmp_lt, Ft.cmp_gt]
  cases h1 : compare a b <;> cases h2 : compare b a <;> simp_all

theorem order_turn (d e : Datum) : (d.order e == some .lt) = (e.order d == some .gt) := by
  cases d with
  | nan s t => cases e <;> rfl
  | infinity s =>
    cases e with
    | nan u v => cases s <;> rfl
    | infinity u => cases s <;> cases u <;> rfl
    | number u n j => cases s <;> rfl
  | number s m i =>
    cases e with
    | nan u v => rfl
    | infinity u => cases u <;> rfl
    | number u n j =>
      show (some (compare _ _) == some Ordering.lt) = (some (compare _ _) == some Ordering.gt)
      rw [cmp_swap, Int.min_comm]

theorem cap_same (x : Nat) : capF x = capS x := by
  unfold capF capS lesserF
  have h : ltk .f32 (cn .f32 1065353216) x = gtk .f32 x (cn .f32 1065353216) := order_turn _ _
  rw [h]

theorem zw_cap {x x' : Nat} (h : Zw .f32 x x') : Zw .f32 (capF x) (capS x') := by
  rw [← cap_same]; exact Zw.lesser h (Zw.refl _ _)

theorem zw_amb {d d' : Nat} (h : Zw .f32 d d') (f : Nat) : Zw .f32 (ambX d f) (ambX d' f) := by
  have hq := Zw.quo (Zw.sub (Zw.refl .f32 f) h) f
  unfold ambX
  have hg : gek .f32 (B .quo (B .sub f d) f) 0 = gek .f32 (B .quo (B .sub f d') f) 0 := by unfold gek; rw [Zw.order hq (Zw.refl _ 0)]
  rw [hg]
  split
  · exact hq
  · exact Zw.refl _ _

theorem amb_go {D D' : Nat × Nat × Nat → Nat} (hD : ∀ q, Zw .f32 (D q) (D' q)) (p n : Nat × Nat × Nat) (st : Nat) : ∀ (m j s s' : Nat), Zw .f32 s s' → Zw .f32 (ambGo D capF p n st m j s) (ambGo D' capS p n st m j s')
  | 0, _, _, _, h => h
  | m + 1, j, s, s', h => by
    rw [ambGo, ambGo]
    exact amb_go hD p n st m (j + 1) _ _ (Zw.add h (zw_cap (zw_amb (hD _) _)))

theorem one_sub {y y' : Nat} (h : Zw .f32 y y') : B .sub (cn .f32 1065353216) y = B .sub (cn .f32 1065353216) y' := by
  rw [B, B, bin_sub, bin_sub]
  rcases h with h | ⟨s, t, p, h, h'⟩
  · rw [h]
  · have hp := zero_place h
    subst hp
    rw [h, h']
    cases s <;> cases t <;> first | rfl | kernel_rfl

theorem amb_same (ns : List PN) (p n : Nat × Nat × Nat) (st : Nat) (c : Int) :
    (if ambOk (validS ns) st c then ambAll (atS ns) capS p n st c.toNat else 0) = (if ambOk (validF ns) st c then ambAll (topF ns) capF p n st c.toNat else 0) := by
  rw [valid_same]
  cases hv : validF ns
  · rfl
  · have ht := tree_of hv
    have : ambAll (atS ns) capS p n st c.toNat = ambAll (topF ns) capF p n st c.toNat := by
      unfold ambAll
      exact (one_sub (Zw.quo (amb_go (fun q => top_same ht q) p n st _ _ _ _ (Zw.refl _ _)) _)).symm
    rw [this]
end Go.Proofs.YtdbpgblhnhdhoaaGreat
