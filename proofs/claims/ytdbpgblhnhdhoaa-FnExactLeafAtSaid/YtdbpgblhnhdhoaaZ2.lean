/-
  Plain law: what a node computes, told twice.
-/
import Derived.Test.YtdbpgblhnhdhoaaS13
import Derived.Test.YtdbpgblhnhdhoaaZa
set_option linter.unusedVariables false
set_option linter.unusedSimpArgs false
namespace Go.Proofs.Ytdbpgblhnhdhoaa
open Go.RowKit Go.Fl

theorem zero_place {x : Nat} {s : Bool} {e : Int} (h : FloatKind.f32.decode x = .number s 0 e) : e = -149 := by
  change Ieee.single.read x = _ at h
  unfold Ieee.Format.read at h
  simp only [bS, iS, sS, lpS] at h
  split at h
  · injection h with h1 h2 h3
    exact h3.symm
  · split at h
    · injection h with h1 h2 h3
      omega
    · split at h <;> cases h

theorem eq_zero {x : Nat} (h : FloatKind.f32.format.order x 0 = some .eq) : ∃ s, FloatKind.f32.decode x = .number s 0 (-149) := by
  have h0 : FloatKind.f32.decode 0 = .number false 0 (-149) := by decide +kernel
  change (FloatKind.f32.decode x).order (FloatKind.f32.decode 0) = _ at h
  rw [h0] at h
  cases hx : FloatKind.f32.decode x with
  | nan s t => rw [hx] at h; cases h
  | infinity s => rw [hx] at h; cases s <;> cases h
  | number s m e =>
    rw [hx] at h
    have h1 : some (compare (Ieee.signed s m (e - min e (-149)).toNat) (Ieee.signed false 0 (-149 - min e (-149)).toNat)) = some Ordering.eq := h
    have hm := abs_cmp0 (Option.some.inj h1)
    subst hm
    rw [zero_place hx]
    exact ⟨s, rfl⟩

theorem zw_size {x x' : Nat} (hx : Zw .f32 x x') : Zw .f32 (sizeF x) (sizeS x') := by
  have ho : FloatKind.f32.format.order x 0 = FloatKind.f32.format.order x' 0 := Zw.order hx (Zw.refl _ 0)
  unfold sizeF sizeS
  cases h : FloatKind.f32.format.order x 0 with
  | none =>
    have h1 : ltk .f32 x 0 = false := by unfold ltk; rw [h]; rfl
    have h2 : lek .f32 x' 0 = false := by unfold lek; rw [← ho, h]; rfl
    rw [h1, h2]; exact hx
  | some o =>
    cases o with
    | lt =>
      have h1 : ltk .f32 x 0 = true := by unfold ltk; rw [h]; rfl
      have h2 : lek .f32 x' 0 = true := by unfold lek; rw [← ho, h]; rfl
      rw [h1, h2]
      exact Zw.trans (sub_neg h1) (Zw.sub (Zw.refl _ _) hx)
    | eq =>
      have h1 : ltk .f32 x 0 = false := by unfold ltk; rw [h]; rfl
      have h2 : lek .f32 x' 0 = true := by unfold lek; rw [← ho, h]; rfl
      rw [h1, h2]
      obtain ⟨s, hd⟩ := eq_zero h
      have h3 : Zw .f32 x 0 := .inr ⟨s, false, -149, hd, by decide +kernel⟩
      have h4 : Zw .f32 0 (B .sub 0 0) := by
        have : B .sub 0 0 = 0 := by decide +kernel
        rw [this]; exact Zw.refl _ _
      have h5 : Zw .f32 x' x := Zd.symm hx
      exact Zw.trans h3 (Zw.trans h4 (Zw.sub (Zw.refl _ _) (Zd.symm (Zw.trans h5 h3))))
    | gt =>
      have h1 : ltk .f32 x 0 = false := by unfold ltk; rw [h]; rfl
      have h2 : lek .f32 x' 0 = false := by unfold lek; rw [← ho, h]; rfl
      rw [h1, h2]; exact hx

/-- Points that differ at most in signs of zeros. -/
def Zv (p q : Nat × Nat × Nat) : Prop := Zw .f32 p.1 q.1 ∧ Zw .f32 p.2.1 q.2.1 ∧ Zw .f32 p.2.2 q.2.2
theorem Zv.refl (p : Nat × Nat × Nat) : Zv p p := ⟨Zw.refl _ _, Zw.refl _ _, Zw.refl _ _⟩

theorem z_box {x y z x' y' z' : Nat} (h1 : Zw .f32 x x') (h2 : Zw .f32 y y') (h3 : Zw .f32 z z') (u v t : Nat) : Zw .f32 (boxF x y z u v t) (boxS x' y' z' u v t) := by
  have R := fun x => Zw.refl .f32 x
  have d := Zw.sub (zw_size h1) (R u)
  have e := Zw.sub (zw_size h2) (R v)
  have f := Zw.sub (zw_size h3) (R t)
  unfold boxF boxS
  change Zw .f32 (B .sub (sizeF x) u) (B .sub (sizeS x') u) at d
  change Zw .f32 (B .sub (sizeF y) v) (B .sub (sizeS y') v) at e
  change Zw .f32 (B .sub (sizeF z) t) (B .sub (sizeS z') t) at f
  generalize B .sub (sizeF x) u = a1 at *
  generalize B .sub (sizeF y) v = a2 at *
  generalize B .sub (sizeF z) t = a3 at *
  generalize B .sub (sizeS x') u = b1 at *
  generalize B .sub (sizeS y') v = b2 at *
  generalize B .sub (sizeS z') t = b3 at *
  exact Zw.add (Zw.long (Zw.greater (R 0) d) (Zw.greater (R 0) e) (Zw.greater (R 0) f)) (Zw.lesser (R 0) (Zw.greater (Zw.greater d e) f))

theorem z_ring {x y z x' y' z' : Nat} (h1 : Zw .f32 x x') (h2 : Zw .f32 y y') (h3 : Zw .f32 z z') (u r : Nat) : Zw .f32 (ringF x y z u r) (ringS x' y' z' u r) := by
  have i : Zw .f32 (B .sub (longF x 0 z) u) (B .sub (longF x' 0 z') u) := Zw.sub (Zw.long h1 (Zw.refl .f32 0) h3) (Zw.refl .f32 u)
  unfold ringF ringS
  generalize B .sub (longF x 0 z) u = a1 at *
  generalize B .sub (longF x' 0 z') u = b1 at *
  exact Zw.sub (Zw.long i h2 (Zw.refl .f32 0)) (Zw.refl .f32 r)

theorem z_leaf {n : PN} (hok : n.ok) (hc : (ruleF n.kind).2.1 = 0) {p q : Nat × Nat × Nat} (hp : Zv p q) : Zw .f32 (leafF n p.1 p.2.1 p.2.2) (leafS n q.1 q.2.1 q.2.2) := by
  obtain ⟨h1, h2, h3⟩ := hp
  have R := fun x => Zw.refl .f32 x
  have hr := hok.kind
  have hl := hok.nums
  obtain ⟨k, na, nb, nums⟩ := n
  simp only at *
  have : k = 0 ∨ k = 1 ∨ k = 2 ∨ k = 3 ∨ k = 4 ∨ k = 5 ∨ k = 6 ∨ k = 7 ∨ k = 8 ∨ k = 9 ∨ k = 10 ∨ k = 11 ∨ k = 12 ∨ k = 13 ∨ k = 14 ∨ k = 15 ∨ k = 16 := by omega
  rcases this with h | h | h | h | h | h | h | h | h | h | h | h | h | h | h | h | h <;> subst h
  · obtain ⟨r, rfl⟩ := len1 hl
    exact (Zw.long h1 h2 h3).sub (R _)
  · obtain ⟨r, s, t, rfl⟩ := len3 hl
    simp only [leafF, leafS, List.map_cons, List.map_nil]
    exact z_box h1 h2 h3 _ _ _
  · obtain ⟨r, s, rfl⟩ := len2 hl
    exact (Zw.long h1 (h2.sub (((R 0).greater h2).lesser (R _))) h3).sub (R _)
  · obtain ⟨r, s, rfl⟩ := len2 hl
    simp only [leafF, leafS, List.map_cons, List.map_nil]
    exact z_ring h1 h2 h3 _ _
  · obtain ⟨r, s, t, u, rfl⟩ := len4 hl
    exact (Zw.inner h1 h2 h3 (R _) (R _) (R _)).sub (R _)
  all_goals exact absurd hc (by decide)

theorem z_smooth {a b a' b' : Nat} (ha : Zw .f32 a a') (hb : Zw .f32 b b') (k : Nat) : Zw .f32 (smoothF a b k) (smoothS a' b' k) := by
  have hh := (Zw.refl .f32 k).sub (zw_size (ha.sub hb))
  have hg := Zw.gtk hh (Zw.refl .f32 0)
  unfold smoothF smoothS bulgeF
  change gtk .f32 (B .sub k (sizeF (B .sub a b))) 0 = gtk .f32 (B .sub k (sizeS (B .sub a' b'))) 0 at hg
  rw [← hg]
  cases hc : gtk .f32 (B .sub k (sizeF (B .sub a b))) 0
  · simp only [Bool.false_eq_true, if_false]
    exact ha.lesser hb
  · simp only [if_true]
    exact (ha.lesser hb).sub ((hh.mul hh).quo _)

theorem z_mix {n : PN} (hok : n.ok) (hc : (ruleF n.kind).2.1 ≠ 0) {x y x' y' : Nat} (hx : Zw .f32 x x') (hy : Zw .f32 y y') : Zw .f32 (mixF n x y) (mixS n x' y') := by
  have R := fun x => Zw.refl .f32 x
  have hr := hok.kind
  have hl := hok.nums
  obtain ⟨k, na, nb, nums⟩ := n
  simp only at *
  have : k = 0 ∨ k = 1 ∨ k = 2 ∨ k = 3 ∨ k = 4 ∨ k = 5 ∨ k = 6 ∨ k = 7 ∨ k = 8 ∨ k = 9 ∨ k = 10 ∨ k = 11 ∨ k = 12 ∨ k = 13 ∨ k = 14 ∨ k = 15 ∨ k = 16 := by omega
  rcases this with h | h | h | h | h | h | h | h | h | h | h | h | h | h | h | h | h <;> subst h
  iterate 5 exact absurd rfl hc
  · exact hx.lesser hy
  · exact hx.greater hy
  · exact hx.greater hy.neg
  · obtain ⟨r, rfl⟩ := len1 hl
    exact z_smooth hx hy _
  · exact hx
  · obtain ⟨r, rfl⟩ := len1 hl
    exact hx.mul (R _)
  · exact hx
  · exact hx
  · exact hx
  · exact hx
  · obtain ⟨r, rfl⟩ := len1 hl
    exact hx.sub (R _)
  · obtain ⟨r, rfl⟩ := len1 hl
    exact (zw_size hx).sub (R _)

theorem z_folded {c c' : Nat} (hc : Zw .f32 c c') (s : Nat) : Zw .f32 (foldedF c s) (foldedS c' s) :=
  zw_size (hc.sub ((Zw.refl _ _).mul (Zw.near (hc.quo _))))
theorem z_turn1 {i i' j j' : Nat} (hi : Zw .f32 i i') (hj : Zw .f32 j j') (t : Nat) : Zw .f32 (turn1 t i j) (turn1 t i' j') :=
  ((Zw.refl _ _).mul hi).add ((Zw.refl _ _).mul hj)
theorem z_turn2 {i i' j j' : Nat} (hi : Zw .f32 i i') (hj : Zw .f32 j j') (t : Nat) : Zw .f32 (turn2 t i j) (turn2 t i' j') :=
  ((Zw.refl _ _).mul hj).sub ((Zw.refl _ _).mul hi)

theorem z_point {n : PN} (hok : n.ok) (hc : (ruleF n.kind).2.1 = 1) {p q : Nat × Nat × Nat} (hp : Zv p q) : Zv (pointF n p) (pointS n q) := by
  obtain ⟨h1, h2, h3⟩ := hp
  have R := fun x => Zw.refl .f32 x
  have hr := hok.kind
  have hl := hok.nums
  have hax := hok.axis
  obtain ⟨k, na, nb, nums⟩ := n
  obtain ⟨x, y, z⟩ := p
  obtain ⟨x', y', z'⟩ := q
  simp only at *
  have : k = 0 ∨ k = 1 ∨ k = 2 ∨ k = 3 ∨ k = 4 ∨ k = 5 ∨ k = 6 ∨ k = 7 ∨ k = 8 ∨ k = 9 ∨ k = 10 ∨ k = 11 ∨ k = 12 ∨ k = 13 ∨ k = 14 ∨ k = 15 ∨ k = 16 := by omega
  rcases this with h | h | h | h | h | h | h | h | h | h | h | h | h | h | h | h | h <;> subst h
  iterate 9 exact absurd hc (by decide)
  · obtain ⟨r, s, t, rfl⟩ := len3 hl
    exact ⟨h1.sub (R _), h2.sub (R _), h3.sub (R _)⟩
  · obtain ⟨r, rfl⟩ := len1 hl
    exact ⟨h1.quo _, h2.quo _, h3.quo _⟩
  · obtain ⟨r, s, t, rfl⟩ := len3 hl
    exact ⟨h1.quo _, h2.quo _, h3.quo _⟩
  · have hb0 : nb = 0 ∨ nb = 1 ∨ nb = 2 := by
      rcases hax with h | h | ⟨_, h⟩
      · exact absurd h (by decide)
      · omega
      · omega
    obtain ⟨r, rfl⟩ := len1 hl
    rcases hb0 with h | h | h <;> subst h
    · exact ⟨h1, z_turn1 h2 h3 _, z_turn2 h2 h3 _⟩
    · exact ⟨z_turn2 h3 h1 _, h2, z_turn1 h3 h1 _⟩
    · exact ⟨z_turn1 h1 h2 _, z_turn2 h1 h2 _, h3⟩
  · have hb0 : nb = 0 ∨ nb = 1 ∨ nb = 2 := by
      rcases hax with h | h | ⟨_, h⟩
      · exact absurd h (by decide)
      · omega
      · omega
    have hl0 : nums = [] := List.length_eq_zero_iff.1 hl
    subst hl0
    rcases hb0 with h | h | h <;> subst h
    · exact ⟨zw_size h1, h2, h3⟩
    · exact ⟨h1, zw_size h2, h3⟩
    · exact ⟨h1, h2, zw_size h3⟩
  · have hb0 : nb = 0 ∨ nb = 1 ∨ nb = 2 := by
      rcases hax with h | h | ⟨_, h⟩
      · exact absurd h (by decide)
      · omega
      · omega
    obtain ⟨r, rfl⟩ := len1 hl
    rcases hb0 with h | h | h <;> subst h
    · exact ⟨z_folded h1 _, h2, h3⟩
    · exact ⟨h1, z_folded h2 _, h3⟩
    · exact ⟨h1, h2, z_folded h3 _⟩
  · exact ⟨h1, h2, h3⟩
  · exact ⟨h1, h2, h3⟩

theorem pointS_two {n : PN} (hok : n.ok) (hc : (ruleF n.kind).2.1 = 2) (q : Nat × Nat × Nat) : pointS n q = q := by
  have hr := hok.kind
  obtain ⟨k, na, nb, nums⟩ := n
  simp only at *
  have : k = 0 ∨ k = 1 ∨ k = 2 ∨ k = 3 ∨ k = 4 ∨ k = 5 ∨ k = 6 ∨ k = 7 ∨ k = 8 ∨ k = 9 ∨ k = 10 ∨ k = 11 ∨ k = 12 ∨ k = 13 ∨ k = 14 ∨ k = 15 ∨ k = 16 := by omega
  rcases this with h | h | h | h | h | h | h | h | h | h | h | h | h | h | h | h | h <;> subst h <;> first | rfl | exact absurd hc (by decide)
end Go.Proofs.Ytdbpgblhnhdhoaa
