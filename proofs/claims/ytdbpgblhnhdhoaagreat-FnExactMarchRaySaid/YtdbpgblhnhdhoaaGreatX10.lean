/-
  Plain law: points on both sides of a surface, told twice.
-/
import Derived.Test.YtdbpgblhnhdhoaaGreatX9
import Derived.Test.YtdbpgblhnhdhoaaGreatGO
set_option linter.unusedVariables false
set_option linter.unusedSimpArgs false
namespace Go.Proofs.YtdbpgblhnhdhoaaGreat
open Go.RowKit Go.Fl Ieee

theorem cross_go {D D' : Nat × Nat × Nat → Nat} (hD : ∀ q, Zw .f32 (D q) (D' q)) (s : Bool) : ∀ (r : Nat) (p q : Nat × Nat × Nat), crossGo D' s r p q = crossGo D s r p q
  | 0, _, _ => rfl
  | r + 1, p, q => by
    rw [crossGo, crossGo, Zw.ltk (hD _) (Zw.refl _ 0), cross_go hD s r, cross_go hD s r]

theorem cross_same (ns : List PN) (p q : Nat × Nat × Nat) (c : Int) :
    crossOk (validS ns) (atS ns) p q c = crossOk (validF ns) (topF ns) p q c ∧ (crossOk (validF ns) (topF ns) p q c = true → crossGo (atS ns) (ltk .f32 (atS ns p) 0) c.toNat p q = crossGo (topF ns) (ltk .f32 (topF ns p) 0) c.toNat p q) := by
  rw [valid_same]
  cases hv : validF ns
  · exact ⟨rfl, fun h => by cases h⟩
  · have ht := tree_of hv
    have h1 := Zw.ltk (top_same ht p) (Zw.refl .f32 0)
    have h2 := Zw.ltk (top_same ht q) (Zw.refl .f32 0)
    refine ⟨by unfold crossOk; rw [h1, h2], fun _ => ?_⟩
    rw [h1]
    exact cross_go (fun q => top_same ht q) _ _ _ _
end Go.Proofs.YtdbpgblhnhdhoaaGreat
