/-
  Walks of the reference: nodes.
-/
import Derived.Test.YtdbpgblhnhdhoaaS12
set_option linter.unusedVariables false
set_option linter.unusedSimpArgs false
namespace Go.Proofs.Ytdbpgblhnhdhoaa
open Go.RowKit Go.Fl

def leafS (n : PN) (x y z : Nat) : Nat :=
  match n.kind, n.nums.map (cn .f32) with
  | 0, [r] => ballF x y z r
  | 1, [u, v, t] => boxS x y z u v t
  | 2, [h, r] => tubeS x y z h r
  | 3, [u, r] => ringS x y z u r
  | 4, [a, b, c, d] => planeF x y z a b c d
  | _, _ => 0
def mixS (n : PN) (x y : Nat) : Nat :=
  match n.kind, n.nums.map (cn .f32) with
  | 5, _ => lesserF x y
  | 6, _ => greaterF x y
  | 7, _ => greaterF x (negc .f32 y)
  | 8, [k] => smoothS x y k
  | 10, [r] => B .mul x r
  | 15, [r] => B .sub x r
  | 16, [r] => B .sub (sizeS x) r
  | _, _ => x
def pointS (n : PN) (p : Nat × Nat × Nat) : Nat × Nat × Nat :=
  match n.kind, n.b, n.nums.map (cn .f32) with
  | 9, _, [a, b, c] => (B .sub p.1 a, B .sub p.2.1 b, B .sub p.2.2 c)
  | 10, _, [r] => (B .quo p.1 r, B .quo p.2.1 r, B .quo p.2.2 r)
  | 11, _, [a, b, c] => (B .quo p.1 a, B .quo p.2.1 b, B .quo p.2.2 c)
  | 12, 0, [t] => (p.1, turn1 t p.2.1 p.2.2, turn2 t p.2.1 p.2.2)
  | 12, 1, [t] => (turn2 t p.2.2 p.1, p.2.1, turn1 t p.2.2 p.1)
  | 12, 2, [t] => (turn1 t p.1 p.2.1, turn2 t p.1 p.2.1, p.2.2)
  | 13, 0, _ => (sizeS p.1, p.2.1, p.2.2)
  | 13, 1, _ => (p.1, sizeS p.2.1, p.2.2)
  | 13, 2, _ => (p.1, p.2.1, sizeS p.2.2)
  | 14, 0, [s] => (foldedS p.1 s, p.2.1, p.2.2)
  | 14, 1, [s] => (p.1, foldedS p.2.1 s, p.2.2)
  | 14, 2, [s] => (p.1, p.2.1, foldedS p.2.2 s)
  | _, _, _ => p


theorem s_leaf_node {n : PN} {b o : Nat} {w : World} (hn : NodeIn n b o w) (hok : n.ok) (hc : (ruleF n.kind).2.1 = 0) (x y z : Nat) :
    Calls Try.prog 37 #[.pointer (some ⟨b, o, none⟩), V3 x y z] w (Ret .f32 (leafS n (cn .f32 x) (cn .f32 y) (cn .f32 z)) w) := by
  obtain ⟨bp, bv, ov, cap, h1, h2, h3⟩ := hn.nums
  have hk := hn.kind
  have hr := hok.kind
  have hl := hok.nums
  obtain ⟨k, na, nb, nums⟩ := n
  simp only at *
  have : k = 0 ∨ k = 1 ∨ k = 2 ∨ k = 3 ∨ k = 4 ∨ k = 5 ∨ k = 6 ∨ k = 7 ∨ k = 8 ∨ k = 9 ∨ k = 10 ∨ k = 11 ∨ k = 12 ∨ k = 13 ∨ k = 14 ∨ k = 15 ∨ k = 16 := by omega
  rcases this with h | h | h | h | h | h | h | h | h | h | h | h | h | h | h | h | h <;> subst h
  · obtain ⟨r, rfl⟩ := len1 hl
    have := h2 (by simp)
    subst this
    exact s_leaf_ball b o bv ov cap r x y z w hk h1 (h3 0 (by simp))
  · obtain ⟨r, s, t, rfl⟩ := len3 hl
    have := h2 (by simp)
    subst this
    exact s_leaf_box b o bv ov cap r s t x y z w hk h1 (h3 0 (by simp)) (h3 1 (by simp)) (h3 2 (by simp))
  · obtain ⟨r, s, rfl⟩ := len2 hl
    have := h2 (by simp)
    subst this
    exact s_leaf_tube b o bv ov cap r s x y z w hk h1 (h3 0 (by simp)) (h3 1 (by simp))
  · obtain ⟨r, s, rfl⟩ := len2 hl
    have := h2 (by simp)
    subst this
    exact s_leaf_ring b o bv ov cap r s x y z w hk h1 (h3 0 (by simp)) (h3 1 (by simp))
  · obtain ⟨r, s, t, u, rfl⟩ := len4 hl
    have := h2 (by simp)
    subst this
    exact s_leaf_plane b o bv ov cap r s t u x y z w hk h1 (h3 0 (by simp)) (h3 1 (by simp)) (h3 2 (by simp)) (h3 3 (by simp))
  all_goals exact absurd hc (by decide)

theorem s_mix_node {n : PN} {b o : Nat} {w : World} (hn : NodeIn n b o w) (hok : n.ok) (hc : (ruleF n.kind).2.1 ≠ 0) (x y : Nat) :
    Calls Try.prog 38 #[.pointer (some ⟨b, o, none⟩), F1 x, F1 y] w (Ret .f32 (mixS n (cn .f32 x) (cn .f32 y)) w) := by
  obtain ⟨bp, bv, ov, cap, h1, h2, h3⟩ := hn.nums
  have hk := hn.kind
  have hr := hok.kind
  have hl := hok.nums
  obtain ⟨k, na, nb, nums⟩ := n
  simp only at *
  have : k = 0 ∨ k = 1 ∨ k = 2 ∨ k = 3 ∨ k = 4 ∨ k = 5 ∨ k = 6 ∨ k = 7 ∨ k = 8 ∨ k = 9 ∨ k = 10 ∨ k = 11 ∨ k = 12 ∨ k = 13 ∨ k = 14 ∨ k = 15 ∨ k = 16 := by omega
  rcases this with h | h | h | h | h | h | h | h | h | h | h | h | h | h | h | h | h <;> subst h
  iterate 5 exact absurd rfl hc
  · exact s_mix_union b o x y w hk
  · exact s_mix_cut b o x y w hk
  · exact s_mix_less b o x y w hk
  · obtain ⟨r, rfl⟩ := len1 hl
    have := h2 (by simp)
    subst this
    exact s_mix_smooth b o bv ov cap r x y w hk h1 (h3 0 (by simp))
  · exact s_mix_move b o x y w hk
  · obtain ⟨r, rfl⟩ := len1 hl
    have := h2 (by simp)
    subst this
    exact s_mix_scale b o bv ov cap r x y w hk h1 (h3 0 (by simp))
  · exact s_mix_stretch b o x y w hk
  · exact s_mix_turn b o x y w hk
  · exact s_mix_mirror b o x y w hk
  · exact s_mix_fold b o x y w hk
  · obtain ⟨r, rfl⟩ := len1 hl
    have := h2 (by simp)
    subst this
    exact s_mix_round b o bv ov cap r x y w hk h1 (h3 0 (by simp))
  · obtain ⟨r, rfl⟩ := len1 hl
    have := h2 (by simp)
    subst this
    exact s_mix_shell b o bv ov cap r x y w hk h1 (h3 0 (by simp))

theorem s_point_node {n : PN} {b o : Nat} {w : World} (hn : NodeIn n b o w) (hok : n.ok) (hc : (ruleF n.kind).2.1 ≠ 0) (x y z : Nat) :
    Calls Try.prog 58 #[.pointer (some ⟨b, o, none⟩), V3 x y z] w (RetV (pointS n (cn .f32 x, cn .f32 y, cn .f32 z)).1 (pointS n (cn .f32 x, cn .f32 y, cn .f32 z)).2.1 (pointS n (cn .f32 x, cn .f32 y, cn .f32 z)).2.2 w) := by
  obtain ⟨bp, bv, ov, cap, h1, h2, h3⟩ := hn.nums
  have hk := hn.kind
  have hB := hn.b
  have hr := hok.kind
  have hl := hok.nums
  have hax := hok.axis
  obtain ⟨k, na, nb, nums⟩ := n
  simp only at *
  have : k = 0 ∨ k = 1 ∨ k = 2 ∨ k = 3 ∨ k = 4 ∨ k = 5 ∨ k = 6 ∨ k = 7 ∨ k = 8 ∨ k = 9 ∨ k = 10 ∨ k = 11 ∨ k = 12 ∨ k = 13 ∨ k = 14 ∨ k = 15 ∨ k = 16 := by omega
  rcases this with h | h | h | h | h | h | h | h | h | h | h | h | h | h | h | h | h <;> subst h
  iterate 5 exact absurd rfl hc
  · exact s_point_same 5 (by decide) (kof (by simp only [List.forall_mem_cons, List.not_mem_nil, false_implies, implies_true, and_true]; exact hk))
  · exact s_point_same 6 (by decide) (kof (by simp only [List.forall_mem_cons, List.not_mem_nil, false_implies, implies_true, and_true]; exact hk))
  · exact s_point_same 7 (by decide) (kof (by simp only [List.forall_mem_cons, List.not_mem_nil, false_implies, implies_true, and_true]; exact hk))
  · exact s_point_same 8 (by decide) (kof (by simp only [List.forall_mem_cons, List.not_mem_nil, false_implies, implies_true, and_true]; exact hk))
  · have hb0 : nb = 0 := by
      rcases hax with h | h | ⟨h, _⟩
      · exact absurd h (by decide)
      · exact h
      · exact absurd h (by decide)
    subst hb0
    obtain ⟨r, s, t, rfl⟩ := len3 hl
    have := h2 (by simp)
    subst this
    exact s_point_move (kof (by simp only [List.forall_mem_cons, List.not_mem_nil, false_implies, implies_true, and_true]; exact ⟨hk, hB, h1, h3 0 (by simp), h3 1 (by simp), h3 2 (by simp)⟩))
  · have hb0 : nb = 0 := by
      rcases hax with h | h | ⟨h, _⟩
      · exact absurd h (by decide)
      · exact h
      · exact absurd h (by decide)
    subst hb0
    obtain ⟨r, rfl⟩ := len1 hl
    have := h2 (by simp)
    subst this
    exact s_point_scale (kof (by simp only [List.forall_mem_cons, List.not_mem_nil, false_implies, implies_true, and_true]; exact ⟨hk, hB, h1, h3 0 (by simp)⟩))
  · have hb0 : nb = 0 := by
      rcases hax with h | h | ⟨h, _⟩
      · exact absurd h (by decide)
      · exact h
      · exact absurd h (by decide)
    subst hb0
    obtain ⟨r, s, t, rfl⟩ := len3 hl
    have := h2 (by simp)
    subst this
    exact s_point_stretch (kof (by simp only [List.forall_mem_cons, List.not_mem_nil, false_implies, implies_true, and_true]; exact ⟨hk, hB, h1, h3 0 (by simp), h3 1 (by simp), h3 2 (by simp)⟩))
  · have hb0 : nb = 0 ∨ nb = 1 ∨ nb = 2 := by
      rcases hax with h | h | ⟨_, h⟩
      · exact absurd h (by decide)
      · omega
      · omega
    obtain ⟨r, rfl⟩ := len1 hl
    have := h2 (by simp)
    subst this
    rcases hb0 with h | h | h <;> subst h
    · exact s_point_turn0 (kof (by simp only [List.forall_mem_cons, List.not_mem_nil, false_implies, implies_true, and_true]; exact ⟨hk, hB, h1, h3 0 (by simp)⟩))
    · exact s_point_turn1 (kof (by simp only [List.forall_mem_cons, List.not_mem_nil, false_implies, implies_true, and_true]; exact ⟨hk, hB, h1, h3 0 (by simp)⟩))
    · exact s_point_turn2 (kof (by simp only [List.forall_mem_cons, List.not_mem_nil, false_implies, implies_true, and_true]; exact ⟨hk, hB, h1, h3 0 (by simp)⟩))
  · have hb0 : nb = 0 ∨ nb = 1 ∨ nb = 2 := by
      rcases hax with h | h | ⟨_, h⟩
      · exact absurd h (by decide)
      · omega
      · omega
    have hl0 : nums = [] := List.length_eq_zero_iff.1 hl
    subst hl0
    rcases hb0 with h | h | h <;> subst h
    · exact s_point_mirror0 (kof (by simp only [List.forall_mem_cons, List.not_mem_nil, false_implies, implies_true, and_true]; exact ⟨hk, hB⟩))
    · exact s_point_mirror1 (kof (by simp only [List.forall_mem_cons, List.not_mem_nil, false_implies, implies_true, and_true]; exact ⟨hk, hB⟩))
    · exact s_point_mirror2 (kof (by simp only [List.forall_mem_cons, List.not_mem_nil, false_implies, implies_true, and_true]; exact ⟨hk, hB⟩))
  · have hb0 : nb = 0 ∨ nb = 1 ∨ nb = 2 := by
      rcases hax with h | h | ⟨_, h⟩
      · exact absurd h (by decide)
      · omega
      · omega
    obtain ⟨r, rfl⟩ := len1 hl
    have := h2 (by simp)
    subst this
    rcases hb0 with h | h | h <;> subst h
    · exact s_point_fold0 (kof (by simp only [List.forall_mem_cons, List.not_mem_nil, false_implies, implies_true, and_true]; exact ⟨hk, hB, h1, h3 0 (by simp)⟩))
    · exact s_point_fold1 (kof (by simp only [List.forall_mem_cons, List.not_mem_nil, false_implies, implies_true, and_true]; exact ⟨hk, hB, h1, h3 0 (by simp)⟩))
    · exact s_point_fold2 (kof (by simp only [List.forall_mem_cons, List.not_mem_nil, false_implies, implies_true, and_true]; exact ⟨hk, hB, h1, h3 0 (by simp)⟩))
  · exact s_point_same 15 (by decide) (kof (by simp only [List.forall_mem_cons, List.not_mem_nil, false_implies, implies_true, and_true]; exact hk))
  · exact s_point_same 16 (by decide) (kof (by simp only [List.forall_mem_cons, List.not_mem_nil, false_implies, implies_true, and_true]; exact hk))

end Go.Proofs.Ytdbpgblhnhdhoaa
