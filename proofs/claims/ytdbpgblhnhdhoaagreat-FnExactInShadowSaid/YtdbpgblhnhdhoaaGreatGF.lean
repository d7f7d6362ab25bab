/-
  Nodes in memory: leaf, mix, point of a right node.
  Walks: points of a rounded node and a shell: the same.
  Walks: distance.
  Walks: at.
-/
import Derived.Test.YtdbpgblhnhdhoaaGreatGC
import Derived.Test.YtdbpgblhnhdhoaaGreatW6
import Derived.Test.YtdbpgblhnhdhoaaGreatW7
import Derived.Test.YtdbpgblhnhdhoaaGreatW8
import Derived.Test.YtdbpgblhnhdhoaaGreatGE
set_option linter.unusedVariables false
set_option linter.unusedSimpArgs false
namespace Go.Proofs.YtdbpgblhnhdhoaaGreat
open Go.RowKit Go.Fl

structure PN where
  kind : Int
  a : Int
  b : Int
  nums : List Nat

/-- A node lies at a place. -/
structure NodeIn (n : PN) (bb o : Nat) (w : World) : Prop where
  kind : w.cell? ⟨bb, o, none⟩ = some (.int .i64 n.kind)
  a : w.cell? ⟨bb, o + 1, none⟩ = some (.int .i64 n.a)
  b : w.cell? ⟨bb, o + 2, none⟩ = some (.int .i64 n.b)
  nums : ∃ bp bv ov cap, w.cell? ⟨bb, o + 3, none⟩ = some (.slice bp n.nums.length cap) ∧ (n.nums ≠ [] → bp = some ⟨bv, ov, none⟩) ∧ ∀ i (h : i < n.nums.length), w.cell? ⟨bv, ov + i, none⟩ = some (.float .f32 n.nums[i])

theorem NodeIn.keep {n : PN} {b o : Nat} {w w' : World} (h : NodeIn n b o w) (hb : Below w.heap.size w w') : NodeIn n b o w' := by
  have l := fun a v (h : w.cell? a = some v) => (show w'.cell? a = some v by rw [lift hb a (by rw [h]; rfl)]; exact h)
  obtain ⟨bp, bv, ov, cap, h1, h2, h3⟩ := h.nums
  exact ⟨l _ _ h.kind, l _ _ h.a, l _ _ h.b, bp, bv, ov, cap, l _ _ h1, h2, fun i hi => l _ _ (h3 i hi)⟩

structure PN.ok (n : PN) : Prop where
  kind : 0 ≤ n.kind ∧ n.kind ≤ 16
  nums : n.nums.length = (ruleF n.kind).1
  axis : (ruleF n.kind).2.1 = 2 ∨ n.b = 0 ∨ ((ruleF n.kind).2.2.1 = true ∧ 0 ≤ n.b ∧ n.b ≤ 2)

def leafF (n : PN) (x y z : Nat) : Nat :=
  match n.kind, n.nums.map (cn .f32) with
  | 0, [r] => ballF x y z r
  | 1, [u, v, t] => boxF x y z u v t
  | 2, [h, r] => tubeF x y z h r
  | 3, [u, r] => ringF x y z u r
  | 4, [a, b, c, d] => planeF x y z a b c d
  | _, _ => 0
def mixF (n : PN) (x y : Nat) : Nat :=
  match n.kind, n.nums.map (cn .f32) with
  | 5, _ => lesserF x y
  | 6, _ => greaterF x y
  | 7, _ => greaterF x (negc .f32 y)
  | 8, [k] => smoothF x y k
  | 10, [r] => B .mul x r
  | 15, [r] => B .sub x r
  | 16, [r] => B .sub (sizeF x) r
  | _, _ => x
def pointF (n : PN) (p : Nat × Nat × Nat) : Nat × Nat × Nat :=
  match n.kind, n.b, n.nums.map (cn .f32) with
  | 9, _, [a, b, c] => (B .sub p.1 a, B .sub p.2.1 b, B .sub p.2.2 c)
  | 10, _, [r] => (B .quo p.1 r, B .quo p.2.1 r, B .quo p.2.2 r)
  | 11, _, [a, b, c] => (B .quo p.1 a, B .quo p.2.1 b, B .quo p.2.2 c)
  | 12, 0, [t] => (p.1, turn1 t p.2.1 p.2.2, turn2 t p.2.1 p.2.2)
  | 12, 1, [t] => (turn2 t p.2.2 p.1, p.2.1, turn1 t p.2.2 p.1)
  | 12, 2, [t] => (turn1 t p.1 p.2.1, turn2 t p.1 p.2.1, p.2.2)
  | 13, 0, _ => (sizeF p.1, p.2.1, p.2.2)
  | 13, 1, _ => (p.1, sizeF p.2.1, p.2.2)
  | 13, 2, _ => (p.1, p.2.1, sizeF p.2.2)
  | 14, 0, [s] => (foldedF p.1 s, p.2.1, p.2.2)
  | 14, 1, [s] => (p.1, foldedF p.2.1 s, p.2.2)
  | 14, 2, [s] => (p.1, p.2.1, foldedF p.2.2 s)
  | _, _, _ => p

theorem len1 {l : List Nat} (h : l.length = 1) : ∃ a, l = [a] := by
  match l, h with
  | [a], _ => exact ⟨a, rfl⟩
theorem len2 {l : List Nat} (h : l.length = 2) : ∃ a b, l = [a, b] := by
  match l, h with
  | [a, b], _ => exact ⟨a, b, rfl⟩
theorem len3 {l : List Nat} (h : l.length = 3) : ∃ a b c, l = [a, b, c] := by
  match l, h with
  | [a, b, c], _ => exact ⟨a, b, c, rfl⟩
theorem len4 {l : List Nat} (h : l.length = 4) : ∃ a b c d, l = [a, b, c, d] := by
  match l, h with
  | [a, b, c, d], _ => exact ⟨a, b, c, d, rfl⟩

theorem leaf_node {n : PN} {b o : Nat} {w : World} (hn : NodeIn n b o w) (hok : n.ok) (hc : (ruleF n.kind).2.1 = 0) (x y z : Nat) :
    Calls Tryz.prog 163 #[.pointer (some ⟨b, o, none⟩), V3 x y z] w (Ret .f32 (leafF n (cn .f32 x) (cn .f32 y) (cn .f32 z)) w) := by
  obtain ⟨bp, bv, ov, cap, h1, h2, h3⟩ := hn.nums
  have hk := hn.kind
  have hr := hok.kind
  have hl := hok.nums
  obtain ⟨k, na, nb, nums⟩ := n
  simp only at *
  have : k = 0 ∨ k = 1 ∨ k = 2 ∨ k = 3 ∨ k = 4 ∨ k = 5 ∨ k = 6 ∨ k = 7 ∨ k = 8 ∨ k = 9 ∨ k = 10 ∨ k = 11 ∨ k = 12 ∨ k = 13 ∨ k = 14 ∨ k = 15 ∨ k = 16 := by omega
  rcases this with h | h | h | h | h | h | h | h | h | h | h | h | h | h | h | h | h <;> subst h
  · obtain ⟨r, rfl⟩ := len1 hl
    have := h2 (by simp)
    subst this
    exact leaf_ball b o bv ov cap r x y z w hk h1 (h3 0 (by simp))
  · obtain ⟨r, s, t, rfl⟩ := len3 hl
    have := h2 (by simp)
    subst this
    exact leaf_box b o bv ov cap r s t x y z w hk h1 (h3 0 (by simp)) (h3 1 (by simp)) (h3 2 (by simp))
  · obtain ⟨r, s, rfl⟩ := len2 hl
    have := h2 (by simp)
    subst this
    exact leaf_tube b o bv ov cap r s x y z w hk h1 (h3 0 (by simp)) (h3 1 (by simp))
  · obtain ⟨r, s, rfl⟩ := len2 hl
    have := h2 (by simp)
    subst this
    exact leaf_ring b o bv ov cap r s x y z w hk h1 (h3 0 (by simp)) (h3 1 (by simp))
  · obtain ⟨r, s, t, u, rfl⟩ := len4 hl
    have := h2 (by simp)
    subst this
    exact leaf_plane b o bv ov cap r s t u x y z w hk h1 (h3 0 (by simp)) (h3 1 (by simp)) (h3 2 (by simp)) (h3 3 (by simp))
  all_goals exact absurd hc (by decide)

theorem mix_node {n : PN} {b o : Nat} {w : World} (hn : NodeIn n b o w) (hok : n.ok) (hc : (ruleF n.kind).2.1 ≠ 0) (x y : Nat) :
    Calls Tryz.prog 164 #[.pointer (some ⟨b, o, none⟩), F1 x, F1 y] w (Ret .f32 (mixF n (cn .f32 x) (cn .f32 y)) w) := by
  obtain ⟨bp, bv, ov, cap, h1, h2, h3⟩ := hn.nums
  have hk := hn.kind
  have hr := hok.kind
  have hl := hok.nums
  obtain ⟨k, na, nb, nums⟩ := n
  simp only at *
  have : k = 0 ∨ k = 1 ∨ k = 2 ∨ k = 3 ∨ k = 4 ∨ k = 5 ∨ k = 6 ∨ k = 7 ∨ k = 8 ∨ k = 9 ∨ k = 10 ∨ k = 11 ∨ k = 12 ∨ k = 13 ∨ k = 14 ∨ k = 15 ∨ k = 16 := by omega
  rcases this with h | h | h | h | h | h | h | h | h | h | h | h | h | h | h | h | h <;> subst h
  iterate 5 exact absurd rfl hc
  · exact mix_union b o x y w hk
  · exact mix_cut b o x y w hk
  · exact mix_less b o x y w hk
  · obtain ⟨r, rfl⟩ := len1 hl
    have := h2 (by simp)
    subst this
    exact mix_smooth b o bv ov cap r x y w hk h1 (h3 0 (by simp))
  · exact mix_move b o x y w hk
  · obtain ⟨r, rfl⟩ := len1 hl
    have := h2 (by simp)
    subst this
    exact mix_scale b o bv ov cap r x y w hk h1 (h3 0 (by simp))
  · exact mix_stretch b o x y w hk
  · exact mix_turn b o x y w hk
  · exact mix_mirror b o x y w hk
  · exact mix_fold b o x y w hk
  · obtain ⟨r, rfl⟩ := len1 hl
    have := h2 (by simp)
    subst this
    exact mix_round b o bv ov cap r x y w hk h1 (h3 0 (by simp))
  · obtain ⟨r, rfl⟩ := len1 hl
    have := h2 (by simp)
    subst this
    exact mix_shell b o bv ov cap r x y w hk h1 (h3 0 (by simp))

theorem kof {l : List (Addr × Value)} {w : World} (h : ∀ p ∈ l, w.cell? p.1 = some p.2) : Kept l [] w := ⟨h, fun _ h => by cases h⟩

theorem point_node {n : PN} {b o : Nat} {w : World} (hn : NodeIn n b o w) (hok : n.ok) (hc : (ruleF n.kind).2.1 = 1) (hk15 : n.kind ≠ 15) (hk16 : n.kind ≠ 16) (x y z : Nat) :
    Calls Tryz.prog 165 #[.pointer (some ⟨b, o, none⟩), V3 x y z] w (RetV (pointF n (cn .f32 x, cn .f32 y, cn .f32 z)).1 (pointF n (cn .f32 x, cn .f32 y, cn .f32 z)).2.1 (pointF n (cn .f32 x, cn .f32 y, cn .f32 z)).2.2 w) := by
  obtain ⟨bp, bv, ov, cap, h1, h2, h3⟩ := hn.nums
  have hk := hn.kind
  have hB := hn.b
  have hr := hok.kind
  have hl := hok.nums
  have hax := hok.axis
  obtain ⟨k, na, nb, nums⟩ := n
  simp only at *
  have : k = 0 ∨ k = 1 ∨ k = 2 ∨ k = 3 ∨ k = 4 ∨ k = 5 ∨ k = 6 ∨ k = 7 ∨ k = 8 ∨ k = 9 ∨ k = 10 ∨ k = 11 ∨ k = 12 ∨ k = 13 ∨ k = 14 ∨ k = 15 ∨ k = 16 := by omega
  rcases this with h | h | h | h | h | h | h | h | h | h | h | h | h | h | h | h | h <;> subst h
  iterate 9 exact absurd hc (by decide)
  · have hb0 : nb = 0 := by
      rcases hax with h | h | ⟨h, _⟩
      · exact absurd h (by decide)
      · exact h
      · exact absurd h (by decide)
    subst hb0
    obtain ⟨r, s, t, rfl⟩ := len3 hl
    have := h2 (by simp)
    subst this
    exact point_move (kof (by simp only [List.forall_mem_cons, List.not_mem_nil, false_implies, implies_true, and_true]; exact ⟨hk, hB, h1, h3 0 (by simp), h3 1 (by simp), h3 2 (by simp)⟩))
  · have hb0 : nb = 0 := by
      rcases hax with h | h | ⟨h, _⟩
      · exact absurd h (by decide)
      · exact h
      · exact absurd h (by decide)
    subst hb0
    obtain ⟨r, rfl⟩ := len1 hl
    have := h2 (by simp)
    subst this
    exact point_scale (kof (by simp only [List.forall_mem_cons, List.not_mem_nil, false_implies, implies_true, and_true]; exact ⟨hk, hB, h1, h3 0 (by simp)⟩))
  · have hb0 : nb = 0 := by
      rcases hax with h | h | ⟨h, _⟩
      · exact absurd h (by decide)
      · exact h
      · exact absurd h (by decide)
    subst hb0
    obtain ⟨r, s, t, rfl⟩ := len3 hl
    have := h2 (by simp)
    subst this
    exact point_stretch (kof (by simp only [List.forall_mem_cons, List.not_mem_nil, false_implies, implies_true, and_true]; exact ⟨hk, hB, h1, h3 0 (by simp), h3 1 (by simp), h3 2 (by simp)⟩))
  · have hb0 : nb = 0 ∨ nb = 1 ∨ nb = 2 := by
      rcases hax with h | h | ⟨_, h⟩
      · exact absurd h (by decide)
      · omega
      · omega
    obtain ⟨r, rfl⟩ := len1 hl
    have := h2 (by simp)
    subst this
    rcases hb0 with h | h | h <;> subst h
    · exact point_turn0 (kof (by simp only [List.forall_mem_cons, List.not_mem_nil, false_implies, implies_true, and_true]; exact ⟨hk, hB, h1, h3 0 (by simp)⟩))
    · exact point_turn1 (kof (by simp only [List.forall_mem_cons, List.not_mem_nil, false_implies, implies_true, and_true]; exact ⟨hk, hB, h1, h3 0 (by simp)⟩))
    · exact point_turn2 (kof (by simp only [List.forall_mem_cons, List.not_mem_nil, false_implies, implies_true, and_true]; exact ⟨hk, hB, h1, h3 0 (by simp)⟩))
  · have hb0 : nb = 0 ∨ nb = 1 ∨ nb = 2 := by
      rcases hax with h | h | ⟨_, h⟩
      · exact absurd h (by decide)
      · omega
      · omega
    have hl0 : nums = [] := List.length_eq_zero_iff.1 hl
    subst hl0
    rcases hb0 with h | h | h <;> subst h
    · exact point_mirror0 (kof (by simp only [List.forall_mem_cons, List.not_mem_nil, false_implies, implies_true, and_true]; exact ⟨hk, hB, h1⟩))
    · exact point_mirror1 (kof (by simp only [List.forall_mem_cons, List.not_mem_nil, false_implies, implies_true, and_true]; exact ⟨hk, hB, h1⟩))
    · exact point_mirror2 (kof (by simp only [List.forall_mem_cons, List.not_mem_nil, false_implies, implies_true, and_true]; exact ⟨hk, hB, h1⟩))
  · have hb0 : nb = 0 ∨ nb = 1 ∨ nb = 2 := by
      rcases hax with h | h | ⟨_, h⟩
      · exact absurd h (by decide)
      · omega
      · omega
    obtain ⟨r, rfl⟩ := len1 hl
    have := h2 (by simp)
    subst this
    rcases hb0 with h | h | h <;> subst h
    · exact point_fold0 (kof (by simp only [List.forall_mem_cons, List.not_mem_nil, false_implies, implies_true, and_true]; exact ⟨hk, hB, h1, h3 0 (by simp)⟩))
    · exact point_fold1 (kof (by simp only [List.forall_mem_cons, List.not_mem_nil, false_implies, implies_true, and_true]; exact ⟨hk, hB, h1, h3 0 (by simp)⟩))
    · exact point_fold2 (kof (by simp only [List.forall_mem_cons, List.not_mem_nil, false_implies, implies_true, and_true]; exact ⟨hk, hB, h1, h3 0 (by simp)⟩))
  · exact absurd rfl hk15
  · exact absurd rfl hk16

end Go.Proofs.YtdbpgblhnhdhoaaGreat

namespace Go.Proofs.YtdbpgblhnhdhoaaGreat
open Go.RowKit Go.Fl

set_option maxRecDepth 100000 in
set_option maxHeartbeats 2000000 in
theorem point_round {b o sn cap x y z : Nat} {sp : Option Addr} {w : World} (hkept : Kept [(⟨b, o, none⟩, .int .i64 15), (⟨b, o + 2, none⟩, .int .i64 0), (⟨b, o + 3, none⟩, .slice sp sn cap)] [] w) :
    Calls Tryz.prog 165 #[.pointer (some ⟨b, o, none⟩), V3 x y z] w (RetV (cn .f32 x) (cn .f32 y) (cn .f32 z) w) := by
  have hK := hkept
  simp only [Kept, List.forall_mem_append, List.forall_mem_cons, List.not_mem_nil, false_implies, implies_true, and_true, true_and] at hK
  have hb : b < w.heap.size := some_lt (a := ⟨b, o, none⟩) (by rw [hK.1]; rfl)
  have hb1 : b < w.heap.size + 1 := by omega
  go_enter Tryz.func165, Tryz.ntmps165
  go_wp2_with fail
  have W0b : Below w.heap.size w ((w.alloc (.cells #[.float .f32 x, .float .f32 y, .float .f32 z] 35)).alloc (.cells #[.float .f32 0, .float .f32 0, .float .f32 0] 35)) := (by repeat' (first | exact Below.refl _ _ | exact Nat.le_refl _ | refine below_drewN ?_ _ | refine Below.alloc ?_ (by first | (simp; done) | (simp; omega)) _ | refine Below.setCell ?_ (by first | (simp; done) | (simp; omega)) _ | refine below_step ?_ (by assumption)))
  have hkept := kept_app (keep hkept W0b) (show Kept [(⟨w.heap.size, 0, none⟩, .float .f32 x), (⟨w.heap.size, 1, none⟩, .float .f32 y), (⟨w.heap.size, 2, none⟩, .float .f32 z), (⟨w.heap.size + 1, 0, none⟩, .float .f32 0), (⟨w.heap.size + 1, 1, none⟩, .float .f32 0), (⟨w.heap.size + 1, 2, none⟩, .float .f32 0)] [⟨w.heap.size + 1, 0, none⟩, ⟨w.heap.size + 1, 1, none⟩, ⟨w.heap.size + 1, 2, none⟩] ((w.alloc (.cells #[.float .f32 x, .float .f32 y, .float .f32 z] 35)).alloc (.cells #[.float .f32 0, .float .f32 0, .float .f32 0] 35)) by
    simp only [Kept, List.forall_mem_append, List.forall_mem_cons, List.not_mem_nil, false_implies, implies_true, and_true, true_and]; simp)
  clear hK
  generalize (w.alloc (.cells #[.float .f32 x, .float .f32 y, .float .f32 z] 35)).alloc (.cells #[.float .f32 0, .float .f32 0, .float .f32 0] 35) = W1 at W0b hkept ⊢
  have hkeptW1 := hkept
  refine Qr.wp_made 8 6 6 #[.float .f32 0, .float .f32 0, .float .f32 0] 176 (by kernel_rfl) (by kernel_rfl) PhiF rfl (by kernel_rfl) ⟨_, rfl, rfl, fun a w => by go_simp⟩ (by kernel_rfl) ?_
  repeat (first | (refine Qr.walk_plain rfl fun K hK => ?_; refine Qr.one_rel (fun v => ∃ g, v = .pointer (some ⟨g, 0, none⟩)) (fun w' hw' => ⟨.pointer (some ⟨w'.heap.size, 0, none⟩), _, by go_simp; rfl, ⟨_, rfl⟩, hw'.alloc hw'.size _, (Below.refl _ _).alloc (Nat.le_refl _) _⟩) (fun v hv => ?_); obtain ⟨g, rfl⟩ := hv; go_simp; refine hK _ ?_; clear hK K) | (first | (refine Qr.walk_plain rfl fun K hK => ?_; refine one_bin _ _ _ _ _ rfl _ _ _ rfl rfl rfl (fun r hr => ?_); go_simp; refine hK _ ?_; clear hK K) | (refine Qr.walk_plain rfl fun K hK => ?_; apply Qr.one_det; (focus (intro w' hw'; have HK := keep hkept hw'; simp only [Kept, List.forall_mem_append, List.forall_mem_cons, List.not_mem_nil, false_implies, implies_true, and_true, true_and] at HK; go_simp; first | done | rfl)); go_simp; refine hK _ ?_; clear hK K) | (refine Qr.walk_plain rfl fun K hK => ?_; apply Qr.one_call; (focus (intro w' hw'; go_simp; first | done | exact ⟨rfl, rfl⟩)); (focus (intro w' hw';  go_at_call 85; refine (long_any _ _ _ _).mono ?_; rintro _ w2 ⟨r1, rfl, hr1, hb1⟩ ; exact ⟨_, rfl, by constructor <;> assumption, hw'.trans (by exact Below.mono (by assumption) hw'.size), by assumption⟩)); intro v hv; cases hv; go_simp; refine hK _ ?_; clear hK K) | (refine Qr.walk_plain rfl fun K hK => ?_; apply Qr.one_call; (focus (intro w' hw'; go_simp; first | done | exact ⟨rfl, rfl⟩)); (focus (intro w' hw';  go_at_call 129; refine (inner_any _ _ _ _ _ _ _).mono ?_; rintro _ w2 ⟨r1, rfl, hr1, hb1⟩ ; exact ⟨_, rfl, by constructor <;> assumption, hw'.trans (by exact Below.mono (by assumption) hw'.size), by assumption⟩)); intro v hv; cases hv; go_simp; refine hK _ ?_; clear hK K) | (refine Qr.walk_plain rfl fun K hK => ?_; apply Qr.one_call; (focus (intro w' hw'; go_simp; first | done | exact ⟨rfl, rfl⟩)); (focus (intro w' hw';  go_at_call 75; refine (size_any _ _).mono ?_; rintro _ w2 ⟨r1, rfl, hr1, hb1⟩ ; exact ⟨_, rfl, by constructor <;> assumption, hw'.trans (by exact Below.mono (by assumption) hw'.size), by assumption⟩)); intro v hv; cases hv; go_simp; refine hK _ ?_; clear hK K) | (refine Qr.walk_plain rfl fun K hK => ?_; apply Qr.one_call; (focus (intro w' hw'; go_simp; first | done | exact ⟨rfl, rfl⟩)); (focus (intro w' hw';  go_at_call 84; refine (lesser_any _ _ _).mono ?_; rintro _ w2 ⟨r1, rfl, hr1, hb1⟩ ; exact ⟨_, rfl, by constructor <;> assumption, hw'.trans (by exact Below.mono (by assumption) hw'.size), by assumption⟩)); intro v hv; cases hv; go_simp; refine hK _ ?_; clear hK K) | (refine Qr.walk_plain rfl fun K hK => ?_; apply Qr.one_call; (focus (intro w' hw'; go_simp; first | done | exact ⟨rfl, rfl⟩)); (focus (intro w' hw';  go_at_call 183; refine (greater_any _ _ _).mono ?_; rintro _ w2 ⟨r1, rfl, hr1, hb1⟩ ; exact ⟨_, rfl, by constructor <;> assumption, hw'.trans (by exact Below.mono (by assumption) hw'.size), by assumption⟩)); intro v hv; cases hv; go_simp; refine hK _ ?_; clear hK K) | (refine Qr.walk_plain rfl fun K hK => ?_; apply Qr.one_call; (focus (intro w' hw'; go_simp; first | done | exact ⟨rfl, rfl⟩)); (focus (intro w' hw';  go_at_call 181; refine (short_any _ _ _).mono ?_; rintro _ w2 ⟨r1, rfl, hr1, hb1⟩ ; exact ⟨_, rfl, by constructor <;> assumption, hw'.trans (by exact Below.mono (by assumption) hw'.size), by assumption⟩)); intro v hv; cases hv; go_simp; refine hK _ ?_; clear hK K) | (refine Qr.walk_plain rfl fun K hK => ?_; apply Qr.one_call; (focus (intro w' hw'; go_simp; first | done | exact ⟨rfl, rfl⟩)); (focus (intro w' hw';  go_at_call 186; refine (bulge_any _ _ _).mono ?_; rintro _ w2 ⟨r1, rfl, hr1, hb1⟩ ; exact ⟨_, rfl, by constructor <;> assumption, hw'.trans (by exact Below.mono (by assumption) hw'.size), by assumption⟩)); intro v hv; cases hv; go_simp; refine hK _ ?_; clear hK K) | (refine Qr.walk_plain rfl fun K hK => ?_; apply Qr.one_call; (focus (intro w' hw'; go_simp; first | done | exact ⟨rfl, rfl⟩)); (focus (intro w' hw';  go_at_call 208; refine (fold_any _ _ _).mono ?_; rintro _ w2 ⟨r1, rfl, hr1, hb1⟩ ; exact ⟨_, rfl, by constructor <;> assumption, hw'.trans (by exact Below.mono (by assumption) hw'.size), by assumption⟩)); intro v hv; cases hv; go_simp; refine hK _ ?_; clear hK K) | (refine Qr.walk_plain rfl fun K hK => ?_; apply Qr.one_call; (focus (intro w' hw'; go_simp; first | done | exact ⟨rfl, rfl⟩)); (focus (intro w' hw';  go_at_call 174; refine (sine_any _ _).mono ?_; rintro _ w2 ⟨r1, rfl, hr1, hb1⟩ ; exact ⟨_, rfl, by constructor <;> assumption, hw'.trans (by exact Below.mono (by assumption) hw'.size), by assumption⟩)); intro v hv; cases hv; go_simp; refine hK _ ?_; clear hK K) | (refine Qr.walk_plain rfl fun K hK => ?_; apply Qr.one_call; (focus (intro w' hw'; go_simp; first | done | exact ⟨rfl, rfl⟩)); (focus (intro w' hw';  go_at_call 136; refine (coords_any _ _ _ _).mono ?_; rintro _ w2 ⟨rfl, hb1⟩ ; exact ⟨_, rfl, by constructor <;> assumption, hw'.trans (by exact Below.mono (by assumption) hw'.size), by assumption⟩)); intro v hv; cases hv; go_simp; refine hK _ ?_; clear hK K) | (refine Qr.walk_plain rfl fun K hK => ?_; apply Qr.one_call; (focus (intro w' hw'; go_simp; first | done | exact ⟨rfl, rfl⟩)); (focus (intro w' hw';  go_at_call 203; refine (vector_any _ _ _ _).mono ?_; rintro _ w2 ⟨rfl, hb1⟩ ; exact ⟨_, rfl, by constructor <;> assumption, hw'.trans (by exact Below.mono (by assumption) hw'.size), by assumption⟩)); intro v hv; cases hv; go_simp; refine hK _ ?_; clear hK K) | (refine Qr.walk_plain rfl fun K hK => ?_; apply Qr.one_call; (focus (intro w' hw'; go_simp; first | done | exact ⟨rfl, rfl⟩)); (focus (intro w' hw';  go_at_call 82; refine (less_any _ _ _ _ _ _ _).mono ?_; rintro _ w2 ⟨x1, y1, z1, rfl, hx1, hy1, hz1, hb1⟩ ; exact ⟨_, rfl, by constructor <;> assumption, hw'.trans (by exact Below.mono (by assumption) hw'.size), by assumption⟩)); intro v hv; cases hv; go_simp; refine hK _ ?_; clear hK K)))
  refine Qr.walk_nil fun w3 hw3 hmade => ?_
  obtain ⟨g3, hg3, hgw, hgc⟩ := hmade _ rfl
  injection hg3 with hg3
  injection hg3 with hg3
  subst hg3
  obtain ⟨hc0, hc1, hc2, hf0, hf1, hf2⟩ := cells3 hgc
  go_wp2_with fail
  have hset := set3 hgc (.float .f32 x) (.float .f32 y) (.float .f32 z)
  have hbw := hw3.trans (hset.2.mono hgw)
  clear hc0 hc1 hc2 hf0 hf1 hf2 hgc hw3
  generalize ((w3.setCell ⟨g, 0, none⟩ (.float .f32 x)).setCell ⟨g, 1, none⟩ (.float .f32 y)).setCell ⟨g, 2, none⟩ (.float .f32 z) = w4 at hset hbw ⊢
  have hkept := kept_app (keep hkept hbw) (kept3 hset.1)
  have W4b := below_step W0b hbw
  have hgt : w.heap.size + 1 < g := by
    have := some_lt (w := W1) (a := ⟨w.heap.size + 1, 0, none⟩) (by have hK1 := hkeptW1; simp only [Kept, List.forall_mem_append, List.forall_mem_cons, List.not_mem_nil, false_implies, implies_true, and_true, true_and] at hK1; simp [hK1])
    exact Nat.lt_of_lt_of_le this hgw
  clear hset hbw W0b hgw hkeptW1
  refine Qr.wp_below_all (by kernel_rfl) (by kernel_rfl) PhiF ?_
  repeat (first | (refine Qr.walk_plain rfl fun K hK => ?_; refine one_bin _ _ _ _ _ rfl _ _ _ rfl rfl rfl (fun r hr => ?_); go_simp; refine hK _ ?_; clear hK K) | (refine Qr.walk_plain rfl fun K hK => ?_; apply Qr.one_det; (focus (intro w' hw'; have HK := keep hkept hw'; simp only [Kept, List.forall_mem_append, List.forall_mem_cons, List.not_mem_nil, false_implies, implies_true, and_true, true_and] at HK; go_simp; first | done | rfl)); go_simp; refine hK _ ?_; clear hK K) | (refine Qr.walk_plain rfl fun K hK => ?_; apply Qr.one_call; (focus (intro w' hw'; go_simp; first | done | exact ⟨rfl, rfl⟩)); (focus (intro w' hw';  go_at_call 85; refine (long_any _ _ _ _).mono ?_; rintro _ w2 ⟨r1, rfl, hr1, hb1⟩ ; exact ⟨_, rfl, by constructor <;> assumption, hw'.trans (by exact Below.mono (by assumption) hw'.size), by assumption⟩)); intro v hv; cases hv; go_simp; refine hK _ ?_; clear hK K) | (refine Qr.walk_plain rfl fun K hK => ?_; apply Qr.one_call; (focus (intro w' hw'; go_simp; first | done | exact ⟨rfl, rfl⟩)); (focus (intro w' hw';  go_at_call 129; refine (inner_any _ _ _ _ _ _ _).mono ?_; rintro _ w2 ⟨r1, rfl, hr1, hb1⟩ ; exact ⟨_, rfl, by constructor <;> assumption, hw'.trans (by exact Below.mono (by assumption) hw'.size), by assumption⟩)); intro v hv; cases hv; go_simp; refine hK _ ?_; clear hK K) | (refine Qr.walk_plain rfl fun K hK => ?_; apply Qr.one_call; (focus (intro w' hw'; go_simp; first | done | exact ⟨rfl, rfl⟩)); (focus (intro w' hw';  go_at_call 75; refine (size_any _ _).mono ?_; rintro _ w2 ⟨r1, rfl, hr1, hb1⟩ ; exact ⟨_, rfl, by constructor <;> assumption, hw'.trans (by exact Below.mono (by assumption) hw'.size), by assumption⟩)); intro v hv; cases hv; go_simp; refine hK _ ?_; clear hK K) | (refine Qr.walk_plain rfl fun K hK => ?_; apply Qr.one_call; (focus (intro w' hw'; go_simp; first | done | exact ⟨rfl, rfl⟩)); (focus (intro w' hw';  go_at_call 84; refine (lesser_any _ _ _).mono ?_; rintro _ w2 ⟨r1, rfl, hr1, hb1⟩ ; exact ⟨_, rfl, by constructor <;> assumption, hw'.trans (by exact Below.mono (by assumption) hw'.size), by assumption⟩)); intro v hv; cases hv; go_simp; refine hK _ ?_; clear hK K) | (refine Qr.walk_plain rfl fun K hK => ?_; apply Qr.one_call; (focus (intro w' hw'; go_simp; first | done | exact ⟨rfl, rfl⟩)); (focus (intro w' hw';  go_at_call 183; refine (greater_any _ _ _).mono ?_; rintro _ w2 ⟨r1, rfl, hr1, hb1⟩ ; exact ⟨_, rfl, by constructor <;> assumption, hw'.trans (by exact Below.mono (by assumption) hw'.size), by assumption⟩)); intro v hv; cases hv; go_simp; refine hK _ ?_; clear hK K) | (refine Qr.walk_plain rfl fun K hK => ?_; apply Qr.one_call; (focus (intro w' hw'; go_simp; first | done | exact ⟨rfl, rfl⟩)); (focus (intro w' hw';  go_at_call 181; refine (short_any _ _ _).mono ?_; rintro _ w2 ⟨r1, rfl, hr1, hb1⟩ ; exact ⟨_, rfl, by constructor <;> assumption, hw'.trans (by exact Below.mono (by assumption) hw'.size), by assumption⟩)); intro v hv; cases hv; go_simp; refine hK _ ?_; clear hK K) | (refine Qr.walk_plain rfl fun K hK => ?_; apply Qr.one_call; (focus (intro w' hw'; go_simp; first | done | exact ⟨rfl, rfl⟩)); (focus (intro w' hw';  go_at_call 186; refine (bulge_any _ _ _).mono ?_; rintro _ w2 ⟨r1, rfl, hr1, hb1⟩ ; exact ⟨_, rfl, by constructor <;> assumption, hw'.trans (by exact Below.mono (by assumption) hw'.size), by assumption⟩)); intro v hv; cases hv; go_simp; refine hK _ ?_; clear hK K) | (refine Qr.walk_plain rfl fun K hK => ?_; apply Qr.one_call; (focus (intro w' hw'; go_simp; first | done | exact ⟨rfl, rfl⟩)); (focus (intro w' hw';  go_at_call 208; refine (fold_any _ _ _).mono ?_; rintro _ w2 ⟨r1, rfl, hr1, hb1⟩ ; exact ⟨_, rfl, by constructor <;> assumption, hw'.trans (by exact Below.mono (by assumption) hw'.size), by assumption⟩)); intro v hv; cases hv; go_simp; refine hK _ ?_; clear hK K) | (refine Qr.walk_plain rfl fun K hK => ?_; apply Qr.one_call; (focus (intro w' hw'; go_simp; first | done | exact ⟨rfl, rfl⟩)); (focus (intro w' hw';  go_at_call 174; refine (sine_any _ _).mono ?_; rintro _ w2 ⟨r1, rfl, hr1, hb1⟩ ; exact ⟨_, rfl, by constructor <;> assumption, hw'.trans (by exact Below.mono (by assumption) hw'.size), by assumption⟩)); intro v hv; cases hv; go_simp; refine hK _ ?_; clear hK K) | (refine Qr.walk_plain rfl fun K hK => ?_; apply Qr.one_call; (focus (intro w' hw'; go_simp; first | done | exact ⟨rfl, rfl⟩)); (focus (intro w' hw';  go_at_call 136; refine (coords_any _ _ _ _).mono ?_; rintro _ w2 ⟨rfl, hb1⟩ ; exact ⟨_, rfl, by constructor <;> assumption, hw'.trans (by exact Below.mono (by assumption) hw'.size), by assumption⟩)); intro v hv; cases hv; go_simp; refine hK _ ?_; clear hK K) | (refine Qr.walk_plain rfl fun K hK => ?_; apply Qr.one_call; (focus (intro w' hw'; go_simp; first | done | exact ⟨rfl, rfl⟩)); (focus (intro w' hw';  go_at_call 203; refine (vector_any _ _ _ _).mono ?_; rintro _ w2 ⟨rfl, hb1⟩ ; exact ⟨_, rfl, by constructor <;> assumption, hw'.trans (by exact Below.mono (by assumption) hw'.size), by assumption⟩)); intro v hv; cases hv; go_simp; refine hK _ ?_; clear hK K) | (refine Qr.walk_plain rfl fun K hK => ?_; apply Qr.one_call; (focus (intro w' hw'; go_simp; first | done | exact ⟨rfl, rfl⟩)); (focus (intro w' hw';  go_at_call 82; refine (less_any _ _ _ _ _ _ _).mono ?_; rintro _ w2 ⟨x1, y1, z1, rfl, hx1, hy1, hz1, hb1⟩ ; exact ⟨_, rfl, by constructor <;> assumption, hw'.trans (by exact Below.mono (by assumption) hw'.size), by assumption⟩)); intro v hv; cases hv; go_simp; refine hK _ ?_; clear hK K))
  refine Qr.walk_nil fun w5 hw5 => ?_
  have hkept := keep hkept hw5
  have W5b := below_step W4b hw5
  clear hw5 W4b
  have hK := hkept
  simp only [Kept, List.forall_mem_append, List.forall_mem_cons, List.not_mem_nil, false_implies, implies_true, and_true, true_and] at hK
  go_wp2_with fail
  clear hK
  have hres : Kept [(⟨w.heap.size + 1, 0, none⟩, .float .f32 0), (⟨w.heap.size + 1, 1, none⟩, .float .f32 0), (⟨w.heap.size + 1, 2, none⟩, .float .f32 0)] [⟨w.heap.size + 1, 0, none⟩, ⟨w.heap.size + 1, 1, none⟩, ⟨w.heap.size + 1, 2, none⟩] w5 := by
    have hK := hkept
    simp only [Kept, List.forall_mem_append, List.forall_mem_cons, List.not_mem_nil, false_implies, implies_true, and_true, true_and] at hK
    simp only [Kept, List.forall_mem_append, List.forall_mem_cons, List.not_mem_nil, false_implies, implies_true, and_true, true_and]; simp [hK]
  refine (vector_any _ _ _ _).mono ?_
  rintro _ w7 ⟨rfl, hb7⟩
  have hres := keep hres hb7
  have W7b := below_step W5b hb7
  have hK := hres
  simp only [Kept, List.forall_mem_append, List.forall_mem_cons, List.not_mem_nil, false_implies, implies_true, and_true, true_and] at hK
  go_wp2_with fail
  obtain ⟨hk1, hk2⟩ := hK
  exact bodyPost_ret (v := .agg #[.float .f32 _, .float .f32 _, .float .f32 _]) (by simp [results, Tryz.results165, go_sem, hk1, hk2]; first | done | exact ⟨rfl, rfl, rfl⟩) rfl ⟨_, _, _, rfl, rfl, rfl, rfl, (W7b.setCell (by exact Nat.le_succ _) _).setCell (by exact Nat.le_succ _) _ |>.setCell (by exact Nat.le_succ _) _⟩

set_option maxRecDepth 100000 in
set_option maxHeartbeats 2000000 in
theorem point_shell {b o sn cap x y z : Nat} {sp : Option Addr} {w : World} (hkept : Kept [(⟨b, o, none⟩, .int .i64 16), (⟨b, o + 2, none⟩, .int .i64 0), (⟨b, o + 3, none⟩, .slice sp sn cap)] [] w) :
    Calls Tryz.prog 165 #[.pointer (some ⟨b, o, none⟩), V3 x y z] w (RetV (cn .f32 x) (cn .f32 y) (cn .f32 z) w) := by
  have hK := hkept
  simp only [Kept, List.forall_mem_append, List.forall_mem_cons, List.not_mem_nil, false_implies, implies_true, and_true, true_and] at hK
  have hb : b < w.heap.size := some_lt (a := ⟨b, o, none⟩) (by rw [hK.1]; rfl)
  have hb1 : b < w.heap.size + 1 := by omega
  go_enter Tryz.func165, Tryz.ntmps165
  go_wp2_with fail
  have W0b : Below w.heap.size w ((w.alloc (.cells #[.float .f32 x, .float .f32 y, .float .f32 z] 35)).alloc (.cells #[.float .f32 0, .float .f32 0, .float .f32 0] 35)) := (by repeat' (first | exact Below.refl _ _ | exact Nat.le_refl _ | refine below_drewN ?_ _ | refine Below.alloc ?_ (by first | (simp; done) | (simp; omega)) _ | refine Below.setCell ?_ (by first | (simp; done) | (simp; omega)) _ | refine below_step ?_ (by assumption)))
  have hkept := kept_app (keep hkept W0b) (show Kept [(⟨w.heap.size, 0, none⟩, .float .f32 x), (⟨w.heap.size, 1, none⟩, .float .f32 y), (⟨w.heap.size, 2, none⟩, .float .f32 z), (⟨w.heap.size + 1, 0, none⟩, .float .f32 0), (⟨w.heap.size + 1, 1, none⟩, .float .f32 0), (⟨w.heap.size + 1, 2, none⟩, .float .f32 0)] [⟨w.heap.size + 1, 0, none⟩, ⟨w.heap.size + 1, 1, none⟩, ⟨w.heap.size + 1, 2, none⟩] ((w.alloc (.cells #[.float .f32 x, .float .f32 y, .float .f32 z] 35)).alloc (.cells #[.float .f32 0, .float .f32 0, .float .f32 0] 35)) by
    simp only [Kept, List.forall_mem_append, List.forall_mem_cons, List.not_mem_nil, false_implies, implies_true, and_true, true_and]; simp)
  clear hK
  generalize (w.alloc (.cells #[.float .f32 x, .float .f32 y, .float .f32 z] 35)).alloc (.cells #[.float .f32 0, .float .f32 0, .float .f32 0] 35) = W1 at W0b hkept ⊢
  have hkeptW1 := hkept
  refine Qr.wp_made 8 6 6 #[.float .f32 0, .float .f32 0, .float .f32 0] 176 (by kernel_rfl) (by kernel_rfl) PhiF rfl (by kernel_rfl) ⟨_, rfl, rfl, fun a w => by go_simp⟩ (by kernel_rfl) ?_
  repeat (first | (refine Qr.walk_plain rfl fun K hK => ?_; refine Qr.one_rel (fun v => ∃ g, v = .pointer (some ⟨g, 0, none⟩)) (fun w' hw' => ⟨.pointer (some ⟨w'.heap.size, 0, none⟩), _, by go_simp; rfl, ⟨_, rfl⟩, hw'.alloc hw'.size _, (Below.refl _ _).alloc (Nat.le_refl _) _⟩) (fun v hv => ?_); obtain ⟨g, rfl⟩ := hv; go_simp; refine hK _ ?_; clear hK K) | (first | (refine Qr.walk_plain rfl fun K hK => ?_; refine one_bin _ _ _ _ _ rfl _ _ _ rfl rfl rfl (fun r hr => ?_); go_simp; refine hK _ ?_; clear hK K) | (refine Qr.walk_plain rfl fun K hK => ?_; apply Qr.one_det; (focus (intro w' hw'; have HK := keep hkept hw'; simp only [Kept, List.forall_mem_append, List.forall_mem_cons, List.not_mem_nil, false_implies, implies_true, and_true, true_and] at HK; go_simp; first | done | rfl)); go_simp; refine hK _ ?_; clear hK K) | (refine Qr.walk_plain rfl fun K hK => ?_; apply Qr.one_call; (focus (intro w' hw'; go_simp; first | done | exact ⟨rfl, rfl⟩)); (focus (intro w' hw';  go_at_call 85; refine (long_any _ _ _ _).mono ?_; rintro _ w2 ⟨r1, rfl, hr1, hb1⟩ ; exact ⟨_, rfl, by constructor <;> assumption, hw'.trans (by exact Below.mono (by assumption) hw'.size), by assumption⟩)); intro v hv; cases hv; go_simp; refine hK _ ?_; clear hK K) | (refine Qr.walk_plain rfl fun K hK => ?_; apply Qr.one_call; (focus (intro w' hw'; go_simp; first | done | exact ⟨rfl, rfl⟩)); (focus (intro w' hw';  go_at_call 129; refine (inner_any _ _ _ _ _ _ _).mono ?_; rintro _ w2 ⟨r1, rfl, hr1, hb1⟩ ; exact ⟨_, rfl, by constructor <;> assumption, hw'.trans (by exact Below.mono (by assumption) hw'.size), by assumption⟩)); intro v hv; cases hv; go_simp; refine hK _ ?_; clear hK K) | (refine Qr.walk_plain rfl fun K hK => ?_; apply Qr.one_call; (focus (intro w' hw'; go_simp; first | done | exact ⟨rfl, rfl⟩)); (focus (intro w' hw';  go_at_call 75; refine (size_any _ _).mono ?_; rintro _ w2 ⟨r1, rfl, hr1, hb1⟩ ; exact ⟨_, rfl, by constructor <;> assumption, hw'.trans (by exact Below.mono (by assumption) hw'.size), by assumption⟩)); intro v hv; cases hv; go_simp; refine hK _ ?_; clear hK K) | (refine Qr.walk_plain rfl fun K hK => ?_; apply Qr.one_call; (focus (intro w' hw'; go_simp; first | done | exact ⟨rfl, rfl⟩)); (focus (intro w' hw';  go_at_call 84; refine (lesser_any _ _ _).mono ?_; rintro _ w2 ⟨r1, rfl, hr1, hb1⟩ ; exact ⟨_, rfl, by constructor <;> assumption, hw'.trans (by exact Below.mono (by assumption) hw'.size), by assumption⟩)); intro v hv; cases hv; go_simp; refine hK _ ?_; clear hK K) | (refine Qr.walk_plain rfl fun K hK => ?_; apply Qr.one_call; (focus (intro w' hw'; go_simp; first | done | exact ⟨rfl, rfl⟩)); (focus (intro w' hw';  go_at_call 183; refine (greater_any _ _ _).mono ?_; rintro _ w2 ⟨r1, rfl, hr1, hb1⟩ ; exact ⟨_, rfl, by constructor <;> assumption, hw'.trans (by exact Below.mono (by assumption) hw'.size), by assumption⟩)); intro v hv; cases hv; go_simp; refine hK _ ?_; clear hK K) | (refine Qr.walk_plain rfl fun K hK => ?_; apply Qr.one_call; (focus (intro w' hw'; go_simp; first | done | exact ⟨rfl, rfl⟩)); (focus (intro w' hw';  go_at_call 181; refine (short_any _ _ _).mono ?_; rintro _ w2 ⟨r1, rfl, hr1, hb1⟩ ; exact ⟨_, rfl, by constructor <;> assumption, hw'.trans (by exact Below.mono (by assumption) hw'.size), by assumption⟩)); intro v hv; cases hv; go_simp; refine hK _ ?_; clear hK K) | (refine Qr.walk_plain rfl fun K hK => ?_; apply Qr.one_call; (focus (intro w' hw'; go_simp; first | done | exact ⟨rfl, rfl⟩)); (focus (intro w' hw';  go_at_call 186; refine (bulge_any _ _ _).mono ?_; rintro _ w2 ⟨r1, rfl, hr1, hb1⟩ ; exact ⟨_, rfl, by constructor <;> assumption, hw'.trans (by exact Below.mono (by assumption) hw'.size), by assumption⟩)); intro v hv; cases hv; go_simp; refine hK _ ?_; clear hK K) | (refine Qr.walk_plain rfl fun K hK => ?_; apply Qr.one_call; (focus (intro w' hw'; go_simp; first | done | exact ⟨rfl, rfl⟩)); (focus (intro w' hw';  go_at_call 208; refine (fold_any _ _ _).mono ?_; rintro _ w2 ⟨r1, rfl, hr1, hb1⟩ ; exact ⟨_, rfl, by constructor <;> assumption, hw'.trans (by exact Below.mono (by assumption) hw'.size), by assumption⟩)); intro v hv; cases hv; go_simp; refine hK _ ?_; clear hK K) | (refine Qr.walk_plain rfl fun K hK => ?_; apply Qr.one_call; (focus (intro w' hw'; go_simp; first | done | exact ⟨rfl, rfl⟩)); (focus (intro w' hw';  go_at_call 174; refine (sine_any _ _).mono ?_; rintro _ w2 ⟨r1, rfl, hr1, hb1⟩ ; exact ⟨_, rfl, by constructor <;> assumption, hw'.trans (by exact Below.mono (by assumption) hw'.size), by assumption⟩)); intro v hv; cases hv; go_simp; refine hK _ ?_; clear hK K) | (refine Qr.walk_plain rfl fun K hK => ?_; apply Qr.one_call; (focus (intro w' hw'; go_simp; first | done | exact ⟨rfl, rfl⟩)); (focus (intro w' hw';  go_at_call 136; refine (coords_any _ _ _ _).mono ?_; rintro _ w2 ⟨rfl, hb1⟩ ; exact ⟨_, rfl, by constructor <;> assumption, hw'.trans (by exact Below.mono (by assumption) hw'.size), by assumption⟩)); intro v hv; cases hv; go_simp; refine hK _ ?_; clear hK K) | (refine Qr.walk_plain rfl fun K hK => ?_; apply Qr.one_call; (focus (intro w' hw'; go_simp; first | done | exact ⟨rfl, rfl⟩)); (focus (intro w' hw';  go_at_call 203; refine (vector_any _ _ _ _).mono ?_; rintro _ w2 ⟨rfl, hb1⟩ ; exact ⟨_, rfl, by constructor <;> assumption, hw'.trans (by exact Below.mono (by assumption) hw'.size), by assumption⟩)); intro v hv; cases hv; go_simp; refine hK _ ?_; clear hK K) | (refine Qr.walk_plain rfl fun K hK => ?_; apply Qr.one_call; (focus (intro w' hw'; go_simp; first | done | exact ⟨rfl, rfl⟩)); (focus (intro w' hw';  go_at_call 82; refine (less_any _ _ _ _ _ _ _).mono ?_; rintro _ w2 ⟨x1, y1, z1, rfl, hx1, hy1, hz1, hb1⟩ ; exact ⟨_, rfl, by constructor <;> assumption, hw'.trans (by exact Below.mono (by assumption) hw'.size), by assumption⟩)); intro v hv; cases hv; go_simp; refine hK _ ?_; clear hK K)))
  refine Qr.walk_nil fun w3 hw3 hmade => ?_
  obtain ⟨g3, hg3, hgw, hgc⟩ := hmade _ rfl
  injection hg3 with hg3
  injection hg3 with hg3
  subst hg3
  obtain ⟨hc0, hc1, hc2, hf0, hf1, hf2⟩ := cells3 hgc
  go_wp2_with fail
  have hset := set3 hgc (.float .f32 x) (.float .f32 y) (.float .f32 z)
  have hbw := hw3.trans (hset.2.mono hgw)
  clear hc0 hc1 hc2 hf0 hf1 hf2 hgc hw3
  generalize ((w3.setCell ⟨g, 0, none⟩ (.float .f32 x)).setCell ⟨g, 1, none⟩ (.float .f32 y)).setCell ⟨g, 2, none⟩ (.float .f32 z) = w4 at hset hbw ⊢
  have hkept := kept_app (keep hkept hbw) (kept3 hset.1)
  have W4b := below_step W0b hbw
  have hgt : w.heap.size + 1 < g := by
    have := some_lt (w := W1) (a := ⟨w.heap.size + 1, 0, none⟩) (by have hK1 := hkeptW1; simp only [Kept, List.forall_mem_append, List.forall_mem_cons, List.not_mem_nil, false_implies, implies_true, and_true, true_and] at hK1; simp [hK1])
    exact Nat.lt_of_lt_of_le this hgw
  clear hset hbw W0b hgw hkeptW1
  refine Qr.wp_below_all (by kernel_rfl) (by kernel_rfl) PhiF ?_
  repeat (first | (refine Qr.walk_plain rfl fun K hK => ?_; refine one_bin _ _ _ _ _ rfl _ _ _ rfl rfl rfl (fun r hr => ?_); go_simp; refine hK _ ?_; clear hK K) | (refine Qr.walk_plain rfl fun K hK => ?_; apply Qr.one_det; (focus (intro w' hw'; have HK := keep hkept hw'; simp only [Kept, List.forall_mem_append, List.forall_mem_cons, List.not_mem_nil, false_implies, implies_true, and_true, true_and] at HK; go_simp; first | done | rfl)); go_simp; refine hK _ ?_; clear hK K) | (refine Qr.walk_plain rfl fun K hK => ?_; apply Qr.one_call; (focus (intro w' hw'; go_simp; first | done | exact ⟨rfl, rfl⟩)); (focus (intro w' hw';  go_at_call 85; refine (long_any _ _ _ _).mono ?_; rintro _ w2 ⟨r1, rfl, hr1, hb1⟩ ; exact ⟨_, rfl, by constructor <;> assumption, hw'.trans (by exact Below.mono (by assumption) hw'.size), by assumption⟩)); intro v hv; cases hv; go_simp; refine hK _ ?_; clear hK K) | (refine Qr.walk_plain rfl fun K hK => ?_; apply Qr.one_call; (focus (intro w' hw'; go_simp; first | done | exact ⟨rfl, rfl⟩)); (focus (intro w' hw';  go_at_call 129; refine (inner_any _ _ _ _ _ _ _).mono ?_; rintro _ w2 ⟨r1, rfl, hr1, hb1⟩ ; exact ⟨_, rfl, by constructor <;> assumption, hw'.trans (by exact Below.mono (by assumption) hw'.size), by assumption⟩)); intro v hv; cases hv; go_simp; refine hK _ ?_; clear hK K) | (refine Qr.walk_plain rfl fun K hK => ?_; apply Qr.one_call; (focus (intro w' hw'; go_simp; first | done | exact ⟨rfl, rfl⟩)); (focus (intro w' hw';  go_at_call 75; refine (size_any _ _).mono ?_; rintro _ w2 ⟨r1, rfl, hr1, hb1⟩ ; exact ⟨_, rfl, by constructor <;> assumption, hw'.trans (by exact Below.mono (by assumption) hw'.size), by assumption⟩)); intro v hv; cases hv; go_simp; refine hK _ ?_; clear hK K) | (refine Qr.walk_plain rfl fun K hK => ?_; apply Qr.one_call; (focus (intro w' hw'; go_simp; first | done | exact ⟨rfl, rfl⟩)); (focus (intro w' hw';  go_at_call 84; refine (lesser_any _ _ _).mono ?_; rintro _ w2 ⟨r1, rfl, hr1, hb1⟩ ; exact ⟨_, rfl, by constructor <;> assumption, hw'.trans (by exact Below.mono (by assumption) hw'.size), by assumption⟩)); intro v hv; cases hv; go_simp; refine hK _ ?_; clear hK K) | (refine Qr.walk_plain rfl fun K hK => ?_; apply Qr.one_call; (focus (intro w' hw'; go_simp; first | done | exact ⟨rfl, rfl⟩)); (focus (intro w' hw';  go_at_call 183; refine (greater_any _ _ _).mono ?_; rintro _ w2 ⟨r1, rfl, hr1, hb1⟩ ; exact ⟨_, rfl, by constructor <;> assumption, hw'.trans (by exact Below.mono (by assumption) hw'.size), by assumption⟩)); intro v hv; cases hv; go_simp; refine hK _ ?_; clear hK K) | (refine Qr.walk_plain rfl fun K hK => ?_; apply Qr.one_call; (focus (intro w' hw'; go_simp; first | done | exact ⟨rfl, rfl⟩)); (focus (intro w' hw';  go_at_call 181; refine (short_any _ _ _).mono ?_; rintro _ w2 ⟨r1, rfl, hr1, hb1⟩ ; exact ⟨_, rfl, by constructor <;> assumption, hw'.trans (by exact Below.mono (by assumption) hw'.size), by assumption⟩)); intro v hv; cases hv; go_simp; refine hK _ ?_; clear hK K) | (refine Qr.walk_plain rfl fun K hK => ?_; apply Qr.one_call; (focus (intro w' hw'; go_simp; first | done | exact ⟨rfl, rfl⟩)); (focus (intro w' hw';  go_at_call 186; refine (bulge_any _ _ _).mono ?_; rintro _ w2 ⟨r1, rfl, hr1, hb1⟩ ; exact ⟨_, rfl, by constructor <;> assumption, hw'.trans (by exact Below.mono (by assumption) hw'.size), by assumption⟩)); intro v hv; cases hv; go_simp; refine hK _ ?_; clear hK K) | (refine Qr.walk_plain rfl fun K hK => ?_; apply Qr.one_call; (focus (intro w' hw'; go_simp; first | done | exact ⟨rfl, rfl⟩)); (focus (intro w' hw';  go_at_call 208; refine (fold_any _ _ _).mono ?_; rintro _ w2 ⟨r1, rfl, hr1, hb1⟩ ; exact ⟨_, rfl, by constructor <;> assumption, hw'.trans (by exact Below.mono (by assumption) hw'.size), by assumption⟩)); intro v hv; cases hv; go_simp; refine hK _ ?_; clear hK K) | (refine Qr.walk_plain rfl fun K hK => ?_; apply Qr.one_call; (focus (intro w' hw'; go_simp; first | done | exact ⟨rfl, rfl⟩)); (focus (intro w' hw';  go_at_call 174; refine (sine_any _ _).mono ?_; rintro _ w2 ⟨r1, rfl, hr1, hb1⟩ ; exact ⟨_, rfl, by constructor <;> assumption, hw'.trans (by exact Below.mono (by assumption) hw'.size), by assumption⟩)); intro v hv; cases hv; go_simp; refine hK _ ?_; clear hK K) | (refine Qr.walk_plain rfl fun K hK => ?_; apply Qr.one_call; (focus (intro w' hw'; go_simp; first | done | exact ⟨rfl, rfl⟩)); (focus (intro w' hw';  go_at_call 136; refine (coords_any _ _ _ _).mono ?_; rintro _ w2 ⟨rfl, hb1⟩ ; exact ⟨_, rfl, by constructor <;> assumption, hw'.trans (by exact Below.mono (by assumption) hw'.size), by assumption⟩)); intro v hv; cases hv; go_simp; refine hK _ ?_; clear hK K) | (refine Qr.walk_plain rfl fun K hK => ?_; apply Qr.one_call; (focus (intro w' hw'; go_simp; first | done | exact ⟨rfl, rfl⟩)); (focus (intro w' hw';  go_at_call 203; refine (vector_any _ _ _ _).mono ?_; rintro _ w2 ⟨rfl, hb1⟩ ; exact ⟨_, rfl, by constructor <;> assumption, hw'.trans (by exact Below.mono (by assumption) hw'.size), by assumption⟩)); intro v hv; cases hv; go_simp; refine hK _ ?_; clear hK K) | (refine Qr.walk_plain rfl fun K hK => ?_; apply Qr.one_call; (focus (intro w' hw'; go_simp; first | done | exact ⟨rfl, rfl⟩)); (focus (intro w' hw';  go_at_call 82; refine (less_any _ _ _ _ _ _ _).mono ?_; rintro _ w2 ⟨x1, y1, z1, rfl, hx1, hy1, hz1, hb1⟩ ; exact ⟨_, rfl, by constructor <;> assumption, hw'.trans (by exact Below.mono (by assumption) hw'.size), by assumption⟩)); intro v hv; cases hv; go_simp; refine hK _ ?_; clear hK K))
  refine Qr.walk_nil fun w5 hw5 => ?_
  have hkept := keep hkept hw5
  have W5b := below_step W4b hw5
  clear hw5 W4b
  have hK := hkept
  simp only [Kept, List.forall_mem_append, List.forall_mem_cons, List.not_mem_nil, false_implies, implies_true, and_true, true_and] at hK
  go_wp2_with fail
  clear hK
  have hres : Kept [(⟨w.heap.size + 1, 0, none⟩, .float .f32 0), (⟨w.heap.size + 1, 1, none⟩, .float .f32 0), (⟨w.heap.size + 1, 2, none⟩, .float .f32 0)] [⟨w.heap.size + 1, 0, none⟩, ⟨w.heap.size + 1, 1, none⟩, ⟨w.heap.size + 1, 2, none⟩] w5 := by
    have hK := hkept
    simp only [Kept, List.forall_mem_append, List.forall_mem_cons, List.not_mem_nil, false_implies, implies_true, and_true, true_and] at hK
    simp only [Kept, List.forall_mem_append, List.forall_mem_cons, List.not_mem_nil, false_implies, implies_true, and_true, true_and]; simp [hK]
  refine (vector_any _ _ _ _).mono ?_
  rintro _ w7 ⟨rfl, hb7⟩
  have hres := keep hres hb7
  have W7b := below_step W5b hb7
  have hK := hres
  simp only [Kept, List.forall_mem_append, List.forall_mem_cons, List.not_mem_nil, false_implies, implies_true, and_true, true_and] at hK
  go_wp2_with fail
  obtain ⟨hk1, hk2⟩ := hK
  exact bodyPost_ret (v := .agg #[.float .f32 _, .float .f32 _, .float .f32 _]) (by simp [results, Tryz.results165, go_sem, hk1, hk2]; first | done | exact ⟨rfl, rfl, rfl⟩) rfl ⟨_, _, _, rfl, rfl, rfl, rfl, (W7b.setCell (by exact Nat.le_succ _) _).setCell (by exact Nat.le_succ _) _ |>.setCell (by exact Nat.le_succ _) _⟩
end Go.Proofs.YtdbpgblhnhdhoaaGreat

namespace Go.Proofs.YtdbpgblhnhdhoaaGreat
open Go.RowKit Go.Fl

theorem point_all {n : PN} {b o : Nat} {w : World} (hn : NodeIn n b o w) (hok : n.ok) (hc : (ruleF n.kind).2.1 = 1) (x y z : Nat) :
    Calls Tryz.prog 165 #[.pointer (some ⟨b, o, none⟩), V3 x y z] w (RetV (pointF n (cn .f32 x, cn .f32 y, cn .f32 z)).1 (pointF n (cn .f32 x, cn .f32 y, cn .f32 z)).2.1 (pointF n (cn .f32 x, cn .f32 y, cn .f32 z)).2.2 w) := by
  by_cases h15 : n.kind = 15
  · obtain ⟨bp, bv, ov, cap, h1, h2, h3⟩ := hn.nums
    have hk := hn.kind
    have hB := hn.b
    have hax := hok.axis
    obtain ⟨k, na, nb, nums⟩ := n
    simp only at *
    subst h15
    have hb0 : nb = 0 := by
      rcases hax with h | h | ⟨h, _⟩
      · exact absurd h (by decide)
      · exact h
      · exact absurd h (by decide)
    subst hb0
    exact point_round (kof (by simp only [List.forall_mem_cons, List.not_mem_nil, false_implies, implies_true, and_true]; exact ⟨hk, hB, h1⟩))
  by_cases h16 : n.kind = 16
  · obtain ⟨bp, bv, ov, cap, h1, h2, h3⟩ := hn.nums
    have hk := hn.kind
    have hB := hn.b
    have hax := hok.axis
    obtain ⟨k, na, nb, nums⟩ := n
    simp only at *
    subst h16
    have hb0 : nb = 0 := by
      rcases hax with h | h | ⟨h, _⟩
      · exact absurd h (by decide)
      · exact h
      · exact absurd h (by decide)
    subst hb0
    exact point_shell (kof (by simp only [List.forall_mem_cons, List.not_mem_nil, false_implies, implies_true, and_true]; exact ⟨hk, hB, h1⟩))
  exact point_node hn hok hc h15 h16 x y z

/-- A list of nodes lies behind a slice at a place. -/
structure ShapeIn (ns : List PN) (sb so nb no cap : Nat) (w : World) : Prop where
  list : w.cell? ⟨sb, so, none⟩ = some (.slice (some ⟨nb, no, none⟩) ns.length cap)
  node : ∀ i (h : i < ns.length), NodeIn ns[i] nb (no + i * 4) w

theorem ShapeIn.keep {ns : List PN} {sb so nb no cap : Nat} {w w' : World} (h : ShapeIn ns sb so nb no cap w) (hb : Below w.heap.size w w') : ShapeIn ns sb so nb no cap w' :=
  ⟨by rw [lift hb _ (by rw [h.list]; rfl)]; exact h.list, fun i hi => (h.node i hi).keep hb⟩

/-- Every node is right, its children lie ahead of it. -/
def OkAll (ns : List PN) : Prop := ∀ i (h : i < ns.length), ns[i].ok ∧ ((ruleF ns[i].kind).2.1 ≠ 0 → 0 ≤ ns[i].a ∧ ns[i].a < i) ∧ ((ruleF ns[i].kind).2.1 = 2 → 0 ≤ ns[i].b ∧ ns[i].b < i)

def distF (ns : List PN) : Nat → Nat → Nat × Nat × Nat → Nat
  | 0, _, _ => 0
  | f + 1, i, p =>
    match ns[i]? with
    | none => 0
    | some n =>
      match (ruleF n.kind).2.1 with
      | 0 => leafF n p.1 p.2.1 p.2.2
      | 1 => mixF n (distF ns f n.a.toNat (pointF n p)) 0
      | _ => mixF n (distF ns f n.a.toNat p) (distF ns f n.b.toNat p)

inductive PhiD (ns : List PN) (f : Nat) (n : PN) : FuncId → Array Value → Value → Prop
  | dist (sa : Addr) (i : Int) (x y z r : Nat) (h : cn .f32 r = distF ns f i.toNat (cn .f32 x, cn .f32 y, cn .f32 z)) : PhiD ns f n 122 #[.pointer (some sa), .int .i64 i, V3 x y z] (F1 r)
  | point (pa : Addr) (x y z a b c : Nat) (h1 : cn .f32 a = (pointF n (cn .f32 x, cn .f32 y, cn .f32 z)).1) (h2 : cn .f32 b = (pointF n (cn .f32 x, cn .f32 y, cn .f32 z)).2.1) (h3 : cn .f32 c = (pointF n (cn .f32 x, cn .f32 y, cn .f32 z)).2.2) : PhiD ns f n 165 #[.pointer (some pa), V3 x y z] (V3 a b c)
  | mix (pa : Addr) (x y r : Nat) (h : cn .f32 r = mixF n (cn .f32 x) (cn .f32 y)) : PhiD ns f n 164 #[.pointer (some pa), F1 x, F1 y] (F1 r)

set_option maxRecDepth 100000 in
set_option maxHeartbeats 2000000 in
theorem dist_any (ns : List PN) (hok : OkAll ns) (sb so nb no cap : Nat) : ∀ (f i x y z : Nat) (w : World), i < f → i < ns.length → ShapeIn ns sb so nb no cap w →
    Calls Tryz.prog 122 #[.pointer (some ⟨sb, so, none⟩), .int .i64 i, V3 x y z] w (Ret .f32 (distF ns f i (cn .f32 x, cn .f32 y, cn .f32 z)) w) := by
  intro f
  induction f with
  | zero => intro i _ _ _ _ h; omega
  | succ f ih =>
    intro i x y z w hif hin hsh
    have hlist := hsh.list
    have hn := hsh.node i hin
    obtain ⟨hokn, hca, hcb⟩ := hok i hin
    have hget : ns[i]? = some ns[i] := List.getElem?_eq_getElem hin
    have hi0 : (0 : Int) ≤ (i : Int) := by omega
    have hin' : (i : Int) < (ns.length : Int) := by omega
    generalize ns[i] = n at *
    have hkind := hn.kind
    have hA := hn.a
    have hB := hn.b
    have hnb : nb < w.heap.size := some_lt (a := ⟨nb, no + i * 4, none⟩) (by rw [hkind]; rfl)
    have hsb : sb < w.heap.size := some_lt (a := ⟨sb, so, none⟩) (by rw [hlist]; rfl)
    go_enter Tryz.func122, Tryz.ntmps122
    go_wp2_with fail
    have W1b : Below w.heap.size w (w.alloc (.cells #[.float .f32 x, .float .f32 y, .float .f32 z] 35)) := (by repeat' (first | exact Below.refl _ _ | exact Nat.le_refl _ | refine below_drewN ?_ _ | refine Below.alloc ?_ (by first | (simp; done) | (simp; omega)) _ | refine Below.setCell ?_ (by first | (simp; done) | (simp; omega)) _ | refine below_step ?_ (by assumption)))

    have hbox : Kept [(⟨w.heap.size, 0, none⟩, .float .f32 x), (⟨w.heap.size, 1, none⟩, .float .f32 y), (⟨w.heap.size, 2, none⟩, .float .f32 z)] [] (w.alloc (.cells #[.float .f32 x, .float .f32 y, .float .f32 z] 35)) := by
      simp only [Kept, List.forall_mem_append, List.forall_mem_cons, List.not_mem_nil, false_implies, implies_true, and_true, true_and]
      simp
    generalize w.alloc (.cells #[.float .f32 x, .float .f32 y, .float .f32 z] 35) = W1 at W1b hbox ⊢
    have hn1 := hn.keep W1b
    refine (children_any nb (no + i * 4) n.kind n.a n.b W1 hn1.kind hn1.a hn1.b).mono ?_
    rintro _ w2 ⟨g, rfl, -, -, -, hb2⟩
    have W2b := below_step W1b hb2
    have hn2 := hn.keep W2b
    have hsh2 := hsh.keep W2b
    have hbox := keep hbox hb2
    have hK := hbox
    have hkind := hn2.kind
    have hA := hn2.a
    have hB := hn2.b
    simp only [Kept, List.forall_mem_append, List.forall_mem_cons, List.not_mem_nil, false_implies, implies_true, and_true, true_and] at hK
    clear hb2 hn1 W1b hlist
    have hc3 : (ruleF n.kind).2.1 = 0 ∨ (ruleF n.kind).2.1 = 1 ∨ (ruleF n.kind).2.1 = 2 := by
      unfold ruleF; split
      · unfold ruleT; split <;> simp
      · simp
    have hd : ∀ p, distF ns (f + 1) i p = match (ruleF n.kind).2.1 with
      | 0 => leafF n p.1 p.2.1 p.2.2
      | 1 => mixF n (distF ns f n.a.toNat (pointF n p)) 0
      | _ => mixF n (distF ns f n.a.toNat p) (distF ns f n.b.toNat p) := fun p => by
      rw [distF, hget]
    have ihA : (ruleF n.kind).2.1 ≠ 0 → ∀ (x y z : Nat) (w : World), ShapeIn ns sb so nb no cap w → Calls Tryz.prog 122 #[.pointer (some ⟨sb, so, none⟩), .int .i64 n.a, V3 x y z] w (Ret .f32 (distF ns f n.a.toNat (cn .f32 x, cn .f32 y, cn .f32 z)) w) := fun h x y z w hs => by
      have h1 := hca h
      have h2 := ih n.a.toNat x y z w (by omega) (by omega) hs
      rwa [Int.toNat_of_nonneg h1.1] at h2
    have ihB : (ruleF n.kind).2.1 = 2 → ∀ (x y z : Nat) (w : World), ShapeIn ns sb so nb no cap w → Calls Tryz.prog 122 #[.pointer (some ⟨sb, so, none⟩), .int .i64 n.b, V3 x y z] w (Ret .f32 (distF ns f n.b.toNat (cn .f32 x, cn .f32 y, cn .f32 z)) w) := fun h x y z w hs => by
      have h1 := hcb h
      have h2 := ih n.b.toNat x y z w (by omega) (by omega) hs
      rwa [Int.toNat_of_nonneg h1.1] at h2
    have hkept : Kept [(⟨nb, no + i * 4 + 1, none⟩, .int .i64 n.a), (⟨nb, no + i * 4 + 2, none⟩, .int .i64 n.b), (⟨w.heap.size, 0, none⟩, .float .f32 x), (⟨w.heap.size, 1, none⟩, .float .f32 y), (⟨w.heap.size, 2, none⟩, .float .f32 z)] [] w2 := by
      simp only [Kept, List.forall_mem_append, List.forall_mem_cons, List.not_mem_nil, false_implies, implies_true, and_true, true_and]
      exact ⟨hA, hB, hK⟩
    clear ih hok hca hcb hsh hn
    rcases hc3 with hc | hc | hc
    · have hd := hd (cn .f32 x, cn .f32 y, cn .f32 z)
      rw [hc] at hd ⊢
      go_wp2_with fail
      refine (leaf_node hn2 hokn hc x y z).mono ?_
      rintro _ w3 ⟨r, rfl, hr, hb3⟩
      go_wp2_with fail
      go_ret
      exact ⟨_, rfl, by rw [hr, hd], below_step W2b hb3⟩
    · have hd := hd (cn .f32 x, cn .f32 y, cn .f32 z)
      rw [hc] at hd ⊢
      have ihA := ihA (by rw [hc]; decide)
      go_wp2_with fail
      refine Qr.wp_below_all (by kernel_rfl) (by kernel_rfl) (PhiD ns f n) ?_
      repeat (first | (refine Qr.walk_plain rfl fun K hK => ?_; apply Qr.one_det; (focus (intro w' hw'; have HK := keep hkept hw'; simp only [Kept, List.forall_mem_append, List.forall_mem_cons, List.not_mem_nil, false_implies, implies_true, and_true, true_and] at HK; go_simp; first | done | rfl)); go_simp; refine hK _ ?_; clear hK K) | (refine Qr.walk_plain rfl fun K hK => ?_; apply Qr.one_call; (focus (intro w' hw'; go_simp; first | done | exact ⟨rfl, rfl⟩)); (focus (intro w' hw';  go_at_call 165; refine (point_all (hn2.keep hw') hokn hc _ _ _).mono ?_; rintro _ w3 ⟨r1, r2, r3, rfl, hr1, hr2, hr3, hb1⟩ ; exact ⟨_, rfl, by constructor <;> assumption, hw'.trans (by exact Below.mono (by assumption) hw'.size), by assumption⟩)); intro v hv; cases hv; go_simp; refine hK _ ?_; clear hK K) | (refine Qr.walk_plain rfl fun K hK => ?_; apply Qr.one_call; (focus (intro w' hw'; go_simp; first | done | exact ⟨rfl, rfl⟩)); (focus (intro w' hw';  go_at_call 122; refine (ihA _ _ _ _ (hsh2.keep hw')).mono ?_; rintro _ w3 ⟨r1, rfl, hr1, hb1⟩ ; exact ⟨_, rfl, by constructor <;> assumption, hw'.trans (by exact Below.mono (by assumption) hw'.size), by assumption⟩)); intro v hv; cases hv; go_simp; refine hK _ ?_; clear hK K) | (refine Qr.walk_plain rfl fun K hK => ?_; apply Qr.one_call; (focus (intro w' hw'; go_simp; first | done | exact ⟨rfl, rfl⟩)); (focus (intro w' hw';  go_at_call 164; refine (mix_node (hn2.keep hw') hokn (by rw [hc]; decide) _ _).mono ?_; rintro _ w3 ⟨r1, rfl, hr1, hb1⟩ ; exact ⟨_, rfl, by constructor <;> assumption, hw'.trans (by exact Below.mono (by assumption) hw'.size), by assumption⟩)); intro v hv; cases hv; go_simp; refine hK _ ?_; clear hK K))
      rename_i a1 b1 c1 h1 h2 h3 r1 e1 r e
      refine Qr.walk_nil fun w5 hw5 => ?_
      go_wp2_with fail
      go_ret
      exact ⟨r, rfl, by rw [hd, e, e1, h1, h2, h3, cn_zero], below_step W2b hw5⟩
    · have hd := hd (cn .f32 x, cn .f32 y, cn .f32 z)
      rw [hc] at hd ⊢
      have ihA := ihA (by rw [hc]; decide)
      have ihB := ihB hc
      have ihAB : ∀ c : Int, c = n.a ∨ c = n.b → ∀ (x y z : Nat) (w : World), ShapeIn ns sb so nb no cap w → Calls Tryz.prog 122 #[.pointer (some ⟨sb, so, none⟩), .int .i64 c, V3 x y z] w (Ret .f32 (distF ns f c.toNat (cn .f32 x, cn .f32 y, cn .f32 z)) w) := by
        intro c hc
        rcases hc with h | h <;> subst h
        · exact ihA
        · exact ihB
      clear ihA ihB
      go_wp2_with fail
      refine Qr.wp_below_all (by kernel_rfl) (by kernel_rfl) (PhiD ns f n) ?_
      repeat (first | (refine Qr.walk_plain rfl fun K hK => ?_; apply Qr.one_det; (focus (intro w' hw'; have HK := keep hkept hw'; simp only [Kept, List.forall_mem_append, List.forall_mem_cons, List.not_mem_nil, false_implies, implies_true, and_true, true_and] at HK; go_simp; first | done | rfl)); go_simp; refine hK _ ?_; clear hK K) | (refine Qr.walk_plain rfl fun K hK => ?_; apply Qr.one_call; (focus (intro w' hw'; go_simp; first | done | exact ⟨rfl, rfl⟩)); (focus (intro w' hw';  go_at_call 122; refine (ihAB _ (by first | exact Or.inl rfl | exact Or.inr rfl) _ _ _ _ (hsh2.keep hw')).mono ?_; rintro _ w3 ⟨r1, rfl, hr1, hb1⟩ ; exact ⟨_, rfl, by constructor <;> assumption, hw'.trans (by exact Below.mono (by assumption) hw'.size), by assumption⟩)); intro v hv; cases hv; go_simp; refine hK _ ?_; clear hK K) | (refine Qr.walk_plain rfl fun K hK => ?_; apply Qr.one_call; (focus (intro w' hw'; go_simp; first | done | exact ⟨rfl, rfl⟩)); (focus (intro w' hw';  go_at_call 164; refine (mix_node (hn2.keep hw') hokn (by rw [hc]; decide) _ _).mono ?_; rintro _ w3 ⟨r1, rfl, hr1, hb1⟩ ; exact ⟨_, rfl, by constructor <;> assumption, hw'.trans (by exact Below.mono (by assumption) hw'.size), by assumption⟩)); intro v hv; cases hv; go_simp; refine hK _ ?_; clear hK K))
      rename_i r1 e1 r2 e2 r e
      refine Qr.walk_nil fun w5 hw5 => ?_
      go_wp2_with fail
      go_ret
      exact ⟨r, rfl, by rw [hd, e, e1, e2], below_step W2b hw5⟩

end Go.Proofs.YtdbpgblhnhdhoaaGreat

namespace Go.Proofs.YtdbpgblhnhdhoaaGreat
open Go.RowKit Go.Fl

def topF (ns : List PN) (p : Nat × Nat × Nat) : Nat := distF ns ns.length (ns.length - 1) p

inductive PhiT (ns : List PN) : FuncId → Array Value → Value → Prop
  | last (sa : Addr) : PhiT ns 93 #[.pointer (some sa)] (.int .i64 ((ns.length : Int) - 1))
  | dist (sa : Addr) (i : Int) (x y z r : Nat) (h : cn .f32 r = distF ns ns.length i.toNat (cn .f32 x, cn .f32 y, cn .f32 z)) : PhiT ns 122 #[.pointer (some sa), .int .i64 i, V3 x y z] (F1 r)

theorem last_len {n : Nat} (h : 1 ≤ n ∧ n ≤ 1000) : wrap64 ((n : Int) - 1) = (n : Int) - 1 := by
  unfold wrap64; omega

set_option maxRecDepth 100000 in
set_option maxHeartbeats 2000000 in
theorem at_any (ns : List PN) (hok : OkAll ns) (hl : 1 ≤ ns.length ∧ ns.length ≤ 1000) (sb so nb no cap x y z : Nat) (w : World) (hsh : ShapeIn ns sb so nb no cap w) :
    Calls Tryz.prog 72 #[.pointer (some ⟨sb, so, none⟩), V3 x y z] w (Ret .f32 (topF ns (cn .f32 x, cn .f32 y, cn .f32 z)) w) := by
  have hsb : sb < w.heap.size := some_lt (a := ⟨sb, so, none⟩) (by rw [hsh.list]; rfl)
  have hlast : ∀ w', ShapeIn ns sb so nb no cap w' → Calls Tryz.prog 93 #[.pointer (some ⟨sb, so, none⟩)] w' (fun e w'' => e = .returned (.int .i64 ((ns.length : Int) - 1)) ∧ Below w'.heap.size w' w'') := fun w' h =>
    (last_any sb so _ _ _ w' h.list).mono (by rintro _ _ ⟨rfl, rfl⟩; exact ⟨by rw [last_len hl], Below.refl _ _⟩)
  have hdist : ∀ (x y z : Nat) (w : World), ShapeIn ns sb so nb no cap w → Calls Tryz.prog 122 #[.pointer (some ⟨sb, so, none⟩), .int .i64 ((ns.length : Int) - 1), V3 x y z] w (Ret .f32 (distF ns ns.length ((ns.length : Int) - 1).toNat (cn .f32 x, cn .f32 y, cn .f32 z)) w) := fun x y z w h => by
    have := dist_any ns hok sb so nb no cap ns.length (ns.length - 1) x y z w (by omega) (by omega) h
    have e : (((ns.length - 1 : Nat) : Int)) = (ns.length : Int) - 1 := by omega
    rw [e] at this
    have e2 : ((ns.length : Int) - 1).toNat = ns.length - 1 := by omega
    rw [e2]
    exact this
  go_enter Tryz.func72, Tryz.ntmps72
  go_wp2_with fail
  have W1b : Below w.heap.size w (w.alloc (.cells #[.float .f32 x, .float .f32 y, .float .f32 z] 35)) := (by repeat' (first | exact Below.refl _ _ | exact Nat.le_refl _ | refine below_drewN ?_ _ | refine Below.alloc ?_ (by first | (simp; done) | (simp; omega)) _ | refine Below.setCell ?_ (by first | (simp; done) | (simp; omega)) _ | refine below_step ?_ (by assumption)))

  have hkept : Kept [(⟨w.heap.size, 0, none⟩, .float .f32 x), (⟨w.heap.size, 1, none⟩, .float .f32 y), (⟨w.heap.size, 2, none⟩, .float .f32 z)] [] (w.alloc (.cells #[.float .f32 x, .float .f32 y, .float .f32 z] 35)) := by
    simp only [Kept, List.forall_mem_append, List.forall_mem_cons, List.not_mem_nil, false_implies, implies_true, and_true, true_and]
    simp
  generalize w.alloc (.cells #[.float .f32 x, .float .f32 y, .float .f32 z] 35) = W1 at W1b hkept ⊢
  have hsh1 := hsh.keep W1b
  refine Qr.wp_below_all (by kernel_rfl) (by kernel_rfl) (PhiT ns) ?_
  repeat (first | (refine Qr.walk_plain rfl fun K hK => ?_; apply Qr.one_det; (focus (intro w' hw'; have HK := keep hkept hw'; simp only [Kept, List.forall_mem_append, List.forall_mem_cons, List.not_mem_nil, false_implies, implies_true, and_true, true_and] at HK; go_simp; first | done | rfl)); go_simp; refine hK _ ?_; clear hK K) | (refine Qr.walk_plain rfl fun K hK => ?_; apply Qr.one_call; (focus (intro w' hw'; go_simp; first | done | exact ⟨rfl, rfl⟩)); (focus (intro w' hw';  go_at_call 93; refine (hlast _ (hsh1.keep hw')).mono ?_; rintro _ w3 ⟨rfl, hb1⟩ ; exact ⟨_, rfl, by constructor <;> assumption, hw'.trans (by exact Below.mono (by assumption) hw'.size), by assumption⟩)); intro v hv; cases hv; go_simp; refine hK _ ?_; clear hK K) | (refine Qr.walk_plain rfl fun K hK => ?_; apply Qr.one_call; (focus (intro w' hw'; go_simp; first | done | exact ⟨rfl, rfl⟩)); (focus (intro w' hw';  go_at_call 122; refine (hdist _ _ _ _ (hsh1.keep hw')).mono ?_; rintro _ w3 ⟨r1, rfl, hr1, hb1⟩ ; exact ⟨_, rfl, by constructor <;> assumption, hw'.trans (by exact Below.mono (by assumption) hw'.size), by assumption⟩)); intro v hv; cases hv; go_simp; refine hK _ ?_; clear hK K))
  rename_i r e
  refine Qr.walk_nil fun w5 hw5 => ?_
  go_wp2_with fail
  go_ret
  have e2 : ((ns.length : Int) - 1).toNat = ns.length - 1 := by omega
  exact ⟨r, rfl, by rw [e, e2]; rfl, below_step W1b hw5⟩
end Go.Proofs.YtdbpgblhnhdhoaaGreat
