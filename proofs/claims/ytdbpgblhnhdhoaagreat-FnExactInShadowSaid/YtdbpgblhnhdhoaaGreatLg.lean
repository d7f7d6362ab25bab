/-
  The statements' common ground: vectors that are equal; what the regions of a statement make.
-/
import Derived.Test.YtdbpgblhnhdhoaaGreatY1
import Derived.Test.YtdbpgblhnhdhoaaGreatW5
import Derived.Test.YtdbpgblhnhdhoaaGreatQg
import Derived.Test.YtdbpgblhnhdhoaaGreatGR
set_option linter.unusedVariables false
set_option linter.unusedSimpArgs false
namespace Go.Proofs.YtdbpgblhnhdhoaaGreat
open Go.RowKit Go.Fl

theorem wid_same {u v a b : Nat} (h1 : cn .f64 u = wid (cn .f32 a)) (h2 : cn .f64 v = wid (cn .f32 b)) (h : cn .f32 a = cn .f32 b) : cn .f64 u = cn .f64 v := by rw [h1, h2, h]

set_option maxRecDepth 100000 in
set_option maxHeartbeats 1000000 in
theorem eq_vector (a b c a' b' c' : Nat) (e1 : cn .f32 a = cn .f32 a') (e2 : cn .f32 b = cn .f32 b') (e3 : cn .f32 c = cn .f32 c') (w : World) :
    Calls Tryz.prog 22 #[V3 a b c, V3 a' b' c'] w (fun e w' => e = .returned (.bool true) ∧ Below w.heap.size w w') := by
  go_enter Tryz.func22, Tryz.ntmps22
  go_upto_region 1 with fail
  have W1b : Below w.heap.size w ((w.alloc (.cells #[.float .f32 a, .float .f32 b, .float .f32 c] 35)).alloc (.cells #[.float .f32 a', .float .f32 b', .float .f32 c'] 35)) := (by repeat' (first | exact Below.refl _ _ | exact Nat.le_refl _ | refine below_drewN ?_ _ | refine Below.alloc ?_ (by first | (simp; done) | (simp; omega)) _ | refine Below.setCell ?_ (by first | (simp; done) | (simp; omega)) _ | refine below_step ?_ (by assumption)))
  
  have hkept : Kept [(⟨w.heap.size, 0, none⟩, .float .f32 a), (⟨w.heap.size, 1, none⟩, .float .f32 b), (⟨w.heap.size, 2, none⟩, .float .f32 c), (⟨w.heap.size + 1, 0, none⟩, .float .f32 a'), (⟨w.heap.size + 1, 1, none⟩, .float .f32 b'), (⟨w.heap.size + 1, 2, none⟩, .float .f32 c')] [] ((w.alloc (.cells #[.float .f32 a, .float .f32 b, .float .f32 c] 35)).alloc (.cells #[.float .f32 a', .float .f32 b', .float .f32 c'] 35)) := by
    simp only [Kept, List.forall_mem_append, List.forall_mem_cons, List.not_mem_nil, false_implies, implies_true, and_true, true_and]; (first | (go_simp; done) | (simp [World.cell?, World.frozen?, World.alloc, Array.getElem?_push]; done))
  generalize (w.alloc (.cells #[.float .f32 a, .float .f32 b, .float .f32 c] 35)).alloc (.cells #[.float .f32 a', .float .f32 b', .float .f32 c'] 35) = W1 at *
  have hK := hkept; simp only [Kept, List.forall_mem_append, List.forall_mem_cons, List.not_mem_nil, false_implies, implies_true, and_true, true_and] at hK
  go_wp2_with (first
    | (refine wp_wid rfl _ _ _ rfl _ rfl ?_ ?_ fitsW_all ?_; exact some_f32; exact Tryz.underlying38; intro r n hr)
    | (go_at_call 18; refine (same_float _ _ (wid_same (by assumption) (by assumption) (by first | exact e1 | exact e2 | exact e3)) _).mono ?_; rintro _ w6 ⟨rfl, hb1⟩; have hkept := keepT hkept hb1 rfl; clear hK; have hK := hkept; simp only [Kept, List.forall_mem_append, List.forall_mem_cons, List.not_mem_nil, false_implies, implies_true, and_true, true_and] at hK))
  go_ret
  exact ⟨rfl, (by repeat' (first | exact Below.refl _ _ | exact Nat.le_refl _ | refine Below.drew ?_ | refine below_drewN ?_ _ | refine Below.alloc ?_ (by first | (simp; done) | (simp; omega)) _ | refine Below.setCell ?_ (by first | (simp; done) | (simp; omega)) _ | refine below_step ?_ (by assumption)))⟩

/-- The words of a statement's slots: a shape that is new; a variable that is new; a result. -/
def GdL (ns : List PN) (W : World) (sl : List Tmp) (al : List (Tmp × Array Value × TypeId)) (rs : Tmp) (Res : Value → Prop) (d : Tmp) (v : Value) (w : World) : Prop :=
  (d ∈ sl → ∀ G, v = .agg #[.slice (some ⟨G, 0, none⟩) ns.length ns.length] → ∀ i (h : i < ns.length), NodeNew ns[i] G (0 + i * 4) w) ∧
  (∀ x ∈ al, x.1 = d → ∀ p, v = .pointer p → ∃ g, p = some ⟨g, 0, none⟩ ∧ W.heap.size ≤ g ∧ w.heap[g]? = some (.cells x.2.1 x.2.2 (0, 0))) ∧
  (d = rs → v = undef ∨ Res v)

theorem gdl_lasts (ns : List PN) (W : World) (sl : List Tmp) (al : List (Tmp × Array Value × TypeId)) (rs : Tmp) (Res : Value → Prop) : Qg.Lasts (GdL ns W sl al rs Res) := by
  refine ⟨fun d v w w' h hb => ⟨fun hd G hv i hi => (h.1 hd G hv i hi).keep hb, fun x hx hd p hp => ?_, h.2.2⟩, fun d w => ⟨fun _ G hv => (by cases hv), fun x _ _ p hp => (by cases hp), fun _ => Or.inl rfl⟩⟩
  obtain ⟨g, h1, h2, h3⟩ := h.2.1 x hx hd p hp
  refine ⟨g, h1, h2, ?_⟩
  have hlt : g < w.heap.size := by
    rcases Nat.lt_or_ge g w.heap.size with h' | h'
    · exact h'
    · rw [Array.getElem?_eq_none h'] at h3; cases h3
  rw [hb.block g hlt]; exact h3

theorem gdl_start {ns : List PN} {W : World} {sl ad : List Tmp} {al : List (Tmp × Array Value × TypeId)} {rs : Tmp} {Res : Value → Prop} {a : Act} {w : World} (h : ∀ d ∈ sl ++ ad ++ [rs], a.tmps.getD d undef = undef) (ha : al.map (·.1) = ad) : Qg.E (GdL ns W sl al rs Res) ad a w := by
  have hnp : ∀ p, undef ≠ Value.pointer p := fun p h => by cases h
  refine ⟨fun d => ⟨fun hd G hv => ?_, fun x hx hd p hp => ?_, fun hd => Or.inl ?_⟩, fun d hd g hv => ?_, fun d hd e he _ g hv => ?_⟩
  · rw [h d (by simp [hd])] at hv; cases hv
  · rw [h d (by have : x.1 ∈ al.map (·.1) := List.mem_map.2 ⟨x, hx, rfl⟩; rw [ha, hd] at this; simp [this])] at hp; exact absurd hp (hnp _)
  · rw [h d (by simp [hd])]
  · rw [h d (by simp [hd])] at hv; exact absurd hv (hnp _)
  · rw [h d (by simp [hd])] at hv; exact absurd hv (hnp _)

/-- A slot without a word. -/
theorem gdl_no {ns : List PN} {W : World} {sl : List Tmp} {al : List (Tmp × Array Value × TypeId)} {rs : Tmp} {Res : Value → Prop} {d : Tmp} {v : Value} {w : World} (h1 : d ∉ sl) (h2 : d ∉ al.map (·.1)) (h3 : d ≠ rs) : Qg.gd (GdL ns W sl al rs Res) (some d) v w :=
  ⟨fun h => absurd h h1, fun x hx hd => absurd (List.mem_map.2 ⟨x, hx, hd⟩) h2, fun h => absurd h h3⟩
theorem gdl_shape {ns : List PN} {W : World} {sl : List Tmp} {al : List (Tmp × Array Value × TypeId)} {rs : Tmp} {Res : Value → Prop} {d : Tmp} {G : Nat} {w : World} (h : ∀ i (h : i < ns.length), NodeNew ns[i] G (0 + i * 4) w) (h2 : d ∉ al.map (·.1)) (h3 : d ≠ rs) : Qg.gd (GdL ns W sl al rs Res) (some d) (.agg #[.slice (some ⟨G, 0, none⟩) ns.length ns.length]) w :=
  ⟨fun _ G' hv => by injection hv with hv; injection hv with hv; injection hv with hv; injection hv with hv; injection hv with hv; injection hv with hv; subst hv; exact h, fun x hx hd => absurd (List.mem_map.2 ⟨x, hx, hd⟩) h2, fun h => absurd h h3⟩
theorem gdl_res {ns : List PN} {W : World} {sl : List Tmp} {al : List (Tmp × Array Value × TypeId)} {rs : Tmp} {Res : Value → Prop} {v : Value} {w : World} (h1 : rs ∉ sl) (h2 : rs ∉ al.map (·.1)) (h : Res v) : Qg.gd (GdL ns W sl al rs Res) (some rs) v w :=
  ⟨fun h => absurd h h1, fun x hx hd => absurd (List.mem_map.2 ⟨x, hx, hd⟩) h2, fun _ => .inr h⟩
theorem gdl_new {ns : List PN} {W : World} {sl : List Tmp} {al : List (Tmp × Array Value × TypeId)} {rs : Tmp} {Res : Value → Prop} {d : Tmp} {zs : Array Value} {T : TypeId} {w : World} (h1 : d ∉ sl) (h2 : ∀ x ∈ al, x.1 = d → x = (d, zs, T)) (h3 : d ≠ rs) (hb : Below W.heap.size W w) : Qg.gd (GdL ns W sl al rs Res) (some d) (.pointer (some ⟨w.heap.size, 0, none⟩)) (w.alloc (.cells zs T)) :=
  ⟨fun h => absurd h h1, fun x hx hd p hp => by
    have := h2 x hx hd
    subst this
    injection hp with hp
    exact ⟨w.heap.size, hp.symm, hb.size, by show (w.heap.push _)[w.heap.size]? = _; simp⟩, fun h => absurd h h3⟩

/-- Two new vectors are stored. -/
theorem two3 {w : World} {g k B : Nat} {a b c a' b' c' : Value} {T T' : TypeId} (hg : w.heap[g]? = some (.cells #[a, b, c] T (0, 0))) (hk : w.heap[k]? = some (.cells #[a', b', c'] T' (0, 0))) (hne : g ≠ k) (hB : B ≤ g ∧ B ≤ k) (x y z x' y' z' : Value) :
    Kept [(⟨g, 0, none⟩, x), (⟨g, 1, none⟩, y), (⟨g, 2, none⟩, z), (⟨k, 0, none⟩, x'), (⟨k, 1, none⟩, y'), (⟨k, 2, none⟩, z')] [] ((((((w.setCell ⟨g, 0, none⟩ x).setCell ⟨g, 1, none⟩ y).setCell ⟨g, 2, none⟩ z).setCell ⟨k, 0, none⟩ x').setCell ⟨k, 1, none⟩ y').setCell ⟨k, 2, none⟩ z') ∧ Below B w ((((((w.setCell ⟨g, 0, none⟩ x).setCell ⟨g, 1, none⟩ y).setCell ⟨g, 2, none⟩ z).setCell ⟨k, 0, none⟩ x').setCell ⟨k, 1, none⟩ y').setCell ⟨k, 2, none⟩ z') := by
  obtain ⟨h1, h2⟩ := set3 hg x y z
  have hk' : (((w.setCell ⟨g, 0, none⟩ x).setCell ⟨g, 1, none⟩ y).setCell ⟨g, 2, none⟩ z).heap[k]? = some (.cells #[a', b', c'] T' (0, 0)) := by
    simp only [World.setCell, Array.getElem?_modify, if_neg hne]; exact hk
  generalize ((w.setCell ⟨g, 0, none⟩ x).setCell ⟨g, 1, none⟩ y).setCell ⟨g, 2, none⟩ z = w1 at *
  obtain ⟨h3, h4⟩ := set3 hk' x' y' z'
  have h5 : (((w1.setCell ⟨k, 0, none⟩ x').setCell ⟨k, 1, none⟩ y').setCell ⟨k, 2, none⟩ z').heap[g]? = some (.cells #[x, y, z] T (0, 0)) := by
    simp only [World.setCell, Array.getElem?_modify, if_neg (Ne.symm hne)]; exact h1
  obtain ⟨p0, p1, p2, -⟩ := cells3 h5
  obtain ⟨q0, q1, q2, -⟩ := cells3 h3
  refine ⟨?_, (h2.mono hB.1).trans (h4.mono hB.2)⟩
  simp only [Kept, List.forall_mem_append, List.forall_mem_cons, List.not_mem_nil, false_implies, implies_true, and_true, true_and]
  simp [p0, p1, p2, q0, q1, q2]
end Go.Proofs.YtdbpgblhnhdhoaaGreat
