/-
  Walk of the statement: rays, marches and hits that are made anew and compared.
-/
import Derived.Test.YtdbpgblhnhdhoaaGreatLg
import Derived.Test.YtdbpgblhnhdhoaaGreatY8
set_option linter.unusedVariables false
set_option linter.unusedSimpArgs false
namespace Go.Proofs.YtdbpgblhnhdhoaaGreat
open Go.RowKit Go.Fl

abbrev RayV (a b c d e f : Nat) : Value := .agg #[F1 a, F1 b, F1 c, F1 d, F1 e, F1 f]
abbrev MarV (a b : Nat) (n : Int) : Value := .agg #[F1 a, F1 b, .int .i64 n]

set_option maxRecDepth 100000 in
set_option maxHeartbeats 1000000 in
theorem to_march (a b : Nat) (n : Int) (w : World) :
    Calls Tryz.prog 34 #[MarV a b n] w (fun e w' => e = .returned (MarV a b n) ∧ Below w.heap.size w w') := by
  go_enter Tryz.func34, Tryz.ntmps34
  go_wp2_with fail
  exact bodyPost_ret (v := MarV a b n) (by simp [results, Tryz.results34, go_sem]; first | done | exact ⟨rfl, rfl, rfl⟩) rfl ⟨rfl, (by repeat' (first | exact Below.refl _ _ | exact Nat.le_refl _ | refine below_drewN ?_ _ | refine Below.alloc ?_ (by first | (simp; done) | (simp; omega)) _ | refine Below.setCell ?_ (by first | (simp; done) | (simp; omega)) _ | refine below_step ?_ (by assumption)))⟩

set_option maxRecDepth 100000 in
set_option maxHeartbeats 1000000 in
theorem to_ray (a b c d e f : Nat) (w : World) :
    Calls Tryz.prog 37 #[RayV a b c d e f] w (fun e' w' => e' = .returned (RayV a b c d e f) ∧ Below w.heap.size w w') := by
  go_enter Tryz.func37, Tryz.ntmps37
  go_upto_region 2 with fail
  have W1b : Below w.heap.size w (((w.alloc (.cells #[.float .f32 a, .float .f32 b, .float .f32 c, .float .f32 d, .float .f32 e, .float .f32 f] 66)).alloc (.cells #[.float .f32 0, .float .f32 0, .float .f32 0, .float .f32 0, .float .f32 0, .float .f32 0] 72)).alloc (.cells #[.float .f32 0, .float .f32 0, .float .f32 0, .float .f32 0, .float .f32 0, .float .f32 0] 72)) := (by repeat' (first | exact Below.refl _ _ | exact Nat.le_refl _ | refine below_drewN ?_ _ | refine Below.alloc ?_ (by first | (simp; done) | (simp; omega)) _ | refine Below.setCell ?_ (by first | (simp; done) | (simp; omega)) _ | refine below_step ?_ (by assumption)))
  
  have hkept : Kept [(⟨w.heap.size, 0, none⟩, .float .f32 a), (⟨w.heap.size, 1, none⟩, .float .f32 b), (⟨w.heap.size, 2, none⟩, .float .f32 c), (⟨w.heap.size, 3, none⟩, .float .f32 d), (⟨w.heap.size, 4, none⟩, .float .f32 e), (⟨w.heap.size, 5, none⟩, .float .f32 f), (⟨w.heap.size + 1, 0, none⟩, .float .f32 0), (⟨w.heap.size + 1, 1, none⟩, .float .f32 0), (⟨w.heap.size + 1, 2, none⟩, .float .f32 0), (⟨w.heap.size + 1, 3, none⟩, .float .f32 0), (⟨w.heap.size + 1, 4, none⟩, .float .f32 0), (⟨w.heap.size + 1, 5, none⟩, .float .f32 0), (⟨w.heap.size + 1 + 1, 0, none⟩, .float .f32 0), (⟨w.heap.size + 1 + 1, 1, none⟩, .float .f32 0), (⟨w.heap.size + 1 + 1, 2, none⟩, .float .f32 0), (⟨w.heap.size + 1 + 1, 3, none⟩, .float .f32 0), (⟨w.heap.size + 1 + 1, 4, none⟩, .float .f32 0), (⟨w.heap.size + 1 + 1, 5, none⟩, .float .f32 0)] [⟨w.heap.size + 1, 0, none⟩, ⟨w.heap.size + 1, 1, none⟩, ⟨w.heap.size + 1, 2, none⟩, ⟨w.heap.size + 1, 3, none⟩, ⟨w.heap.size + 1, 4, none⟩, ⟨w.heap.size + 1, 5, none⟩, ⟨w.heap.size + 1 + 1, 0, none⟩, ⟨w.heap.size + 1 + 1, 1, none⟩, ⟨w.heap.size + 1 + 1, 2, none⟩, ⟨w.heap.size + 1 + 1, 3, none⟩, ⟨w.heap.size + 1 + 1, 4, none⟩, ⟨w.heap.size + 1 + 1, 5, none⟩] (((w.alloc (.cells #[.float .f32 a, .float .f32 b, .float .f32 c, .float .f32 d, .float .f32 e, .float .f32 f] 66)).alloc (.cells #[.float .f32 0, .float .f32 0, .float .f32 0, .float .f32 0, .float .f32 0, .float .f32 0] 72)).alloc (.cells #[.float .f32 0, .float .f32 0, .float .f32 0, .float .f32 0, .float .f32 0, .float .f32 0] 72)) := by
    simp only [Kept, List.forall_mem_append, List.forall_mem_cons, List.not_mem_nil, false_implies, implies_true, and_true, true_and]; (first | (go_simp; done) | (simp [World.cell?, World.frozen?, World.alloc, Array.getElem?_push]; done))
  generalize ((w.alloc (.cells #[.float .f32 a, .float .f32 b, .float .f32 c, .float .f32 d, .float .f32 e, .float .f32 f] 66)).alloc (.cells #[.float .f32 0, .float .f32 0, .float .f32 0, .float .f32 0, .float .f32 0, .float .f32 0] 72)).alloc (.cells #[.float .f32 0, .float .f32 0, .float .f32 0, .float .f32 0, .float .f32 0, .float .f32 0] 72) = W1 at *
  have hK := hkept; simp only [Kept, List.forall_mem_append, List.forall_mem_cons, List.not_mem_nil, false_implies, implies_true, and_true, true_and] at hK
  go_upto_region 3 with (go_at_call 16; refine (to_vector _ _ _ _).mono ?_; rintro _ w2 ⟨rfl, hb1⟩; have W2b := below_step W1b hb1; have hkept := keepT hkept hb1 rfl; clear hK; have hK := hkept; simp only [Kept, List.forall_mem_append, List.forall_mem_cons, List.not_mem_nil, false_implies, implies_true, and_true, true_and] at hK)
  have W3b : Below w.heap.size w (((w2.setCell ⟨w.heap.size + 1 + 1, 0, none⟩ (F1 a)).setCell ⟨w.heap.size + 1 + 1, 1, none⟩ (F1 b)).setCell ⟨w.heap.size + 1 + 1, 2, none⟩ (F1 c)) := ((W2b.setCell (p := ⟨w.heap.size + 1 + 1, 0, none⟩) (by show w.heap.size ≤ w.heap.size + 1 + 1; omega) _).setCell (p := ⟨w.heap.size + 1 + 1, 1, none⟩) (by show w.heap.size ≤ w.heap.size + 1 + 1; omega) _).setCell (p := ⟨w.heap.size + 1 + 1, 2, none⟩) (by show w.heap.size ≤ w.heap.size + 1 + 1; omega) _
  have hkept : Kept [(⟨w.heap.size, 0, none⟩, F1 a), (⟨w.heap.size, 1, none⟩, F1 b), (⟨w.heap.size, 2, none⟩, F1 c), (⟨w.heap.size, 3, none⟩, F1 d), (⟨w.heap.size, 4, none⟩, F1 e), (⟨w.heap.size, 5, none⟩, F1 f), (⟨w.heap.size + 1, 0, none⟩, F1 0), (⟨w.heap.size + 1, 1, none⟩, F1 0), (⟨w.heap.size + 1, 2, none⟩, F1 0), (⟨w.heap.size + 1, 3, none⟩, F1 0), (⟨w.heap.size + 1, 4, none⟩, F1 0), (⟨w.heap.size + 1, 5, none⟩, F1 0), (⟨w.heap.size + 1 + 1, 0, none⟩, F1 a), (⟨w.heap.size + 1 + 1, 1, none⟩, F1 b), (⟨w.heap.size + 1 + 1, 2, none⟩, F1 c), (⟨w.heap.size + 1 + 1, 3, none⟩, F1 0), (⟨w.heap.size + 1 + 1, 4, none⟩, F1 0), (⟨w.heap.size + 1 + 1, 5, none⟩, F1 0)] [⟨w.heap.size + 1, 0, none⟩, ⟨w.heap.size + 1, 1, none⟩, ⟨w.heap.size + 1, 2, none⟩, ⟨w.heap.size + 1, 3, none⟩, ⟨w.heap.size + 1, 4, none⟩, ⟨w.heap.size + 1, 5, none⟩, ⟨w.heap.size + 1 + 1, 0, none⟩, ⟨w.heap.size + 1 + 1, 1, none⟩, ⟨w.heap.size + 1 + 1, 2, none⟩, ⟨w.heap.size + 1 + 1, 3, none⟩, ⟨w.heap.size + 1 + 1, 4, none⟩, ⟨w.heap.size + 1 + 1, 5, none⟩] (((w2.setCell ⟨w.heap.size + 1 + 1, 0, none⟩ (F1 a)).setCell ⟨w.heap.size + 1 + 1, 1, none⟩ (F1 b)).setCell ⟨w.heap.size + 1 + 1, 2, none⟩ (F1 c)) := by
    simp only [Kept, List.forall_mem_append, List.forall_mem_cons, List.not_mem_nil, false_implies, implies_true, and_true, true_and]; simp [hK, World.cell?_setCell_other, World.cell?_setCell_same', World.frozen?_setCell]
  generalize ((w2.setCell ⟨w.heap.size + 1 + 1, 0, none⟩ (F1 a)).setCell ⟨w.heap.size + 1 + 1, 1, none⟩ (F1 b)).setCell ⟨w.heap.size + 1 + 1, 2, none⟩ (F1 c) = w3 at *
  clear hK hb1 W2b W1b
  have hK := hkept; simp only [Kept, List.forall_mem_append, List.forall_mem_cons, List.not_mem_nil, false_implies, implies_true, and_true, true_and] at hK
  go_upto_region 4 with (go_at_call 16; refine (to_vector _ _ _ _).mono ?_; rintro _ w4 ⟨rfl, hb1⟩; have W4b := below_step W3b hb1; have hkept := keepT hkept hb1 rfl; clear hK; have hK := hkept; simp only [Kept, List.forall_mem_append, List.forall_mem_cons, List.not_mem_nil, false_implies, implies_true, and_true, true_and] at hK)
  have W5b : Below w.heap.size w (((w4.setCell ⟨w.heap.size + 1 + 1, 3, none⟩ (F1 d)).setCell ⟨w.heap.size + 1 + 1, 4, none⟩ (F1 e)).setCell ⟨w.heap.size + 1 + 1, 5, none⟩ (F1 f)) := ((W4b.setCell (p := ⟨w.heap.size + 1 + 1, 3, none⟩) (by show w.heap.size ≤ w.heap.size + 1 + 1; omega) _).setCell (p := ⟨w.heap.size + 1 + 1, 4, none⟩) (by show w.heap.size ≤ w.heap.size + 1 + 1; omega) _).setCell (p := ⟨w.heap.size + 1 + 1, 5, none⟩) (by show w.heap.size ≤ w.heap.size + 1 + 1; omega) _
  have hkept : Kept [(⟨w.heap.size + 1, 0, none⟩, F1 0), (⟨w.heap.size + 1, 1, none⟩, F1 0), (⟨w.heap.size + 1, 2, none⟩, F1 0), (⟨w.heap.size + 1, 3, none⟩, F1 0), (⟨w.heap.size + 1, 4, none⟩, F1 0), (⟨w.heap.size + 1, 5, none⟩, F1 0), (⟨w.heap.size + 1 + 1, 0, none⟩, F1 a), (⟨w.heap.size + 1 + 1, 1, none⟩, F1 b), (⟨w.heap.size + 1 + 1, 2, none⟩, F1 c), (⟨w.heap.size + 1 + 1, 3, none⟩, F1 d), (⟨w.heap.size + 1 + 1, 4, none⟩, F1 e), (⟨w.heap.size + 1 + 1, 5, none⟩, F1 f)] [⟨w.heap.size + 1, 0, none⟩, ⟨w.heap.size + 1, 1, none⟩, ⟨w.heap.size + 1, 2, none⟩, ⟨w.heap.size + 1, 3, none⟩, ⟨w.heap.size + 1, 4, none⟩, ⟨w.heap.size + 1, 5, none⟩] (((w4.setCell ⟨w.heap.size + 1 + 1, 3, none⟩ (F1 d)).setCell ⟨w.heap.size + 1 + 1, 4, none⟩ (F1 e)).setCell ⟨w.heap.size + 1 + 1, 5, none⟩ (F1 f)) := by
    simp only [Kept, List.forall_mem_append, List.forall_mem_cons, List.not_mem_nil, false_implies, implies_true, and_true, true_and]; simp [hK, World.cell?_setCell_other, World.cell?_setCell_same', World.frozen?_setCell]
  generalize ((w4.setCell ⟨w.heap.size + 1 + 1, 3, none⟩ (F1 d)).setCell ⟨w.heap.size + 1 + 1, 4, none⟩ (F1 e)).setCell ⟨w.heap.size + 1 + 1, 5, none⟩ (F1 f) = w5 at *
  clear hK hb1 W4b W3b
  have hK := hkept; simp only [Kept, List.forall_mem_append, List.forall_mem_cons, List.not_mem_nil, false_implies, implies_true, and_true, true_and] at hK
  go_wp2_with fail
  exact bodyPost_ret (v := RayV a b c d e f) (by simp [results, Tryz.results37, go_sem, hK, World.cell?_setCell_other, World.cell?_setCell_same']) rfl ⟨rfl, bel6 W5b (by omega) ..⟩

theorem hit_eq {u v a b : Nat} (h1 : cn .f64 u = wid (cn .f32 a)) (h2 : cn .f64 v = wid (cn .f32 b)) (h : cn .f32 a = cn .f32 b) : cn .f64 u = cn .f64 v := by rw [h1, h2, h]

set_option maxRecDepth 100000 in
set_option maxHeartbeats 1000000 in
theorem eq_hit (k s far x y z far' x' y' z' : Nat) (e1 : cn .f32 far = cn .f32 far') (e2 : cn .f32 x = cn .f32 x') (e3 : cn .f32 y = cn .f32 y') (e4 : cn .f32 z = cn .f32 z') (w : World) :
    Calls Tryz.prog 39 #[HitV k s far x y z, HitV k s far' x' y' z'] w (fun e w' => e = .returned (.bool true) ∧ Below w.heap.size w w') := by
  go_enter Tryz.func39, Tryz.ntmps39
  go_upto_region 1 with fail
  have W1b : Below w.heap.size w ((w.alloc (.cells #[.int .i64 (k : Int), .int .i64 (s : Int), .float .f32 far, .float .f32 x, .float .f32 y, .float .f32 z] 68)).alloc (.cells #[.int .i64 (k : Int), .int .i64 (s : Int), .float .f32 far', .float .f32 x', .float .f32 y', .float .f32 z'] 68)) := (by repeat' (first | exact Below.refl _ _ | exact Nat.le_refl _ | refine below_drewN ?_ _ | refine Below.alloc ?_ (by first | (simp; done) | (simp; omega)) _ | refine Below.setCell ?_ (by first | (simp; done) | (simp; omega)) _ | refine below_step ?_ (by assumption)))
  
  have hkept : Kept [(⟨w.heap.size, 0, none⟩, .int .i64 (k : Int)), (⟨w.heap.size, 1, none⟩, .int .i64 (s : Int)), (⟨w.heap.size, 2, none⟩, .float .f32 far), (⟨w.heap.size, 3, none⟩, .float .f32 x), (⟨w.heap.size, 4, none⟩, .float .f32 y), (⟨w.heap.size, 5, none⟩, .float .f32 z), (⟨w.heap.size + 1, 0, none⟩, .int .i64 (k : Int)), (⟨w.heap.size + 1, 1, none⟩, .int .i64 (s : Int)), (⟨w.heap.size + 1, 2, none⟩, .float .f32 far'), (⟨w.heap.size + 1, 3, none⟩, .float .f32 x'), (⟨w.heap.size + 1, 4, none⟩, .float .f32 y'), (⟨w.heap.size + 1, 5, none⟩, .float .f32 z')] [] ((w.alloc (.cells #[.int .i64 (k : Int), .int .i64 (s : Int), .float .f32 far, .float .f32 x, .float .f32 y, .float .f32 z] 68)).alloc (.cells #[.int .i64 (k : Int), .int .i64 (s : Int), .float .f32 far', .float .f32 x', .float .f32 y', .float .f32 z'] 68)) := by
    simp only [Kept, List.forall_mem_append, List.forall_mem_cons, List.not_mem_nil, false_implies, implies_true, and_true, true_and]; (first | (go_simp; done) | (simp [World.cell?, World.frozen?, World.alloc, Array.getElem?_push]; done))
  generalize (w.alloc (.cells #[.int .i64 (k : Int), .int .i64 (s : Int), .float .f32 far, .float .f32 x, .float .f32 y, .float .f32 z] 68)).alloc (.cells #[.int .i64 (k : Int), .int .i64 (s : Int), .float .f32 far', .float .f32 x', .float .f32 y', .float .f32 z'] 68) = W1 at *
  have hK := hkept; simp only [Kept, List.forall_mem_append, List.forall_mem_cons, List.not_mem_nil, false_implies, implies_true, and_true, true_and] at hK
  go_upto_region 5 with fail
  go_wp2_with (first
    | (refine wp_wid rfl _ _ _ rfl _ rfl ?_ ?_ fitsW_all ?_; exact some_f32; exact Tryz.underlying38; intro r n hr)
    | (go_at_call 18; refine (same_float _ _ (hit_eq (by assumption) (by assumption) (by exact e1)) _).mono ?_; rintro _ w6 ⟨rfl, hb1⟩; have hkept := keepT hkept hb1 rfl; clear hK; have hK := hkept; simp only [Kept, List.forall_mem_append, List.forall_mem_cons, List.not_mem_nil, false_implies, implies_true, and_true, true_and] at hK)
    | (go_at_call 22; refine (eq_vector _ _ _ _ _ _ e2 e3 e4 _).mono ?_; rintro _ w6 ⟨rfl, hb1⟩; have hkept := keepT hkept hb1 rfl; clear hK; have hK := hkept; simp only [Kept, List.forall_mem_append, List.forall_mem_cons, List.not_mem_nil, false_implies, implies_true, and_true, true_and] at hK))
  go_ret
  exact ⟨rfl, (by repeat' (first | exact Below.refl _ _ | exact Nat.le_refl _ | refine Below.drew ?_ | refine below_drewN ?_ _ | refine Below.alloc ?_ (by first | (simp; done) | (simp; omega)) _ | refine Below.setCell ?_ (by first | (simp; done) | (simp; omega)) _ | refine below_step ?_ (by assumption)))⟩

theorem cells6 {w : World} {g : Nat} {a b c d e f : Value} {T : TypeId} (h : w.heap[g]? = some (.cells #[a, b, c, d, e, f] T (0, 0))) :
    (w.cell? ⟨g, 0, none⟩ = some a ∧ w.cell? ⟨g, 1, none⟩ = some b ∧ w.cell? ⟨g, 2, none⟩ = some c ∧ w.cell? ⟨g, 3, none⟩ = some d ∧ w.cell? ⟨g, 4, none⟩ = some e ∧ w.cell? ⟨g, 5, none⟩ = some f) ∧ w.frozen? ⟨g, 0, none⟩ = false ∧ w.frozen? ⟨g, 1, none⟩ = false ∧ w.frozen? ⟨g, 2, none⟩ = false ∧ w.frozen? ⟨g, 3, none⟩ = false ∧ w.frozen? ⟨g, 4, none⟩ = false ∧ w.frozen? ⟨g, 5, none⟩ = false := by
  refine ⟨⟨?_, ?_, ?_, ?_, ?_, ?_⟩, ?_, ?_, ?_, ?_, ?_, ?_⟩ <;> simp [World.cell?, World.frozen?, h]

/-- A new hit is stored. -/
theorem one6 {w : World} {g B : Nat} {a b c d e f : Value} {T : TypeId} (hg : w.heap[g]? = some (.cells #[a, b, c, d, e, f] T (0, 0))) (hB : B ≤ g) (x0 x1 x2 x3 x4 x5 : Value) :
    Kept [(⟨g, 0, none⟩, x0), (⟨g, 1, none⟩, x1), (⟨g, 2, none⟩, x2), (⟨g, 3, none⟩, x3), (⟨g, 4, none⟩, x4), (⟨g, 5, none⟩, x5)] [] ((((((w.setCell ⟨g, 0, none⟩ x0).setCell ⟨g, 1, none⟩ x1).setCell ⟨g, 2, none⟩ x2).setCell ⟨g, 3, none⟩ x3).setCell ⟨g, 4, none⟩ x4).setCell ⟨g, 5, none⟩ x5) ∧ Below B w ((((((w.setCell ⟨g, 0, none⟩ x0).setCell ⟨g, 1, none⟩ x1).setCell ⟨g, 2, none⟩ x2).setCell ⟨g, 3, none⟩ x3).setCell ⟨g, 4, none⟩ x4).setCell ⟨g, 5, none⟩ x5) := by
  have h6 : ((((((w.setCell ⟨g, 0, none⟩ x0).setCell ⟨g, 1, none⟩ x1).setCell ⟨g, 2, none⟩ x2).setCell ⟨g, 3, none⟩ x3).setCell ⟨g, 4, none⟩ x4).setCell ⟨g, 5, none⟩ x5).heap[g]? = some (.cells #[x0, x1, x2, x3, x4, x5] T (0, 0)) := by
    simp only [World.setCell, Array.getElem?_modify, if_true, hg, Option.map_some]
    rfl
  have hb : Below B w ((((((w.setCell ⟨g, 0, none⟩ x0).setCell ⟨g, 1, none⟩ x1).setCell ⟨g, 2, none⟩ x2).setCell ⟨g, 3, none⟩ x3).setCell ⟨g, 4, none⟩ x4).setCell ⟨g, 5, none⟩ x5) := bel6 (Below.refl _ _) hB ..
  generalize ((((((w.setCell ⟨g, 0, none⟩ x0).setCell ⟨g, 1, none⟩ x1).setCell ⟨g, 2, none⟩ x2).setCell ⟨g, 3, none⟩ x3).setCell ⟨g, 4, none⟩ x4).setCell ⟨g, 5, none⟩ x5) = w' at *
  obtain ⟨⟨p0, p1, p2, p3, p4, p5⟩, -⟩ := cells6 h6
  refine ⟨?_, hb⟩
  simp only [Kept, List.forall_mem_append, List.forall_mem_cons, List.not_mem_nil, false_implies, implies_true, and_true, true_and]
  simp [p0, p1, p2, p3, p4, p5]
end Go.Proofs.YtdbpgblhnhdhoaaGreat
