/-
  Walks of the reference: a point turned.
-/
import Derived.Test.YtdbpgblhnhdhoaaS9
set_option linter.unusedVariables false
set_option linter.unusedSimpArgs false
namespace Go.Proofs.Ytdbpgblhnhdhoaa
open Go.RowKit Go.Fl

theorem n20 : ((2 : Int) = 0) = False := by decide
theorem n21 : ((2 : Int) = 1) = False := by decide
theorem n10 : ((1 : Int) = 0) = False := by decide
theorem n01 : ((0 : Int) = 1) = False := by decide

set_option maxRecDepth 100000 in
set_option maxHeartbeats 1000000 in
theorem s_turned_0 (x y z t : Nat) (w : World) :
    Calls Try.prog 81 #[V3 x y z, .int .i64 0, F1 t] w (RetV (cn .f32 x) (turn1 (cn .f32 t) (cn .f32 y) (cn .f32 z)) (turn2 (cn .f32 t) (cn .f32 y) (cn .f32 z)) w) := by
  go_enter Try.func81, Try.ntmps81
  go_upto_region 1 with (fail)
  have Wb : Below w.heap.size w ((w.alloc (.cells #[.float .f32 x, .float .f32 y, .float .f32 z] 34)).alloc (.cells #[.float .f32 0, .float .f32 0, .float .f32 0] 34)) := (by repeat' (first | exact Below.refl _ _ | exact Nat.le_refl _ | refine below_drewN ?_ _ | refine Below.alloc ?_ (by first | (simp; done) | (simp; omega)) _ | refine Below.setCell ?_ (by first | (simp; done) | (simp; omega)) _ | refine below_step ?_ (by assumption)))

  have hkept : Kept [(⟨w.heap.size, 0, none⟩, .float .f32 x), (⟨w.heap.size, 1, none⟩, .float .f32 y), (⟨w.heap.size, 2, none⟩, .float .f32 z), (⟨w.heap.size + 1, 0, none⟩, .float .f32 0), (⟨w.heap.size + 1, 1, none⟩, .float .f32 0), (⟨w.heap.size + 1, 2, none⟩, .float .f32 0)] [⟨w.heap.size + 1, 0, none⟩, ⟨w.heap.size + 1, 1, none⟩, ⟨w.heap.size + 1, 2, none⟩] ((w.alloc (.cells #[.float .f32 x, .float .f32 y, .float .f32 z] 34)).alloc (.cells #[.float .f32 0, .float .f32 0, .float .f32 0] 34)) := by
    simp only [Kept, List.forall_mem_append, List.forall_mem_cons, List.not_mem_nil, false_implies, implies_true, and_true, true_and]; simp
  generalize (w.alloc (.cells #[.float .f32 x, .float .f32 y, .float .f32 z] 34)).alloc (.cells #[.float .f32 0, .float .f32 0, .float .f32 0] 34) = W1 at Wb hkept ⊢
  have hK := hkept
  simp only [Kept, List.forall_mem_append, List.forall_mem_cons, List.not_mem_nil, false_implies, implies_true, and_true, true_and] at hK
  go_wp2_with (first
    | (go_at_call 92; refine (s_sine_any _ _).mono ?_; rintro _ w1 ⟨r1, rfl, hr1, hb1⟩; (first | have hkept := keep hkept hb1 | have hkept := keep (kept_drewN hkept _) hb1 | have hkept := keep (kept_drewN (kept_drewN hkept _) _) hb1 | have hkept := keep (kept_drewN (kept_drewN (kept_drewN hkept _) _) _) hb1); clear hK; have hK := hkept; simp only [Kept, List.forall_mem_append, List.forall_mem_cons, List.not_mem_nil, false_implies, implies_true, and_true, true_and] at hK)
    | (go_at_call 83; refine (s_pick_any _ _ _ _ _).mono ?_; rintro _ w1 ⟨rfl, hb1⟩; (first | have hkept := keep hkept hb1 | have hkept := keep (kept_drewN hkept _) hb1 | have hkept := keep (kept_drewN (kept_drewN hkept _) _) hb1 | have hkept := keep (kept_drewN (kept_drewN (kept_drewN hkept _) _) _) hb1); clear hK; have hK := hkept; simp only [Kept, List.forall_mem_append, List.forall_mem_cons, List.not_mem_nil, false_implies, implies_true, and_true, true_and] at hK)
    | (go_at_call 82; refine (s_set_any _ _ _ _ _ _).mono ?_; rintro _ w1 ⟨rfl, hb1⟩; (first | have hkept := keep hkept hb1 | have hkept := keep (kept_drewN hkept _) hb1 | have hkept := keep (kept_drewN (kept_drewN hkept _) _) hb1 | have hkept := keep (kept_drewN (kept_drewN (kept_drewN hkept _) _) _) hb1); clear hK; have hK := hkept; simp only [Kept, List.forall_mem_append, List.forall_mem_cons, List.not_mem_nil, false_implies, implies_true, and_true, true_and] at hK)
    | (refine wp_bin rfl _ _ _ _ _ rfl _ _ _ rfl rfl rfl ?_; intro r n hr))
  exact bodyPost_ret (v := .agg #[.float .f32 _, .float .f32 _, .float .f32 _]) (by simp [results, Try.results81, go_sem, hK]; exact ⟨rfl, rfl, rfl⟩) rfl ⟨_, _, _, rfl, by simp only [setX, setY, setZ, pickF, n20, n21, n10, n01, if_true, if_false, turn1, turn2, cn_c6, *]; done, by simp only [setX, setY, setZ, pickF, n20, n21, n10, n01, if_true, if_false, turn1, turn2, cn_c6, *]; done, by simp only [setX, setY, setZ, pickF, n20, n21, n10, n01, if_true, if_false, turn1, turn2, cn_c6, *]; done, (by repeat' (first | exact Below.refl _ _ | exact Nat.le_refl _ | refine below_drewN ?_ _ | refine Below.alloc ?_ (by first | (simp; done) | (simp; omega)) _ | refine Below.setCell ?_ (by first | (simp; done) | (simp; omega)) _ | refine below_step ?_ (by assumption)))⟩

set_option maxRecDepth 100000 in
set_option maxHeartbeats 1000000 in
theorem s_turned_1 (x y z t : Nat) (w : World) :
    Calls Try.prog 81 #[V3 x y z, .int .i64 1, F1 t] w (RetV (turn2 (cn .f32 t) (cn .f32 z) (cn .f32 x)) (cn .f32 y) (turn1 (cn .f32 t) (cn .f32 z) (cn .f32 x)) w) := by
  go_enter Try.func81, Try.ntmps81
  go_upto_region 1 with (fail)
  have Wb : Below w.heap.size w ((w.alloc (.cells #[.float .f32 x, .float .f32 y, .float .f32 z] 34)).alloc (.cells #[.float .f32 0, .float .f32 0, .float .f32 0] 34)) := (by repeat' (first | exact Below.refl _ _ | exact Nat.le_refl _ | refine below_drewN ?_ _ | refine Below.alloc ?_ (by first | (simp; done) | (simp; omega)) _ | refine Below.setCell ?_ (by first | (simp; done) | (simp; omega)) _ | refine below_step ?_ (by assumption)))

  have hkept : Kept [(⟨w.heap.size, 0, none⟩, .float .f32 x), (⟨w.heap.size, 1, none⟩, .float .f32 y), (⟨w.heap.size, 2, none⟩, .float .f32 z), (⟨w.heap.size + 1, 0, none⟩, .float .f32 0), (⟨w.heap.size + 1, 1, none⟩, .float .f32 0), (⟨w.heap.size + 1, 2, none⟩, .float .f32 0)] [⟨w.heap.size + 1, 0, none⟩, ⟨w.heap.size + 1, 1, none⟩, ⟨w.heap.size + 1, 2, none⟩] ((w.alloc (.cells #[.float .f32 x, .float .f32 y, .float .f32 z] 34)).alloc (.cells #[.float .f32 0, .float .f32 0, .float .f32 0] 34)) := by
    simp only [Kept, List.forall_mem_append, List.forall_mem_cons, List.not_mem_nil, false_implies, implies_true, and_true, true_and]; simp
  generalize (w.alloc (.cells #[.float .f32 x, .float .f32 y, .float .f32 z] 34)).alloc (.cells #[.float .f32 0, .float .f32 0, .float .f32 0] 34) = W1 at Wb hkept ⊢
  have hK := hkept
  simp only [Kept, List.forall_mem_append, List.forall_mem_cons, List.not_mem_nil, false_implies, implies_true, and_true, true_and] at hK
  go_wp2_with (first
    | (go_at_call 92; refine (s_sine_any _ _).mono ?_; rintro _ w1 ⟨r1, rfl, hr1, hb1⟩; (first | have hkept := keep hkept hb1 | have hkept := keep (kept_drewN hkept _) hb1 | have hkept := keep (kept_drewN (kept_drewN hkept _) _) hb1 | have hkept := keep (kept_drewN (kept_drewN (kept_drewN hkept _) _) _) hb1); clear hK; have hK := hkept; simp only [Kept, List.forall_mem_append, List.forall_mem_cons, List.not_mem_nil, false_implies, implies_true, and_true, true_and] at hK)
    | (go_at_call 83; refine (s_pick_any _ _ _ _ _).mono ?_; rintro _ w1 ⟨rfl, hb1⟩; (first | have hkept := keep hkept hb1 | have hkept := keep (kept_drewN hkept _) hb1 | have hkept := keep (kept_drewN (kept_drewN hkept _) _) hb1 | have hkept := keep (kept_drewN (kept_drewN (kept_drewN hkept _) _) _) hb1); clear hK; have hK := hkept; simp only [Kept, List.forall_mem_append, List.forall_mem_cons, List.not_mem_nil, false_implies, implies_true, and_true, true_and] at hK)
    | (go_at_call 82; refine (s_set_any _ _ _ _ _ _).mono ?_; rintro _ w1 ⟨rfl, hb1⟩; (first | have hkept := keep hkept hb1 | have hkept := keep (kept_drewN hkept _) hb1 | have hkept := keep (kept_drewN (kept_drewN hkept _) _) hb1 | have hkept := keep (kept_drewN (kept_drewN (kept_drewN hkept _) _) _) hb1); clear hK; have hK := hkept; simp only [Kept, List.forall_mem_append, List.forall_mem_cons, List.not_mem_nil, false_implies, implies_true, and_true, true_and] at hK)
    | (refine wp_bin rfl _ _ _ _ _ rfl _ _ _ rfl rfl rfl ?_; intro r n hr))
  exact bodyPost_ret (v := .agg #[.float .f32 _, .float .f32 _, .float .f32 _]) (by simp [results, Try.results81, go_sem, hK]; exact ⟨rfl, rfl, rfl⟩) rfl ⟨_, _, _, rfl, by simp only [setX, setY, setZ, pickF, n20, n21, n10, n01, if_true, if_false, turn1, turn2, cn_c6, *]; done, by simp only [setX, setY, setZ, pickF, n20, n21, n10, n01, if_true, if_false, turn1, turn2, cn_c6, *]; done, by simp only [setX, setY, setZ, pickF, n20, n21, n10, n01, if_true, if_false, turn1, turn2, cn_c6, *]; done, (by repeat' (first | exact Below.refl _ _ | exact Nat.le_refl _ | refine below_drewN ?_ _ | refine Below.alloc ?_ (by first | (simp; done) | (simp; omega)) _ | refine Below.setCell ?_ (by first | (simp; done) | (simp; omega)) _ | refine below_step ?_ (by assumption)))⟩

set_option maxRecDepth 100000 in
set_option maxHeartbeats 1000000 in
theorem s_turned_2 (x y z t : Nat) (w : World) :
    Calls Try.prog 81 #[V3 x y z, .int .i64 2, F1 t] w (RetV (turn1 (cn .f32 t) (cn .f32 x) (cn .f32 y)) (turn2 (cn .f32 t) (cn .f32 x) (cn .f32 y)) (cn .f32 z) w) := by
  go_enter Try.func81, Try.ntmps81
  go_upto_region 1 with (fail)
  have Wb : Below w.heap.size w ((w.alloc (.cells #[.float .f32 x, .float .f32 y, .float .f32 z] 34)).alloc (.cells #[.float .f32 0, .float .f32 0, .float .f32 0] 34)) := (by repeat' (first | exact Below.refl _ _ | exact Nat.le_refl _ | refine below_drewN ?_ _ | refine Below.alloc ?_ (by first | (simp; done) | (simp; omega)) _ | refine Below.setCell ?_ (by first | (simp; done) | (simp; omega)) _ | refine below_step ?_ (by assumption)))

  have hkept : Kept [(⟨w.heap.size, 0, none⟩, .float .f32 x), (⟨w.heap.size, 1, none⟩, .float .f32 y), (⟨w.heap.size, 2, none⟩, .float .f32 z), (⟨w.heap.size + 1, 0, none⟩, .float .f32 0), (⟨w.heap.size + 1, 1, none⟩, .float .f32 0), (⟨w.heap.size + 1, 2, none⟩, .float .f32 0)] [⟨w.heap.size + 1, 0, none⟩, ⟨w.heap.size + 1, 1, none⟩, ⟨w.heap.size + 1, 2, none⟩] ((w.alloc (.cells #[.float .f32 x, .float .f32 y, .float .f32 z] 34)).alloc (.cells #[.float .f32 0, .float .f32 0, .float .f32 0] 34)) := by
    simp only [Kept, List.forall_mem_append, List.forall_mem_cons, List.not_mem_nil, false_implies, implies_true, and_true, true_and]; simp
  generalize (w.alloc (.cells #[.float .f32 x, .float .f32 y, .float .f32 z] 34)).alloc (.cells #[.float .f32 0, .float .f32 0, .float .f32 0] 34) = W1 at Wb hkept ⊢
  have hK := hkept
  simp only [Kept, List.forall_mem_append, List.forall_mem_cons, List.not_mem_nil, false_implies, implies_true, and_true, true_and] at hK
  go_wp2_with (first
    | (go_at_call 92; refine (s_sine_any _ _).mono ?_; rintro _ w1 ⟨r1, rfl, hr1, hb1⟩; (first | have hkept := keep hkept hb1 | have hkept := keep (kept_drewN hkept _) hb1 | have hkept := keep (kept_drewN (kept_drewN hkept _) _) hb1 | have hkept := keep (kept_drewN (kept_drewN (kept_drewN hkept _) _) _) hb1); clear hK; have hK := hkept; simp only [Kept, List.forall_mem_append, List.forall_mem_cons, List.not_mem_nil, false_implies, implies_true, and_true, true_and] at hK)
    | (go_at_call 83; refine (s_pick_any _ _ _ _ _).mono ?_; rintro _ w1 ⟨rfl, hb1⟩; (first | have hkept := keep hkept hb1 | have hkept := keep (kept_drewN hkept _) hb1 | have hkept := keep (kept_drewN (kept_drewN hkept _) _) hb1 | have hkept := keep (kept_drewN (kept_drewN (kept_drewN hkept _) _) _) hb1); clear hK; have hK := hkept; simp only [Kept, List.forall_mem_append, List.forall_mem_cons, List.not_mem_nil, false_implies, implies_true, and_true, true_and] at hK)
    | (go_at_call 82; refine (s_set_any _ _ _ _ _ _).mono ?_; rintro _ w1 ⟨rfl, hb1⟩; (first | have hkept := keep hkept hb1 | have hkept := keep (kept_drewN hkept _) hb1 | have hkept := keep (kept_drewN (kept_drewN hkept _) _) hb1 | have hkept := keep (kept_drewN (kept_drewN (kept_drewN hkept _) _) _) hb1); clear hK; have hK := hkept; simp only [Kept, List.forall_mem_append, List.forall_mem_cons, List.not_mem_nil, false_implies, implies_true, and_true, true_and] at hK)
    | (refine wp_bin rfl _ _ _ _ _ rfl _ _ _ rfl rfl rfl ?_; intro r n hr))
  exact bodyPost_ret (v := .agg #[.float .f32 _, .float .f32 _, .float .f32 _]) (by simp [results, Try.results81, go_sem, hK]; exact ⟨rfl, rfl, rfl⟩) rfl ⟨_, _, _, rfl, by simp only [setX, setY, setZ, pickF, n20, n21, n10, n01, if_true, if_false, turn1, turn2, cn_c6, *]; done, by simp only [setX, setY, setZ, pickF, n20, n21, n10, n01, if_true, if_false, turn1, turn2, cn_c6, *]; done, by simp only [setX, setY, setZ, pickF, n20, n21, n10, n01, if_true, if_false, turn1, turn2, cn_c6, *]; done, (by repeat' (first | exact Below.refl _ _ | exact Nat.le_refl _ | refine below_drewN ?_ _ | refine Below.alloc ?_ (by first | (simp; done) | (simp; omega)) _ | refine Below.setCell ?_ (by first | (simp; done) | (simp; omega)) _ | refine below_step ?_ (by assumption)))⟩
end Go.Proofs.Ytdbpgblhnhdhoaa
