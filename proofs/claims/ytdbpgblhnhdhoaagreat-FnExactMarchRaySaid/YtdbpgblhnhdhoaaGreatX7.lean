/-
  Walks: points between two points, of the program and of the reference.
-/
import Derived.Test.YtdbpgblhnhdhoaaGreatX1
set_option linter.unusedVariables false
set_option linter.unusedSimpArgs false
namespace Go.Proofs.YtdbpgblhnhdhoaaGreat
open Go.RowKit Go.Fl

def betN (a b h : Nat) : Nat := B .add a (B .mul (B .sub b a) h)

inductive PhiB (fl fs fa : FuncId) : FuncId → Array Value → Value → Prop
  | less (x y z x' y' z' a b c : Nat) (h1 : cn .f32 a = B .sub (cn .f32 x) (cn .f32 x')) (h2 : cn .f32 b = B .sub (cn .f32 y) (cn .f32 y')) (h3 : cn .f32 c = B .sub (cn .f32 z) (cn .f32 z')) : PhiB fl fs fa fl #[V3 x y z, V3 x' y' z'] (V3 a b c)
  | scale (x y z f a b c : Nat) (h1 : cn .f32 a = B .mul (cn .f32 x) (cn .f32 f)) (h2 : cn .f32 b = B .mul (cn .f32 y) (cn .f32 f)) (h3 : cn .f32 c = B .mul (cn .f32 z) (cn .f32 f)) : PhiB fl fs fa fs #[V3 x y z, F1 f] (V3 a b c)
  | add (x y z x' y' z' a b c : Nat) (h1 : cn .f32 a = B .add (cn .f32 x) (cn .f32 x')) (h2 : cn .f32 b = B .add (cn .f32 y) (cn .f32 y')) (h3 : cn .f32 c = B .add (cn .f32 z) (cn .f32 z')) : PhiB fl fs fa fa #[V3 x y z, V3 x' y' z'] (V3 a b c)

set_option maxRecDepth 100000 in
set_option maxHeartbeats 2000000 in
theorem between_any (x y z x' y' z' h : Nat) (w : World) :
    Calls Tryz.prog 73 #[V3 x y z, V3 x' y' z', F1 h] w (RetV (betN (cn .f32 x) (cn .f32 x') (cn .f32 h)) (betN (cn .f32 y) (cn .f32 y') (cn .f32 h)) (betN (cn .f32 z) (cn .f32 z') (cn .f32 h)) w) := by
  go_enter Tryz.func73, Tryz.ntmps73
  go_wp2_with fail
  have W1b : Below w.heap.size w (((w.alloc (.cells #[.float .f32 x, .float .f32 y, .float .f32 z] 35)).alloc (.cells #[.float .f32 x', .float .f32 y', .float .f32 z'] 35)).alloc (.cells #[.float .f32 0, .float .f32 0, .float .f32 0] 35)) := (by repeat' (first | exact Below.refl _ _ | exact Nat.le_refl _ | refine below_drewN ?_ _ | refine Below.alloc ?_ (by first | (simp; done) | (simp; omega)) _ | refine Below.setCell ?_ (by first | (simp; done) | (simp; omega)) _ | refine below_step ?_ (by assumption)))

  have hkept : Kept [(⟨w.heap.size, 0, none⟩, .float .f32 x), (⟨w.heap.size, 1, none⟩, .float .f32 y), (⟨w.heap.size, 2, none⟩, .float .f32 z), (⟨w.heap.size + 1, 0, none⟩, .float .f32 x'), (⟨w.heap.size + 1, 1, none⟩, .float .f32 y'), (⟨w.heap.size + 1, 2, none⟩, .float .f32 z'), (⟨w.heap.size + 1 + 1, 0, none⟩, .float .f32 0), (⟨w.heap.size + 1 + 1, 1, none⟩, .float .f32 0), (⟨w.heap.size + 1 + 1, 2, none⟩, .float .f32 0)] [⟨w.heap.size + 1 + 1, 0, none⟩, ⟨w.heap.size + 1 + 1, 1, none⟩, ⟨w.heap.size + 1 + 1, 2, none⟩] (((w.alloc (.cells #[.float .f32 x, .float .f32 y, .float .f32 z] 35)).alloc (.cells #[.float .f32 x', .float .f32 y', .float .f32 z'] 35)).alloc (.cells #[.float .f32 0, .float .f32 0, .float .f32 0] 35)) := by
    simp only [Kept, List.forall_mem_append, List.forall_mem_cons, List.not_mem_nil, false_implies, implies_true, and_true, true_and]; (first | (go_simp; done) | (simp [World.cell?, World.frozen?, World.alloc, Array.getElem?_push]; done))
  generalize ((w.alloc (.cells #[.float .f32 x, .float .f32 y, .float .f32 z] 35)).alloc (.cells #[.float .f32 x', .float .f32 y', .float .f32 z'] 35)).alloc (.cells #[.float .f32 0, .float .f32 0, .float .f32 0] 35) = W1 at *
  refine Qr.wp_below 7 (by kernel_rfl) (by kernel_rfl) (PhiB 82 81 80) ?_
  repeat (first | (refine Qr.walk_plain rfl fun K hK => ?_; apply Qr.one_det; (focus (intro w' hw'; have HK := keep hkept hw'; simp only [Kept, List.forall_mem_append, List.forall_mem_cons, List.not_mem_nil, false_implies, implies_true, and_true, true_and] at HK; go_simp; first | done | rfl)); go_simp; refine hK _ ?_; clear hK K) | (refine Qr.walk_plain rfl fun K hK => ?_; apply Qr.one_call; (focus (intro w' hw'; go_simp; first | done | exact ⟨rfl, rfl⟩)); (focus (intro w' hw';  go_at_call 82; refine (less_any _ _ _ _ _ _ _).mono ?_; rintro _ w3 ⟨r1, r2, r3, rfl, hr1, hr2, hr3, hb1⟩; exact ⟨_, rfl, PhiB.less _ _ _ _ _ _ _ _ _ hr1 hr2 hr3, hw'.trans (by exact Below.mono (by assumption) hw'.size), by assumption⟩)); intro v hv; cases hv; go_simp; refine hK _ ?_; clear hK K) | (refine Qr.walk_plain rfl fun K hK => ?_; apply Qr.one_call; (focus (intro w' hw'; go_simp; first | done | exact ⟨rfl, rfl⟩)); (focus (intro w' hw';  go_at_call 81; refine (scale_any _ _ _ _ _).mono ?_; rintro _ w3 ⟨r1, r2, r3, rfl, hr1, hr2, hr3, hb1⟩; exact ⟨_, rfl, PhiB.scale _ _ _ _ _ _ _ hr1 hr2 hr3, hw'.trans (by exact Below.mono (by assumption) hw'.size), by assumption⟩)); intro v hv; cases hv; go_simp; refine hK _ ?_; clear hK K) | (refine Qr.walk_plain rfl fun K hK => ?_; apply Qr.one_call; (focus (intro w' hw'; go_simp; first | done | exact ⟨rfl, rfl⟩)); (focus (intro w' hw';  go_at_call 80; refine (add_any _ _ _ _ _ _ _).mono ?_; rintro _ w3 ⟨r1, r2, r3, rfl, hr1, hr2, hr3, hb1⟩; exact ⟨_, rfl, PhiB.add _ _ _ _ _ _ _ _ _ hr1 hr2 hr3, hw'.trans (by exact Below.mono (by assumption) hw'.size), by assumption⟩)); intro v hv; cases hv; go_simp; refine hK _ ?_; clear hK K))
  rename_i a1 b1 c1 g1 g2 g3 a2 b2 c2 g4 g5 g6 a3 b3 c3 g7 g8 g9
  refine Qr.walk_nil fun w5 hw5 => ?_
  have W5b := below_step W1b hw5
  have hK := keep hkept hw5
  simp only [Kept, List.forall_mem_append, List.forall_mem_cons, List.not_mem_nil, false_implies, implies_true, and_true, true_and] at hK
  have e1 : cn .f32 a3 = betN (cn .f32 x) (cn .f32 x') (cn .f32 h) := by rw [g7, g4, g1]; rfl
  have e2 : cn .f32 b3 = betN (cn .f32 y) (cn .f32 y') (cn .f32 h) := by rw [g8, g5, g2]; rfl
  have e3 : cn .f32 c3 = betN (cn .f32 z) (cn .f32 z') (cn .f32 h) := by rw [g9, g6, g3]; rfl
  clear g1 g2 g3 g4 g5 g6 g7 g8 g9 hkept
  go_wp2_with fail
  exact bodyPost_ret (v := .agg #[.float .f32 a3, .float .f32 b3, .float .f32 c3]) (by simp [results, Tryz.results73, go_sem, hK, World.cell?_setCell_other, World.cell?_setCell_same']) rfl ⟨_, _, _, rfl, e1, e2, e3, ((W5b.setCell (by show w.heap.size ≤ w.heap.size + 1 + 1; omega) _).setCell (by show w.heap.size ≤ w.heap.size + 1 + 1; omega) _).setCell (by show w.heap.size ≤ w.heap.size + 1 + 1; omega) _⟩
set_option maxRecDepth 100000 in
set_option maxHeartbeats 2000000 in
theorem s_between_any (x y z x' y' z' h : Nat) (w : World) :
    Calls Tryz.prog 71 #[V3 x y z, V3 x' y' z', F1 h] w (RetV (betN (cn .f32 x) (cn .f32 x') (cn .f32 h)) (betN (cn .f32 y) (cn .f32 y') (cn .f32 h)) (betN (cn .f32 z) (cn .f32 z') (cn .f32 h)) w) := by
  go_enter Tryz.func71, Tryz.ntmps71
  go_wp2_with fail
  have W1b : Below w.heap.size w (((w.alloc (.cells #[.float .f32 x, .float .f32 y, .float .f32 z] 35)).alloc (.cells #[.float .f32 x', .float .f32 y', .float .f32 z'] 35)).alloc (.cells #[.float .f32 0, .float .f32 0, .float .f32 0] 35)) := (by repeat' (first | exact Below.refl _ _ | exact Nat.le_refl _ | refine below_drewN ?_ _ | refine Below.alloc ?_ (by first | (simp; done) | (simp; omega)) _ | refine Below.setCell ?_ (by first | (simp; done) | (simp; omega)) _ | refine below_step ?_ (by assumption)))

  have hkept : Kept [(⟨w.heap.size, 0, none⟩, .float .f32 x), (⟨w.heap.size, 1, none⟩, .float .f32 y), (⟨w.heap.size, 2, none⟩, .float .f32 z), (⟨w.heap.size + 1, 0, none⟩, .float .f32 x'), (⟨w.heap.size + 1, 1, none⟩, .float .f32 y'), (⟨w.heap.size + 1, 2, none⟩, .float .f32 z'), (⟨w.heap.size + 1 + 1, 0, none⟩, .float .f32 0), (⟨w.heap.size + 1 + 1, 1, none⟩, .float .f32 0), (⟨w.heap.size + 1 + 1, 2, none⟩, .float .f32 0)] [⟨w.heap.size + 1 + 1, 0, none⟩, ⟨w.heap.size + 1 + 1, 1, none⟩, ⟨w.heap.size + 1 + 1, 2, none⟩] (((w.alloc (.cells #[.float .f32 x, .float .f32 y, .float .f32 z] 35)).alloc (.cells #[.float .f32 x', .float .f32 y', .float .f32 z'] 35)).alloc (.cells #[.float .f32 0, .float .f32 0, .float .f32 0] 35)) := by
    simp only [Kept, List.forall_mem_append, List.forall_mem_cons, List.not_mem_nil, false_implies, implies_true, and_true, true_and]; (first | (go_simp; done) | (simp [World.cell?, World.frozen?, World.alloc, Array.getElem?_push]; done))
  generalize ((w.alloc (.cells #[.float .f32 x, .float .f32 y, .float .f32 z] 35)).alloc (.cells #[.float .f32 x', .float .f32 y', .float .f32 z'] 35)).alloc (.cells #[.float .f32 0, .float .f32 0, .float .f32 0] 35) = W1 at *
  refine Qr.wp_below 7 (by kernel_rfl) (by kernel_rfl) (PhiB 121 111 110) ?_
  repeat (first | (refine Qr.walk_plain rfl fun K hK => ?_; apply Qr.one_det; (focus (intro w' hw'; have HK := keep hkept hw'; simp only [Kept, List.forall_mem_append, List.forall_mem_cons, List.not_mem_nil, false_implies, implies_true, and_true, true_and] at HK; go_simp; first | done | rfl)); go_simp; refine hK _ ?_; clear hK K) | (refine Qr.walk_plain rfl fun K hK => ?_; apply Qr.one_call; (focus (intro w' hw'; go_simp; first | done | exact ⟨rfl, rfl⟩)); (focus (intro w' hw';  go_at_call 121; refine (s_less_any _ _ _ _ _ _ _).mono ?_; rintro _ w3 ⟨r1, r2, r3, rfl, hr1, hr2, hr3, hb1⟩; exact ⟨_, rfl, PhiB.less _ _ _ _ _ _ _ _ _ hr1 hr2 hr3, hw'.trans (by exact Below.mono (by assumption) hw'.size), by assumption⟩)); intro v hv; cases hv; go_simp; refine hK _ ?_; clear hK K) | (refine Qr.walk_plain rfl fun K hK => ?_; apply Qr.one_call; (focus (intro w' hw'; go_simp; first | done | exact ⟨rfl, rfl⟩)); (focus (intro w' hw';  go_at_call 111; refine (s_scale_any _ _ _ _ _).mono ?_; rintro _ w3 ⟨r1, r2, r3, rfl, hr1, hr2, hr3, hb1⟩; exact ⟨_, rfl, PhiB.scale _ _ _ _ _ _ _ hr1 hr2 hr3, hw'.trans (by exact Below.mono (by assumption) hw'.size), by assumption⟩)); intro v hv; cases hv; go_simp; refine hK _ ?_; clear hK K) | (refine Qr.walk_plain rfl fun K hK => ?_; apply Qr.one_call; (focus (intro w' hw'; go_simp; first | done | exact ⟨rfl, rfl⟩)); (focus (intro w' hw';  go_at_call 110; refine (s_add_any _ _ _ _ _ _ _).mono ?_; rintro _ w3 ⟨r1, r2, r3, rfl, hr1, hr2, hr3, hb1⟩; exact ⟨_, rfl, PhiB.add _ _ _ _ _ _ _ _ _ hr1 hr2 hr3, hw'.trans (by exact Below.mono (by assumption) hw'.size), by assumption⟩)); intro v hv; cases hv; go_simp; refine hK _ ?_; clear hK K))
  rename_i a1 b1 c1 g1 g2 g3 a2 b2 c2 g4 g5 g6 a3 b3 c3 g7 g8 g9
  refine Qr.walk_nil fun w5 hw5 => ?_
  have W5b := below_step W1b hw5
  have hK := keep hkept hw5
  simp only [Kept, List.forall_mem_append, List.forall_mem_cons, List.not_mem_nil, false_implies, implies_true, and_true, true_and] at hK
  have e1 : cn .f32 a3 = betN (cn .f32 x) (cn .f32 x') (cn .f32 h) := by rw [g7, g4, g1]; rfl
  have e2 : cn .f32 b3 = betN (cn .f32 y) (cn .f32 y') (cn .f32 h) := by rw [g8, g5, g2]; rfl
  have e3 : cn .f32 c3 = betN (cn .f32 z) (cn .f32 z') (cn .f32 h) := by rw [g9, g6, g3]; rfl
  clear g1 g2 g3 g4 g5 g6 g7 g8 g9 hkept
  go_wp2_with fail
  exact bodyPost_ret (v := .agg #[.float .f32 a3, .float .f32 b3, .float .f32 c3]) (by simp [results, Tryz.results71, go_sem, hK, World.cell?_setCell_other, World.cell?_setCell_same']) rfl ⟨_, _, _, rfl, e1, e2, e3, ((W5b.setCell (by show w.heap.size ≤ w.heap.size + 1 + 1; omega) _).setCell (by show w.heap.size ≤ w.heap.size + 1 + 1; omega) _).setCell (by show w.heap.size ≤ w.heap.size + 1 + 1; omega) _⟩
end Go.Proofs.YtdbpgblhnhdhoaaGreat
