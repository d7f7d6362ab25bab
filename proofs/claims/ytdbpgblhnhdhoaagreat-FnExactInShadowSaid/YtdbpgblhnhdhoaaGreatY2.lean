/-
  Walks: places on rays of the reference.
-/
import Derived.Test.YtdbpgblhnhdhoaaGreatY1
set_option linter.unusedVariables false
set_option linter.unusedSimpArgs false
namespace Go.Proofs.YtdbpgblhnhdhoaaGreat
open Go.RowKit Go.Fl

inductive PhiO (fu fs fa : FuncId) : FuncId → Array Value → Value → Prop
  | unit (x y z a b c : Nat) (h1 : cn .f32 a = (unitF (cn .f32 x, cn .f32 y, cn .f32 z)).1) (h2 : cn .f32 b = (unitF (cn .f32 x, cn .f32 y, cn .f32 z)).2.1) (h3 : cn .f32 c = (unitF (cn .f32 x, cn .f32 y, cn .f32 z)).2.2) : PhiO fu fs fa fu #[V3 x y z] (V3 a b c)
  | scale (x y z f a b c : Nat) (h1 : cn .f32 a = B .mul (cn .f32 x) (cn .f32 f)) (h2 : cn .f32 b = B .mul (cn .f32 y) (cn .f32 f)) (h3 : cn .f32 c = B .mul (cn .f32 z) (cn .f32 f)) : PhiO fu fs fa fs #[V3 x y z, F1 f] (V3 a b c)
  | add (x y z x' y' z' a b c : Nat) (h1 : cn .f32 a = B .add (cn .f32 x) (cn .f32 x')) (h2 : cn .f32 b = B .add (cn .f32 y) (cn .f32 y')) (h3 : cn .f32 c = B .add (cn .f32 z) (cn .f32 z')) : PhiO fu fs fa fa #[V3 x y z, V3 x' y' z'] (V3 a b c)

set_option maxRecDepth 100000 in
set_option maxHeartbeats 1000000 in
theorem s_on_any (a b c d e f rb ro far : Nat) (w : World) (h : RayIn a b c d e f rb ro w) :
    Calls Tryz.prog 135 #[.pointer (some ⟨rb, ro, none⟩), F1 far] w (RetV (onF (cn .f32 a, cn .f32 b, cn .f32 c) (cn .f32 d, cn .f32 e, cn .f32 f) (cn .f32 far)).1 (onF (cn .f32 a, cn .f32 b, cn .f32 c) (cn .f32 d, cn .f32 e, cn .f32 f) (cn .f32 far)).2.1 (onF (cn .f32 a, cn .f32 b, cn .f32 c) (cn .f32 d, cn .f32 e, cn .f32 f) (cn .f32 far)).2.2 w) := by
  obtain ⟨U, hU⟩ : ∃ U, Hid (onF (cn .f32 a, cn .f32 b, cn .f32 c) (cn .f32 d, cn .f32 e, cn .f32 f) (cn .f32 far) = U) := ⟨_, rfl⟩
  rw [hU.out]
  have hkept := h.kept
  have hlt := h.lt
  clear h
  go_enter Tryz.func135, Tryz.ntmps135
  go_upto_region 1 with fail
  have hbA : Below w.heap.size w (w.alloc (.cells #[F1 0, F1 0, F1 0] 35)) := (Below.refl _ _).alloc (Nat.le_refl _) _
  have hkept := kept_app (keep hkept hbA) (show Kept [(⟨w.heap.size, 0, none⟩, F1 0), (⟨w.heap.size, 1, none⟩, F1 0), (⟨w.heap.size, 2, none⟩, F1 0)] [⟨w.heap.size, 0, none⟩, ⟨w.heap.size, 1, none⟩, ⟨w.heap.size, 2, none⟩] (w.alloc (.cells #[F1 0, F1 0, F1 0] 35)) by simp only [Kept, List.forall_mem_append, List.forall_mem_cons, List.not_mem_nil, false_implies, implies_true, and_true, true_and]; simp)
  generalize w.alloc (.cells #[F1 0, F1 0, F1 0] 35) = W1 at *
  refine Qr.wp_below 12 (by kernel_rfl) (by kernel_rfl) (PhiO 132 111 110) ?_
  repeat (first
    | (refine Qr.walk_plain rfl fun K hK => ?_; apply Qr.one_det; (focus (intro w' hw'; have HK := keep hkept hw'; simp only [Kept, List.forall_mem_append, List.forall_mem_cons, List.not_mem_nil, false_implies, implies_true, and_true, true_and] at HK; go_simp; first | done | rfl)); go_simp; refine hK _ ?_; clear hK K)
    | (refine Qr.walk_plain rfl fun K hK => ?_; apply Qr.one_call; (focus (intro w' hw'; go_simp; first | done | exact ⟨rfl, rfl⟩)); (focus (intro w' hw';  go_at_call 132; refine (s_unit_any _ _ _ _).mono ?_; rintro _ w3 ⟨r1, r2, r3, rfl, hr1, hr2, hr3, hb1⟩; exact ⟨_, rfl, PhiO.unit _ _ _ _ _ _ hr1 hr2 hr3, hw'.trans (by exact Below.mono (by assumption) hw'.size), by assumption⟩)); intro v hv; cases hv; go_simp; refine hK _ ?_; clear hK K)
    | (refine Qr.walk_plain rfl fun K hK => ?_; apply Qr.one_call; (focus (intro w' hw'; go_simp; first | done | exact ⟨rfl, rfl⟩)); (focus (intro w' hw';  go_at_call 111; refine (s_scale_any _ _ _ _ _).mono ?_; rintro _ w3 ⟨r1, r2, r3, rfl, hr1, hr2, hr3, hb1⟩; exact ⟨_, rfl, PhiO.scale _ _ _ _ _ _ _ hr1 hr2 hr3, hw'.trans (by exact Below.mono (by assumption) hw'.size), by assumption⟩)); intro v hv; cases hv; go_simp; refine hK _ ?_; clear hK K)
    | (refine Qr.walk_plain rfl fun K hK => ?_; apply Qr.one_call; (focus (intro w' hw'; go_simp; first | done | exact ⟨rfl, rfl⟩)); (focus (intro w' hw';  go_at_call 110; refine (s_add_any _ _ _ _ _ _ _).mono ?_; rintro _ w3 ⟨r1, r2, r3, rfl, hr1, hr2, hr3, hb1⟩; exact ⟨_, rfl, PhiO.add _ _ _ _ _ _ _ _ _ hr1 hr2 hr3, hw'.trans (by exact Below.mono (by assumption) hw'.size), by assumption⟩)); intro v hv; cases hv; go_simp; refine hK _ ?_; clear hK K))
  rename_i a1 b1 c1 g1 g2 g3 a2 b2 c2 g4 g5 g6 a3 b3 c3 g7 g8 g9
  refine Qr.walk_nil fun w5 hw5 => ?_
  have W5b := below_step hbA hw5
  have hkept := keep hkept hw5
  have hK := hkept; simp only [Kept, List.forall_mem_append, List.forall_mem_cons, List.not_mem_nil, false_implies, implies_true, and_true, true_and] at hK
  have e1 : (cn .f32 a3, cn .f32 b3, cn .f32 c3) = U := by rw [g7, g8, g9, g4, g5, g6, g1, g2, g3, ← hU.out]; rfl
  clear g1 g2 g3 g4 g5 g6 g7 g8 g9
  go_wp2_with fail
  exact bodyPost_ret (v := .agg #[.float .f32 a3, .float .f32 b3, .float .f32 c3]) (by simp [results, Tryz.results135, go_sem, hK, World.cell?_setCell_other, World.cell?_setCell_same']) rfl ⟨_, _, _, rfl, congrArg (·.1) e1, congrArg (·.2.1) e1, congrArg (·.2.2) e1, (by repeat' (first | exact Below.refl _ _ | exact Nat.le_refl _ | refine Below.drew ?_ | refine below_drewN ?_ _ | refine Below.alloc ?_ (by first | (simp; done) | (simp; omega)) _ | refine Below.setCell ?_ (by first | (simp; done) | (simp; omega)) _ | refine below_step ?_ (by assumption)))⟩
end Go.Proofs.YtdbpgblhnhdhoaaGreat
