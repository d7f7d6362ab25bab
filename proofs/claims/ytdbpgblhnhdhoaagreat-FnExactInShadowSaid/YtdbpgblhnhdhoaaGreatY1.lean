/-
  Walks: units and right rays of the reference.
-/
import Derived.Test.YtdbpgblhnhdhoaaGreatX1
set_option linter.unusedVariables false
set_option linter.unusedSimpArgs false
namespace Go.Proofs.YtdbpgblhnhdhoaaGreat
open Go.RowKit Go.Fl

def finB (x : Nat) : Bool := eqk .f32 (B .sub x x) 0
def oneL (p : Nat × Nat × Nat) : Nat := B .quo (cn .f32 1065353216) (longF p.1 p.2.1 p.2.2)
def unitF (p : Nat × Nat × Nat) : Nat × Nat × Nat := if eqk .f32 (longF p.1 p.2.1 p.2.2) 0 || !(finB (longF p.1 p.2.1 p.2.2) && finB (oneL p)) then (0, 0, 0) else scaleV p (oneL p)
def vfin (p : Nat × Nat × Nat) : Bool := finB p.1 && finB p.2.1 && finB p.2.2
def wayF (p : Nat × Nat × Nat) : Bool := eqk .f32 p.1 p.1 && eqk .f32 p.2.1 p.2.1 && eqk .f32 p.2.2 p.2.2 && (!eqk .f32 p.1 0 || !eqk .f32 p.2.1 0 || !eqk .f32 p.2.2 0)
def rayOk (f t : Nat × Nat × Nat) : Bool := vfin f && wayF (unitF t)
def onF (f t : Nat × Nat × Nat) (far : Nat) : Nat × Nat × Nat := addV f (scaleV (unitF t) far)
def marOk (a b : Nat) (n : Int) : Bool := rightP a && finB b && (gtk .f32 b 0 || eqk .f32 b 0) && (decide (1 ≤ n) && decide (n ≤ 64))

theorem keptT {cs : List (Addr × Value)} {fs : List Addr} {W W' : World} (h : Kept cs fs W) (e : W'.heap = W.heap) : Kept cs fs W' := by
  obtain ⟨h1, h2⟩ := h
  have hc : ∀ a, W'.cell? a = W.cell? a := fun a => by unfold World.cell?; rw [e]
  have hf : ∀ a, W'.frozen? a = W.frozen? a := fun a => by unfold World.frozen?; rw [e]
  exact ⟨fun p hp => by rw [hc]; exact h1 p hp, fun a ha => by rw [hc, hf]; exact h2 a ha⟩
theorem keepT {cs : List (Addr × Value)} {fs : List Addr} {W X w : World} (h : Kept cs fs W) (hb : Below X.heap.size X w) (e : X.heap = W.heap) : Kept cs fs w := keep (keptT h e) hb

theorem cn_one : cn .f32 1065353216 = 1065353216 := by decide +kernel
theorem eqk_of {x : Nat} {b : Bool} (h : (FloatKind.f32.format.order x 0 == some .eq) = b) : eqk .f32 (cn .f32 x) 0 = b := by unfold eqk; rw [ord_r0]; exact h

set_option maxHeartbeats 400000 in
theorem s_vfin_any (x y z : Nat) (w : World) :
    Calls Tryz.prog 133 #[V3 x y z] w (fun e w' => e = .returned (.bool (vfin (cn .f32 x, cn .f32 y, cn .f32 z))) ∧ Below w.heap.size w w') := by
  obtain ⟨b, hb⟩ : ∃ b, Hid (vfin (cn .f32 x, cn .f32 y, cn .f32 z) = b) := ⟨_, rfl⟩
  rw [hb.out]
  have hbo := hb.out
  unfold vfin finB at hbo
  have hb := Lib.hid hbo
  clear hbo
  cases h1 : eqk .f32 (B .sub (cn .f32 x) (cn .f32 x)) 0 <;> cases h2 : eqk .f32 (B .sub (cn .f32 y) (cn .f32 y)) 0 <;> cases h3 : eqk .f32 (B .sub (cn .f32 z) (cn .f32 z)) 0
  all_goals
    have hbo := hb.out
    simp only [h1, h2, h3, Bool.and_true, Bool.and_false, Bool.false_and, Bool.true_and] at hbo
    subst hbo
    clear hb
    go_enter Tryz.func133, Tryz.ntmps133
    go_wp2_with fail
    have W1b : Below w.heap.size w (w.alloc (.cells #[.float .f32 x, .float .f32 y, .float .f32 z] 35)) := (by repeat' (first | exact Below.refl _ _ | exact Nat.le_refl _ | refine below_drewN ?_ _ | refine Below.alloc ?_ (by first | (simp; done) | (simp; omega)) _ | refine Below.setCell ?_ (by first | (simp; done) | (simp; omega)) _ | refine below_step ?_ (by assumption)))
    
    have hkept : Kept [(⟨w.heap.size, 0, none⟩, .float .f32 x), (⟨w.heap.size, 1, none⟩, .float .f32 y), (⟨w.heap.size, 2, none⟩, .float .f32 z)] [] (w.alloc (.cells #[.float .f32 x, .float .f32 y, .float .f32 z] 35)) := by
      simp only [Kept, List.forall_mem_append, List.forall_mem_cons, List.not_mem_nil, false_implies, implies_true, and_true, true_and]; (first | (go_simp; done) | (simp [World.cell?, World.frozen?, World.alloc, Array.getElem?_push]; done))
    generalize w.alloc (.cells #[.float .f32 x, .float .f32 y, .float .f32 z] 35) = W1 at *
    have hK := hkept; simp only [Kept, List.forall_mem_append, List.forall_mem_cons, List.not_mem_nil, false_implies, implies_true, and_true, true_and] at hK
    go_wp2_with (go_at_call 109; refine (s_fin_any _ _).mono ?_; rintro _ w2 ⟨rfl, hb1⟩; have hkept := keepT hkept hb1 rfl; clear hK; have hK := hkept; simp only [Kept, List.forall_mem_append, List.forall_mem_cons, List.not_mem_nil, false_implies, implies_true, and_true, true_and] at hK; simp only [h1, h2, h3])
    go_ret
    exact ⟨rfl, (by repeat' (first | exact Below.refl _ _ | exact Nat.le_refl _ | refine Below.drew ?_ | refine below_drewN ?_ _ | refine Below.alloc ?_ (by first | (simp; done) | (simp; omega)) _ | refine Below.setCell ?_ (by first | (simp; done) | (simp; omega)) _ | refine below_step ?_ (by assumption)))⟩

set_option maxRecDepth 100000 in
set_option maxHeartbeats 1000000 in
theorem s_unit_any (x y z : Nat) (w : World) :
    Calls Tryz.prog 132 #[V3 x y z] w (RetV (unitF (cn .f32 x, cn .f32 y, cn .f32 z)).1 (unitF (cn .f32 x, cn .f32 y, cn .f32 z)).2.1 (unitF (cn .f32 x, cn .f32 y, cn .f32 z)).2.2 w) := by
  obtain ⟨U, hU⟩ : ∃ U, Hid (unitF (cn .f32 x, cn .f32 y, cn .f32 z) = U) := ⟨_, rfl⟩
  rw [hU.out]
  go_enter Tryz.func132, Tryz.ntmps132
  go_wp2_with fail
  have W1b : Below w.heap.size w ((w.alloc (.cells #[.float .f32 x, .float .f32 y, .float .f32 z] 35)).alloc (.cells #[.float .f32 0, .float .f32 0, .float .f32 0] 35)) := (by repeat' (first | exact Below.refl _ _ | exact Nat.le_refl _ | refine below_drewN ?_ _ | refine Below.alloc ?_ (by first | (simp; done) | (simp; omega)) _ | refine Below.setCell ?_ (by first | (simp; done) | (simp; omega)) _ | refine below_step ?_ (by assumption)))
  
  have hkept : Kept [(⟨w.heap.size, 0, none⟩, .float .f32 x), (⟨w.heap.size, 1, none⟩, .float .f32 y), (⟨w.heap.size, 2, none⟩, .float .f32 z), (⟨w.heap.size + 1, 0, none⟩, .float .f32 0), (⟨w.heap.size + 1, 1, none⟩, .float .f32 0), (⟨w.heap.size + 1, 2, none⟩, .float .f32 0)] [⟨w.heap.size + 1, 0, none⟩, ⟨w.heap.size + 1, 1, none⟩, ⟨w.heap.size + 1, 2, none⟩] ((w.alloc (.cells #[.float .f32 x, .float .f32 y, .float .f32 z] 35)).alloc (.cells #[.float .f32 0, .float .f32 0, .float .f32 0] 35)) := by
    simp only [Kept, List.forall_mem_append, List.forall_mem_cons, List.not_mem_nil, false_implies, implies_true, and_true, true_and]; (first | (go_simp; done) | (simp [World.cell?, World.frozen?, World.alloc, Array.getElem?_push]; done))
  generalize (w.alloc (.cells #[.float .f32 x, .float .f32 y, .float .f32 z] 35)).alloc (.cells #[.float .f32 0, .float .f32 0, .float .f32 0] 35) = W1 at *
  have hK := hkept; simp only [Kept, List.forall_mem_append, List.forall_mem_cons, List.not_mem_nil, false_implies, implies_true, and_true, true_and] at hK
  go_upto_region 3 with (first | (go_at_call 124; refine (s_long_any _ _ _ _).mono ?_; rintro _ w2 ⟨r1, rfl, hr1, hb1⟩; have hkept := keepT hkept hb1 rfl; clear hK; have hK := hkept; simp only [Kept, List.forall_mem_append, List.forall_mem_cons, List.not_mem_nil, false_implies, implies_true, and_true, true_and] at hK) | (refine wp_bin rfl _ _ _ _ _ rfl _ _ _ rfl rfl rfl ?_; intro r n hr))
  have e1 : eqk .f32 (longF (cn .f32 x) (cn .f32 y) (cn .f32 z)) 0 = (FloatKind.f32.format.order r1 0 == some .eq) := by rw [← hr1, eqk, ord_r0]
  have e2 : oneL (cn .f32 x, cn .f32 y, cn .f32 z) = cn .f32 r := by rw [hr, hr1]; rfl
  have hUo := hU.out
  unfold unitF at hUo
  simp only [e2, finB] at hUo
  rw [← hr1] at hUo e1
  rw [e1] at hUo
  cases h0 : (FloatKind.f32.format.order r1 0 == some .eq) <;> cases h1 : eqk .f32 (B .sub (cn .f32 r1) (cn .f32 r1)) 0 <;> cases h2 : eqk .f32 (B .sub (cn .f32 r) (cn .f32 r)) 0
  all_goals
    rw [h0, h1, h2] at hUo
    simp only [Bool.or_true, Bool.true_or, Bool.or_false, Bool.false_or, Bool.and_true, Bool.and_false, Bool.not_true, Bool.not_false, Bool.false_eq_true, if_true, if_false] at hUo
    subst hUo
    clear hU e1 e2
    go_wp2_with (first | (go_at_call 109; refine (s_fin_any _ _).mono ?_; rintro _ w3 ⟨rfl, hb1⟩; have hkept := keepT hkept hb1 rfl; clear hK; have hK := hkept; simp only [Kept, List.forall_mem_append, List.forall_mem_cons, List.not_mem_nil, false_implies, implies_true, and_true, true_and] at hK; simp only [h1, h2]) | (go_at_call 111; refine (s_scale_any _ _ _ _ _).mono ?_; rintro _ w4 ⟨s1, s2, s3, rfl, hs1, hs2, hs3, hb1⟩; have hkept := keepT hkept hb1 rfl; clear hK; have hK := hkept; simp only [Kept, List.forall_mem_append, List.forall_mem_cons, List.not_mem_nil, false_implies, implies_true, and_true, true_and] at hK))
    first
      | exact bodyPost_ret (v := V3 0 0 0) (by simp [results, Tryz.results132, go_sem, hK, World.cell?_setCell_other, World.cell?_setCell_same']) rfl ⟨_, _, _, rfl, cn_zero _, cn_zero _, cn_zero _, (by repeat' (first | exact Below.refl _ _ | exact Nat.le_refl _ | refine Below.drew ?_ | refine below_drewN ?_ _ | refine Below.alloc ?_ (by first | (simp; done) | (simp; omega)) _ | refine Below.setCell ?_ (by first | (simp; done) | (simp; omega)) _ | refine below_step ?_ (by assumption)))⟩
      | exact bodyPost_ret (v := V3 s1 s2 s3) (by simp [results, Tryz.results132, go_sem, hK, World.cell?_setCell_other, World.cell?_setCell_same']) rfl ⟨_, _, _, rfl, hs1, hs2, hs3, (by repeat' (first | exact Below.refl _ _ | exact Nat.le_refl _ | refine Below.drew ?_ | refine below_drewN ?_ _ | refine Below.alloc ?_ (by first | (simp; done) | (simp; omega)) _ | refine Below.setCell ?_ (by first | (simp; done) | (simp; omega)) _ | refine below_step ?_ (by assumption)))⟩

/-- A ray lies here. -/
structure RayIn (a b c d e f rb ro : Nat) (w : World) : Prop where
  kept : Kept [(⟨rb, ro, none⟩, F1 a), (⟨rb, ro + 1, none⟩, F1 b), (⟨rb, ro + 2, none⟩, F1 c), (⟨rb, ro + 3, none⟩, F1 d), (⟨rb, ro + 4, none⟩, F1 e), (⟨rb, ro + 5, none⟩, F1 f)] [] w
theorem RayIn.keep {a b c d e f rb ro : Nat} {w w' : World} (h : RayIn a b c d e f rb ro w) (hb : Below w.heap.size w w') : RayIn a b c d e f rb ro w' := ⟨Go.Fl.keep h.kept hb⟩
theorem RayIn.lt {a b c d e f rb ro : Nat} {w : World} (h : RayIn a b c d e f rb ro w) : rb < w.heap.size := some_lt (a := ⟨rb, ro, none⟩) (by rw [h.kept.1 (⟨rb, ro, none⟩, F1 a) (by simp)]; rfl)

theorem way7 (v x y z p q r : Bool) : v = false ∨ (v = true ∧ x = false) ∨ (v = true ∧ x = true ∧ y = false) ∨ (v = true ∧ x = true ∧ y = true ∧ z = false) ∨ (v = true ∧ x = true ∧ y = true ∧ z = true ∧ p = true) ∨ (v = true ∧ x = true ∧ y = true ∧ z = true ∧ p = false ∧ q = true) ∨ (v = true ∧ x = true ∧ y = true ∧ z = true ∧ p = false ∧ q = false ∧ r = true) ∨ (v = true ∧ x = true ∧ y = true ∧ z = true ∧ p = false ∧ q = false ∧ r = false) := by
  cases v <;> cases x <;> cases y <;> cases z <;> cases p <;> cases q <;> cases r <;> simp

theorem way_eq (a b c : Nat) : wayF (cn .f32 a, cn .f32 b, cn .f32 c) = ((FloatKind.f32.format.order a a == some .eq) && (FloatKind.f32.format.order b b == some .eq) && (FloatKind.f32.format.order c c == some .eq) && ((FloatKind.f32.format.order a 0 != some .eq) || (FloatKind.f32.format.order b 0 != some .eq) || (FloatKind.f32.format.order c 0 != some .eq))) := by
  unfold wayF eqk
  simp only [order_cn, ord_r0]
  rfl

set_option maxRecDepth 100000 in
set_option maxHeartbeats 1000000 in
theorem s_ray_any (a b c d e f rb ro : Nat) (w : World) (h : RayIn a b c d e f rb ro w) :
    Calls Tryz.prog 87 #[.pointer (some ⟨rb, ro, none⟩)] w (fun e' w' => e' = .returned (.bool (rayOk (cn .f32 a, cn .f32 b, cn .f32 c) (cn .f32 d, cn .f32 e, cn .f32 f))) ∧ Below w.heap.size w w') := by
  obtain ⟨U, hU⟩ : ∃ U, Hid (rayOk (cn .f32 a, cn .f32 b, cn .f32 c) (cn .f32 d, cn .f32 e, cn .f32 f) = U) := ⟨_, rfl⟩
  rw [hU.out]
  have hkept := h.kept
  have hlt := h.lt
  clear h
  have hK := hkept; simp only [Kept, List.forall_mem_append, List.forall_mem_cons, List.not_mem_nil, false_implies, implies_true, and_true, true_and] at hK
  go_enter Tryz.func87, Tryz.ntmps87
  go_wp2_with (go_at_call 132; fail)
  refine (s_unit_any _ _ _ _).mono ?_
  rintro _ w2 ⟨x, y, z, rfl, hx, hy, hz, hb1⟩
  have W2b := hb1
  have W3b : Below w.heap.size w (w2.alloc (.cells #[F1 x, F1 y, F1 z] 35)) := hb1.alloc hb1.size _
  have hkept := kept_app (keep (keep hkept hb1) ((Below.refl _ _).alloc (Nat.le_refl _) (.cells #[F1 x, F1 y, F1 z] 35))) (show Kept [(⟨w2.heap.size, 0, none⟩, F1 x), (⟨w2.heap.size, 1, none⟩, F1 y), (⟨w2.heap.size, 2, none⟩, F1 z)] [] (w2.alloc (.cells #[F1 x, F1 y, F1 z] 35)) by simp only [Kept, List.forall_mem_append, List.forall_mem_cons, List.not_mem_nil, false_implies, implies_true, and_true, true_and]; simp)
  clear hK hb1 W2b
  go_upto_region 2 with fail
  generalize w2.alloc (.cells #[F1 x, F1 y, F1 z] 35) = W3 at *
  have hK := hkept; simp only [Kept, List.forall_mem_append, List.forall_mem_cons, List.not_mem_nil, false_implies, implies_true, and_true, true_and] at hK
  have hUo := hU.out
  unfold rayOk at hUo
  rw [show unitF (cn .f32 d, cn .f32 e, cn .f32 f) = (cn .f32 x, cn .f32 y, cn .f32 z) by rw [hx, hy, hz], way_eq] at hUo
  clear hx hy hz hU
  rcases way7 (vfin (cn .f32 a, cn .f32 b, cn .f32 c)) (FloatKind.f32.format.order x x == some .eq) (FloatKind.f32.format.order y y == some .eq) (FloatKind.f32.format.order z z == some .eq) (FloatKind.f32.format.order x 0 != some .eq) (FloatKind.f32.format.order y 0 != some .eq) (FloatKind.f32.format.order z 0 != some .eq) with h1 | ⟨h1, h2⟩ | ⟨h1, h2, h3⟩ | ⟨h1, h2, h3, h4⟩ | ⟨h1, h2, h3, h4, h5⟩ | ⟨h1, h2, h3, h4, h5, h6⟩ | ⟨h1, h2, h3, h4, h5, h6, h7⟩ | ⟨h1, h2, h3, h4, h5, h6, h7⟩
  all_goals
    simp only [*, Bool.and_true, Bool.and_false, Bool.false_and, Bool.true_and, Bool.or_true, Bool.true_or, Bool.or_false, Bool.false_or] at hUo
    subst hUo
    go_wp2_with (go_at_call 133; refine (s_vfin_any _ _ _ _).mono ?_; rintro _ w4 ⟨rfl, hb1⟩; have hkept := keepT hkept hb1 rfl; clear hK; have hK := hkept; simp only [Kept, List.forall_mem_append, List.forall_mem_cons, List.not_mem_nil, false_implies, implies_true, and_true, true_and] at hK; simp only [h1])
    go_ret
    exact ⟨rfl, (by repeat' (first | exact Below.refl _ _ | exact Nat.le_refl _ | refine Below.drew ?_ | refine below_drewN ?_ _ | refine Below.alloc ?_ (by first | (simp; done) | (simp; omega)) _ | refine Below.setCell ?_ (by first | (simp; done) | (simp; omega)) _ | refine below_step ?_ (by assumption)))⟩
end Go.Proofs.YtdbpgblhnhdhoaaGreat
