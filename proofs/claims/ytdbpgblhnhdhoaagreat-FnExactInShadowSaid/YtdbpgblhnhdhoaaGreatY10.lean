/-
  Walks: MarchRay, of the program and of the reference.
-/
import Derived.Test.YtdbpgblhnhdhoaaGreatY9
import Derived.Test.YtdbpgblhnhdhoaaGreatGH
set_option linter.unusedVariables false
set_option linter.unusedSimpArgs false
namespace Go.Proofs.YtdbpgblhnhdhoaaGreat
open Go.RowKit Go.Fl

def mrOk (v : Bool) (f t : Nat × Nat × Nat) (near most : Nat) (n : Int) : Bool := v && rayOk f t && marOk near most n
/-- What a march tells, if it is right. -/
def mrV (ok : Bool) (f t : Nat × Nat × Nat) (h : Nat × Nat × Nat) : Nat × Nat × Nat × Nat × Nat × Nat := if ok then (h.1, h.2.1, h.2.2, onF f t h.2.2) else (0, 0, 0, 0, 0, 0)
def RetM (ok : Bool) (v : Nat × Nat × Nat × Nat × Nat × Nat) (w : World) (e : Ending) (w' : World) : Prop :=
  ∃ k s far x y z, e = .returned (.tuple #[HitV k s far x y z, .bool ok]) ∧ (k, s, cn .f32 far, cn .f32 x, cn .f32 y, cn .f32 z) = v ∧ Below w.heap.size w w'

theorem way3 (p q r : Bool) : p = false ∨ (p = true ∧ q = false) ∨ (p = true ∧ q = true ∧ r = false) ∨ (p = true ∧ q = true ∧ r = true) := by
  cases p <;> cases q <;> cases r <;> simp

theorem mr_no {ok : Bool} {f t h : Nat × Nat × Nat} {w w' : World} (ho : ok = false) (hb : Below w.heap.size w w') : RetM ok (mrV ok f t h) w (.returned (.tuple #[HitV 0 0 0 0 0 0, .bool false])) w' :=
  ⟨0, 0, 0, 0, 0, 0, by rw [ho], by rw [ho, cn_zero]; rfl, hb⟩

set_option maxRecDepth 100000 in
set_option maxHeartbeats 4000000 in
theorem marchray_any (ns : List PN) (hnum : ∀ n ∈ ns, n.nums.length < 10000000) (nb no cap a b c d e f near most : Nat) (n : Int) (bp : Option Addr) (w : World) (hbp : ns ≠ [] → bp = some ⟨nb, no, none⟩) (hsh : ∀ i (h : i < ns.length), NodeIn ns[i] nb (no + i * 4) w) (hlen : ns.length < 10000000) :
    Calls Tryz.prog 38 #[.agg #[.slice bp ns.length cap], .agg #[F1 a, F1 b, F1 c, F1 d, F1 e, F1 f], .agg #[F1 near, F1 most, .int .i64 n]] w
      (RetM (mrOk (validF ns) (cn .f32 a, cn .f32 b, cn .f32 c) (cn .f32 d, cn .f32 e, cn .f32 f) (cn .f32 near) (cn .f32 most) n) (mrV (mrOk (validF ns) (cn .f32 a, cn .f32 b, cn .f32 c) (cn .f32 d, cn .f32 e, cn .f32 f) (cn .f32 near) (cn .f32 most) n) (cn .f32 a, cn .f32 b, cn .f32 c) (cn .f32 d, cn .f32 e, cn .f32 f) (marchGo (topF ns) (cn .f32 a, cn .f32 b, cn .f32 c) (cn .f32 d, cn .f32 e, cn .f32 f) (slopeF ns) (cn .f32 near) (cn .f32 most) n.toNat 1 0)) w) := by
  obtain ⟨ok, hOk⟩ : ∃ ok, Hid (ok = mrOk (validF ns) (cn .f32 a, cn .f32 b, cn .f32 c) (cn .f32 d, cn .f32 e, cn .f32 f) (cn .f32 near) (cn .f32 most) n) := ⟨_, rfl⟩
  rw [← hOk.out]
  have hOk2 := hOk.out
  unfold mrOk at hOk2
  have hva : ∀ w', Below w.heap.size w w' → Calls Tryz.prog 65 #[.agg #[.slice bp ns.length cap]] w' (fun e w'' => e = .returned (.bool (validF ns)) ∧ Below w'.heap.size w' w'') := fun w' hb => valid_any ns hnum nb no cap bp w' hbp (fun i h => (hsh i h).keep hb) hlen
  have hra : ∀ w', Calls Tryz.prog 83 #[.agg #[F1 a, F1 b, F1 c, F1 d, F1 e, F1 f]] w' (fun e' w'' => e' = .returned (.bool (rayOk (cn .f32 a, cn .f32 b, cn .f32 c) (cn .f32 d, cn .f32 e, cn .f32 f))) ∧ Below w'.heap.size w' w'') := fun w' => ray_any a b c d e f w'
  have hma : ∀ w', Calls Tryz.prog 79 #[.agg #[F1 near, F1 most, .int .i64 n]] w' (fun e' w'' => e' = .returned (.bool (marOk (cn .f32 near) (cn .f32 most) n)) ∧ Below w'.heap.size w' w'') := fun w' => mar_any near most n w'
  have hHn := Lib.hid hnum
  have hHs := Lib.hid hsh
  have hHb := Lib.hid hbp
  clear hOk hnum hsh hbp
  rcases way3 (validF ns) (rayOk (cn .f32 a, cn .f32 b, cn .f32 c) (cn .f32 d, cn .f32 e, cn .f32 f)) (marOk (cn .f32 near) (cn .f32 most) n) with h1 | ⟨h1, h2⟩ | ⟨h1, h2, h3⟩ | ⟨h1, h2, h3⟩
  · rw [h1] at hva hOk2
    have hno : Hid (ok = false) := by unfold Hid; rw [hOk2]; rfl
    clear hOk2 hra hma
    go_enter Tryz.func38, Tryz.ntmps38
    go_wp2_with fail
    have W1b : Below w.heap.size w ((((w.alloc (.cells #[.slice bp ns.length cap] 33)).alloc (.cells #[.float .f32 a, .float .f32 b, .float .f32 c, .float .f32 d, .float .f32 e, .float .f32 f] 72)).alloc (.cells #[.float .f32 near, .float .f32 most, .int .i64 n] 62)).alloc (.cells #[.int .i64 0, .int .i64 0, .float .f32 0, .float .f32 0, .float .f32 0, .float .f32 0] 68)) := (by repeat' (first | exact Below.refl _ _ | exact Nat.le_refl _ | refine below_drewN ?_ _ | refine Below.alloc ?_ (by first | (simp; done) | (simp; omega)) _ | refine Below.setCell ?_ (by first | (simp; done) | (simp; omega)) _ | refine below_step ?_ (by assumption)))
    
    have hkept : Kept [(⟨w.heap.size, 0, none⟩, .slice bp ns.length cap), (⟨w.heap.size + 1, 0, none⟩, .float .f32 a), (⟨w.heap.size + 1, 1, none⟩, .float .f32 b), (⟨w.heap.size + 1, 2, none⟩, .float .f32 c), (⟨w.heap.size + 1, 3, none⟩, .float .f32 d), (⟨w.heap.size + 1, 4, none⟩, .float .f32 e), (⟨w.heap.size + 1, 5, none⟩, .float .f32 f), (⟨w.heap.size + 1 + 1, 0, none⟩, .float .f32 near), (⟨w.heap.size + 1 + 1, 1, none⟩, .float .f32 most), (⟨w.heap.size + 1 + 1, 2, none⟩, .int .i64 n), (⟨w.heap.size + 1 + 1 + 1, 0, none⟩, .int .i64 0), (⟨w.heap.size + 1 + 1 + 1, 1, none⟩, .int .i64 0), (⟨w.heap.size + 1 + 1 + 1, 2, none⟩, .float .f32 0), (⟨w.heap.size + 1 + 1 + 1, 3, none⟩, .float .f32 0), (⟨w.heap.size + 1 + 1 + 1, 4, none⟩, .float .f32 0), (⟨w.heap.size + 1 + 1 + 1, 5, none⟩, .float .f32 0)] [⟨w.heap.size + 1 + 1 + 1, 0, none⟩, ⟨w.heap.size + 1 + 1 + 1, 1, none⟩, ⟨w.heap.size + 1 + 1 + 1, 2, none⟩, ⟨w.heap.size + 1 + 1 + 1, 3, none⟩, ⟨w.heap.size + 1 + 1 + 1, 4, none⟩, ⟨w.heap.size + 1 + 1 + 1, 5, none⟩] ((((w.alloc (.cells #[.slice bp ns.length cap] 33)).alloc (.cells #[.float .f32 a, .float .f32 b, .float .f32 c, .float .f32 d, .float .f32 e, .float .f32 f] 72)).alloc (.cells #[.float .f32 near, .float .f32 most, .int .i64 n] 62)).alloc (.cells #[.int .i64 0, .int .i64 0, .float .f32 0, .float .f32 0, .float .f32 0, .float .f32 0] 68)) := by
      simp only [Kept, List.forall_mem_append, List.forall_mem_cons, List.not_mem_nil, false_implies, implies_true, and_true, true_and]; (first | (go_simp; done) | (simp [World.cell?, World.frozen?, World.alloc, Array.getElem?_push]; done))
    generalize (((w.alloc (.cells #[.slice bp ns.length cap] 33)).alloc (.cells #[.float .f32 a, .float .f32 b, .float .f32 c, .float .f32 d, .float .f32 e, .float .f32 f] 72)).alloc (.cells #[.float .f32 near, .float .f32 most, .int .i64 n] 62)).alloc (.cells #[.int .i64 0, .int .i64 0, .float .f32 0, .float .f32 0, .float .f32 0, .float .f32 0] 68) = W1 at *
    have hK := hkept; simp only [Kept, List.forall_mem_append, List.forall_mem_cons, List.not_mem_nil, false_implies, implies_true, and_true, true_and] at hK
    refine (hva _ W1b).mono ?_
    rintro _ w2 ⟨rfl, hb1⟩
    have W2b := below_step W1b hb1
    have hkept := keepT hkept hb1 rfl; clear hK; have hK := hkept; simp only [Kept, List.forall_mem_append, List.forall_mem_cons, List.not_mem_nil, false_implies, implies_true, and_true, true_and] at hK
    go_wp2_with fail
    exact bodyPost_ret (v := .tuple #[HitV 0 0 0 0 0 0, .bool false]) (by simp [results, Tryz.results38, go_sem, hK, World.cell?_setCell_other, World.cell?_setCell_same']) rfl (mr_no hno.out (bel6 W2b (by omega) ..))
  · rw [h1] at hva
    rw [h2] at hra
    rw [h1, h2] at hOk2
    have hno : Hid (ok = false) := by unfold Hid; rw [hOk2]; rfl
    clear hOk2 hma
    go_enter Tryz.func38, Tryz.ntmps38
    go_wp2_with fail
    have W1b : Below w.heap.size w ((((w.alloc (.cells #[.slice bp ns.length cap] 33)).alloc (.cells #[.float .f32 a, .float .f32 b, .float .f32 c, .float .f32 d, .float .f32 e, .float .f32 f] 72)).alloc (.cells #[.float .f32 near, .float .f32 most, .int .i64 n] 62)).alloc (.cells #[.int .i64 0, .int .i64 0, .float .f32 0, .float .f32 0, .float .f32 0, .float .f32 0] 68)) := (by repeat' (first | exact Below.refl _ _ | exact Nat.le_refl _ | refine below_drewN ?_ _ | refine Below.alloc ?_ (by first | (simp; done) | (simp; omega)) _ | refine Below.setCell ?_ (by first | (simp; done) | (simp; omega)) _ | refine below_step ?_ (by assumption)))
    
    have hkept : Kept [(⟨w.heap.size, 0, none⟩, .slice bp ns.length cap), (⟨w.heap.size + 1, 0, none⟩, .float .f32 a), (⟨w.heap.size + 1, 1, none⟩, .float .f32 b), (⟨w.heap.size + 1, 2, none⟩, .float .f32 c), (⟨w.heap.size + 1, 3, none⟩, .float .f32 d), (⟨w.heap.size + 1, 4, none⟩, .float .f32 e), (⟨w.heap.size + 1, 5, none⟩, .float .f32 f), (⟨w.heap.size + 1 + 1, 0, none⟩, .float .f32 near), (⟨w.heap.size + 1 + 1, 1, none⟩, .float .f32 most), (⟨w.heap.size + 1 + 1, 2, none⟩, .int .i64 n), (⟨w.heap.size + 1 + 1 + 1, 0, none⟩, .int .i64 0), (⟨w.heap.size + 1 + 1 + 1, 1, none⟩, .int .i64 0), (⟨w.heap.size + 1 + 1 + 1, 2, none⟩, .float .f32 0), (⟨w.heap.size + 1 + 1 + 1, 3, none⟩, .float .f32 0), (⟨w.heap.size + 1 + 1 + 1, 4, none⟩, .float .f32 0), (⟨w.heap.size + 1 + 1 + 1, 5, none⟩, .float .f32 0)] [⟨w.heap.size + 1 + 1 + 1, 0, none⟩, ⟨w.heap.size + 1 + 1 + 1, 1, none⟩, ⟨w.heap.size + 1 + 1 + 1, 2, none⟩, ⟨w.heap.size + 1 + 1 + 1, 3, none⟩, ⟨w.heap.size + 1 + 1 + 1, 4, none⟩, ⟨w.heap.size + 1 + 1 + 1, 5, none⟩] ((((w.alloc (.cells #[.slice bp ns.length cap] 33)).alloc (.cells #[.float .f32 a, .float .f32 b, .float .f32 c, .float .f32 d, .float .f32 e, .float .f32 f] 72)).alloc (.cells #[.float .f32 near, .float .f32 most, .int .i64 n] 62)).alloc (.cells #[.int .i64 0, .int .i64 0, .float .f32 0, .float .f32 0, .float .f32 0, .float .f32 0] 68)) := by
      simp only [Kept, List.forall_mem_append, List.forall_mem_cons, List.not_mem_nil, false_implies, implies_true, and_true, true_and]; (first | (go_simp; done) | (simp [World.cell?, World.frozen?, World.alloc, Array.getElem?_push]; done))
    generalize (((w.alloc (.cells #[.slice bp ns.length cap] 33)).alloc (.cells #[.float .f32 a, .float .f32 b, .float .f32 c, .float .f32 d, .float .f32 e, .float .f32 f] 72)).alloc (.cells #[.float .f32 near, .float .f32 most, .int .i64 n] 62)).alloc (.cells #[.int .i64 0, .int .i64 0, .float .f32 0, .float .f32 0, .float .f32 0, .float .f32 0] 68) = W1 at *
    have hK := hkept; simp only [Kept, List.forall_mem_append, List.forall_mem_cons, List.not_mem_nil, false_implies, implies_true, and_true, true_and] at hK
    refine (hva _ W1b).mono ?_
    rintro _ w2 ⟨rfl, hb1⟩
    have W2b := below_step W1b hb1
    have hkept := keepT hkept hb1 rfl; clear hK; have hK := hkept; simp only [Kept, List.forall_mem_append, List.forall_mem_cons, List.not_mem_nil, false_implies, implies_true, and_true, true_and] at hK
    go_wp2_with (go_at_call 83; refine (hra _).mono ?_; rintro _ w3 ⟨rfl, hb1⟩; have hkept := keepT hkept hb1 rfl; clear hK; have hK := hkept; simp only [Kept, List.forall_mem_append, List.forall_mem_cons, List.not_mem_nil, false_implies, implies_true, and_true, true_and] at hK)
    exact bodyPost_ret (v := .tuple #[HitV 0 0 0 0 0 0, .bool false]) (by simp [results, Tryz.results38, go_sem, hK, World.cell?_setCell_other, World.cell?_setCell_same']) rfl (mr_no hno.out (bel6 (below_step W2b hb1) (by omega) ..))
  · rw [h1] at hva
    rw [h2] at hra
    rw [h3] at hma
    rw [h1, h2, h3] at hOk2
    have hno : Hid (ok = false) := by unfold Hid; rw [hOk2]; rfl
    clear hOk2
    go_enter Tryz.func38, Tryz.ntmps38
    go_wp2_with fail
    have W1b : Below w.heap.size w ((((w.alloc (.cells #[.slice bp ns.length cap] 33)).alloc (.cells #[.float .f32 a, .float .f32 b, .float .f32 c, .float .f32 d, .float .f32 e, .float .f32 f] 72)).alloc (.cells #[.float .f32 near, .float .f32 most, .int .i64 n] 62)).alloc (.cells #[.int .i64 0, .int .i64 0, .float .f32 0, .float .f32 0, .float .f32 0, .float .f32 0] 68)) := (by repeat' (first | exact Below.refl _ _ | exact Nat.le_refl _ | refine below_drewN ?_ _ | refine Below.alloc ?_ (by first | (simp; done) | (simp; omega)) _ | refine Below.setCell ?_ (by first | (simp; done) | (simp; omega)) _ | refine below_step ?_ (by assumption)))
    
    have hkept : Kept [(⟨w.heap.size, 0, none⟩, .slice bp ns.length cap), (⟨w.heap.size + 1, 0, none⟩, .float .f32 a), (⟨w.heap.size + 1, 1, none⟩, .float .f32 b), (⟨w.heap.size + 1, 2, none⟩, .float .f32 c), (⟨w.heap.size + 1, 3, none⟩, .float .f32 d), (⟨w.heap.size + 1, 4, none⟩, .float .f32 e), (⟨w.heap.size + 1, 5, none⟩, .float .f32 f), (⟨w.heap.size + 1 + 1, 0, none⟩, .float .f32 near), (⟨w.heap.size + 1 + 1, 1, none⟩, .float .f32 most), (⟨w.heap.size + 1 + 1, 2, none⟩, .int .i64 n), (⟨w.heap.size + 1 + 1 + 1, 0, none⟩, .int .i64 0), (⟨w.heap.size + 1 + 1 + 1, 1, none⟩, .int .i64 0), (⟨w.heap.size + 1 + 1 + 1, 2, none⟩, .float .f32 0), (⟨w.heap.size + 1 + 1 + 1, 3, none⟩, .float .f32 0), (⟨w.heap.size + 1 + 1 + 1, 4, none⟩, .float .f32 0), (⟨w.heap.size + 1 + 1 + 1, 5, none⟩, .float .f32 0)] [⟨w.heap.size + 1 + 1 + 1, 0, none⟩, ⟨w.heap.size + 1 + 1 + 1, 1, none⟩, ⟨w.heap.size + 1 + 1 + 1, 2, none⟩, ⟨w.heap.size + 1 + 1 + 1, 3, none⟩, ⟨w.heap.size + 1 + 1 + 1, 4, none⟩, ⟨w.heap.size + 1 + 1 + 1, 5, none⟩] ((((w.alloc (.cells #[.slice bp ns.length cap] 33)).alloc (.cells #[.float .f32 a, .float .f32 b, .float .f32 c, .float .f32 d, .float .f32 e, .float .f32 f] 72)).alloc (.cells #[.float .f32 near, .float .f32 most, .int .i64 n] 62)).alloc (.cells #[.int .i64 0, .int .i64 0, .float .f32 0, .float .f32 0, .float .f32 0, .float .f32 0] 68)) := by
      simp only [Kept, List.forall_mem_append, List.forall_mem_cons, List.not_mem_nil, false_implies, implies_true, and_true, true_and]; (first | (go_simp; done) | (simp [World.cell?, World.frozen?, World.alloc, Array.getElem?_push]; done))
    generalize (((w.alloc (.cells #[.slice bp ns.length cap] 33)).alloc (.cells #[.float .f32 a, .float .f32 b, .float .f32 c, .float .f32 d, .float .f32 e, .float .f32 f] 72)).alloc (.cells #[.float .f32 near, .float .f32 most, .int .i64 n] 62)).alloc (.cells #[.int .i64 0, .int .i64 0, .float .f32 0, .float .f32 0, .float .f32 0, .float .f32 0] 68) = W1 at *
    have hK := hkept; simp only [Kept, List.forall_mem_append, List.forall_mem_cons, List.not_mem_nil, false_implies, implies_true, and_true, true_and] at hK
    refine (hva _ W1b).mono ?_
    rintro _ w2 ⟨rfl, hb1⟩
    have W2b := below_step W1b hb1
    have hkept := keepT hkept hb1 rfl; clear hK; have hK := hkept; simp only [Kept, List.forall_mem_append, List.forall_mem_cons, List.not_mem_nil, false_implies, implies_true, and_true, true_and] at hK
    go_wp2_with (first | (go_at_call 83; refine (hra _).mono ?_; rintro _ w3 ⟨rfl, hb1⟩; have W3b := below_step W2b hb1; have hkept := keepT hkept hb1 rfl; clear hK; have hK := hkept; simp only [Kept, List.forall_mem_append, List.forall_mem_cons, List.not_mem_nil, false_implies, implies_true, and_true, true_and] at hK) | (go_at_call 79; refine (hma _).mono ?_; rintro _ w4 ⟨rfl, hb1⟩; have hkept := keepT hkept hb1 rfl; clear hK; have hK := hkept; simp only [Kept, List.forall_mem_append, List.forall_mem_cons, List.not_mem_nil, false_implies, implies_true, and_true, true_and] at hK))
    exact bodyPost_ret (v := .tuple #[HitV 0 0 0 0 0 0, .bool false]) (by simp [results, Tryz.results38, go_sem, hK, World.cell?_setCell_other, World.cell?_setCell_same']) rfl (mr_no hno.out (bel6 (below_step W3b hb1) (by omega) ..))
  · rw [h1] at hva
    rw [h2] at hra
    rw [h3] at hma
    rw [h1, h2, h3] at hOk2
    have hyes : Hid (ok = true) := by unfold Hid; rw [hOk2]; rfl
    clear hOk2
    obtain ⟨hl, hok⟩ := valid_ok h1
    have hne : ns ≠ [] := by intro h; rw [h] at hl; simp at hl
    have hb := hHb.out hne
    subst hb
    have hin : 1 ≤ n ∧ n ≤ 64 := by
      unfold marOk at h3
      simp only [Bool.and_eq_true, decide_eq_true_eq] at h3
      exact h3.2
    obtain ⟨m, rfl⟩ := Int.eq_ofNat_of_zero_le (show 0 ≤ n by omega)
    have hmc : ∀ w', Below w.heap.size w w' → w'.cell? ⟨w.heap.size, 0, none⟩ = some (.slice (some ⟨nb, no, none⟩) ns.length cap) → Calls Tryz.prog 86 #[.pointer (some ⟨w.heap.size, 0, none⟩), .agg #[F1 a, F1 b, F1 c, F1 d, F1 e, F1 f], .agg #[F1 near, F1 most, .int .i64 (m : Int)]] w' (RetHit (cn .f32 a, cn .f32 b, cn .f32 c) (cn .f32 d, cn .f32 e, cn .f32 f) (marchGo (topF ns) (cn .f32 a, cn .f32 b, cn .f32 c) (cn .f32 d, cn .f32 e, cn .f32 f) (slopeF ns) (cn .f32 near) (cn .f32 most) m 1 0) w') := fun w' hb hc => march_any ns hok hl w.heap.size 0 nb no cap a b c d e f near most m (by omega) w' ⟨hc, fun i h => (hHs.out i h).keep hb⟩
    rw [Int.toNat_natCast]
    generalize marchGo (topF ns) (cn .f32 a, cn .f32 b, cn .f32 c) (cn .f32 d, cn .f32 e, cn .f32 f) (slopeF ns) (cn .f32 near) (cn .f32 most) m 1 0 = R at *
    clear h1 h2 h3
    go_enter Tryz.func38, Tryz.ntmps38
    go_wp2_with fail
    have W1b : Below w.heap.size w ((((w.alloc (.cells #[.slice (some ⟨nb, no, none⟩) ns.length cap] 33)).alloc (.cells #[.float .f32 a, .float .f32 b, .float .f32 c, .float .f32 d, .float .f32 e, .float .f32 f] 72)).alloc (.cells #[.float .f32 near, .float .f32 most, .int .i64 (m : Int)] 62)).alloc (.cells #[.int .i64 0, .int .i64 0, .float .f32 0, .float .f32 0, .float .f32 0, .float .f32 0] 68)) := (by repeat' (first | exact Below.refl _ _ | exact Nat.le_refl _ | refine below_drewN ?_ _ | refine Below.alloc ?_ (by first | (simp; done) | (simp; omega)) _ | refine Below.setCell ?_ (by first | (simp; done) | (simp; omega)) _ | refine below_step ?_ (by assumption)))
    
    have hkept : Kept [(⟨w.heap.size, 0, none⟩, .slice (some ⟨nb, no, none⟩) ns.length cap), (⟨w.heap.size + 1, 0, none⟩, .float .f32 a), (⟨w.heap.size + 1, 1, none⟩, .float .f32 b), (⟨w.heap.size + 1, 2, none⟩, .float .f32 c), (⟨w.heap.size + 1, 3, none⟩, .float .f32 d), (⟨w.heap.size + 1, 4, none⟩, .float .f32 e), (⟨w.heap.size + 1, 5, none⟩, .float .f32 f), (⟨w.heap.size + 1 + 1, 0, none⟩, .float .f32 near), (⟨w.heap.size + 1 + 1, 1, none⟩, .float .f32 most), (⟨w.heap.size + 1 + 1, 2, none⟩, .int .i64 (m : Int)), (⟨w.heap.size + 1 + 1 + 1, 0, none⟩, .int .i64 0), (⟨w.heap.size + 1 + 1 + 1, 1, none⟩, .int .i64 0), (⟨w.heap.size + 1 + 1 + 1, 2, none⟩, .float .f32 0), (⟨w.heap.size + 1 + 1 + 1, 3, none⟩, .float .f32 0), (⟨w.heap.size + 1 + 1 + 1, 4, none⟩, .float .f32 0), (⟨w.heap.size + 1 + 1 + 1, 5, none⟩, .float .f32 0)] [⟨w.heap.size + 1 + 1 + 1, 0, none⟩, ⟨w.heap.size + 1 + 1 + 1, 1, none⟩, ⟨w.heap.size + 1 + 1 + 1, 2, none⟩, ⟨w.heap.size + 1 + 1 + 1, 3, none⟩, ⟨w.heap.size + 1 + 1 + 1, 4, none⟩, ⟨w.heap.size + 1 + 1 + 1, 5, none⟩] ((((w.alloc (.cells #[.slice (some ⟨nb, no, none⟩) ns.length cap] 33)).alloc (.cells #[.float .f32 a, .float .f32 b, .float .f32 c, .float .f32 d, .float .f32 e, .float .f32 f] 72)).alloc (.cells #[.float .f32 near, .float .f32 most, .int .i64 (m : Int)] 62)).alloc (.cells #[.int .i64 0, .int .i64 0, .float .f32 0, .float .f32 0, .float .f32 0, .float .f32 0] 68)) := by
      simp only [Kept, List.forall_mem_append, List.forall_mem_cons, List.not_mem_nil, false_implies, implies_true, and_true, true_and]; (first | (go_simp; done) | (simp [World.cell?, World.frozen?, World.alloc, Array.getElem?_push]; done))
    generalize (((w.alloc (.cells #[.slice (some ⟨nb, no, none⟩) ns.length cap] 33)).alloc (.cells #[.float .f32 a, .float .f32 b, .float .f32 c, .float .f32 d, .float .f32 e, .float .f32 f] 72)).alloc (.cells #[.float .f32 near, .float .f32 most, .int .i64 (m : Int)] 62)).alloc (.cells #[.int .i64 0, .int .i64 0, .float .f32 0, .float .f32 0, .float .f32 0, .float .f32 0] 68) = W1 at *
    have hK := hkept; simp only [Kept, List.forall_mem_append, List.forall_mem_cons, List.not_mem_nil, false_implies, implies_true, and_true, true_and] at hK
    refine (hva _ W1b).mono ?_
    rintro _ w2 ⟨rfl, hb1⟩
    have W2b := below_step W1b hb1
    have hkept := keepT hkept hb1 rfl; clear hK; have hK := hkept; simp only [Kept, List.forall_mem_append, List.forall_mem_cons, List.not_mem_nil, false_implies, implies_true, and_true, true_and] at hK
    go_wp2_with (first
      | (go_at_call 83; refine (hra _).mono ?_; rintro _ w3 ⟨rfl, hb1⟩; have W3b := below_step W2b hb1; have hkept := keepT hkept hb1 rfl; clear hK; have hK := hkept; simp only [Kept, List.forall_mem_append, List.forall_mem_cons, List.not_mem_nil, false_implies, implies_true, and_true, true_and] at hK)
      | (go_at_call 79; refine (hma _).mono ?_; rintro _ w4 ⟨rfl, hb1⟩; have W4b := below_step W3b hb1; have hkept := keepT hkept hb1 rfl; clear hK; have hK := hkept; simp only [Kept, List.forall_mem_append, List.forall_mem_cons, List.not_mem_nil, false_implies, implies_true, and_true, true_and] at hK)
      | (go_at_call 86; refine (hmc _ W4b hK.1.1).mono ?_; rintro _ w5 ⟨far, x, y, z, rfl, hf1, hf2, hb1⟩; have W5b := below_step W4b hb1; have hkept := keepT hkept hb1 rfl; clear hK; have hK := hkept; simp only [Kept, List.forall_mem_append, List.forall_mem_cons, List.not_mem_nil, false_implies, implies_true, and_true, true_and] at hK))
    exact bodyPost_ret (v := .tuple #[HitV R.1 R.2.1 far x y z, .bool true]) (by simp [results, Tryz.results38, go_sem, hK, World.cell?_setCell_other, World.cell?_setCell_same']) rfl ⟨R.1, R.2.1, far, x, y, z, by rw [hyes.out], by rw [hyes.out, hf2, hf1]; rfl, bel6 W5b (by omega) ..⟩
end Go.Proofs.YtdbpgblhnhdhoaaGreat
