/-
  Walks: AmbientAt, of the program and of the reference.
-/
import Derived.Test.YtdbpgblhnhdhoaaGreatX3
set_option linter.unusedVariables false
set_option linter.unusedSimpArgs false
namespace Go.Proofs.YtdbpgblhnhdhoaaGreat
open Go.RowKit Go.Fl

def ambOk (v : Bool) (st : Nat) (c : Int) : Bool := v && rightP st && (decide (1 ≤ c) && decide (c ≤ 8))
/-- A number and whether it is right come back. -/
def RetA (ok : Bool) (v : Nat) (w : World) (e : Ending) (w' : World) : Prop := ∃ r, e = .returned (.tuple #[.float .f32 r, .bool ok]) ∧ cn .f32 r = (if ok then v else 0) ∧ Below w.heap.size w w'

theorem retA_no {ok : Bool} {v : Nat} {w w' : World} (h : ok = false) (hb : Below w.heap.size w w') : RetA ok v w (.returned (.tuple #[.float .f32 0, .bool false])) w' := ⟨0, by rw [h], by rw [h, cn_zero]; rfl, hb⟩

set_option maxRecDepth 100000 in
set_option maxHeartbeats 4000000 in
theorem ambientat_any (ns : List PN) (hnum : ∀ n ∈ ns, n.nums.length < 10000000) (nb no cap x y z nx ny nz st : Nat) (c : Int) (bp : Option Addr) (w : World) (hbp : ns ≠ [] → bp = some ⟨nb, no, none⟩) (hsh : ∀ i (h : i < ns.length), NodeIn ns[i] nb (no + i * 4) w) (hlen : ns.length < 10000000) :
    Calls Tryz.prog 17 #[.agg #[.slice bp ns.length cap], V3 x y z, V3 nx ny nz, F1 st, .int .i64 c] w (RetA (ambOk (validF ns) (cn .f32 st) c) (ambAll (topF ns) capF (cn .f32 x, cn .f32 y, cn .f32 z) (cn .f32 nx, cn .f32 ny, cn .f32 nz) (cn .f32 st) c.toNat) w) := by
  obtain ⟨ok, hOk⟩ : ∃ ok, Hid (ok = ambOk (validF ns) (cn .f32 st) c) := ⟨_, rfl⟩
  rw [← hOk.out]
  have hst : ∀ w, Calls Tryz.prog 66 #[.float .f32 st] w (fun e w' => e = .returned (.bool (rightP (cn .f32 st))) ∧ Below w.heap.size w w') := step_any st
  have hin : ∀ w, Calls Tryz.prog 67 #[.int .i64 c, .int .i64 1, .int .i64 8] w (fun e w' => e = .returned (.bool (decide (1 ≤ c) && decide (c ≤ 8))) ∧ w = w') := in_any c 1 8
  go_enter Tryz.func17, Tryz.ntmps17
  go_wp2_with fail
  have W1b : Below w.heap.size w (((w.alloc (.cells #[.slice bp ns.length cap] 33)).alloc (.cells #[.float .f32 x, .float .f32 y, .float .f32 z] 35)).alloc (.cells #[.float .f32 nx, .float .f32 ny, .float .f32 nz] 35)) := (by repeat' (first | exact Below.refl _ _ | exact Nat.le_refl _ | refine below_drewN ?_ _ | refine Below.alloc ?_ (by first | (simp; done) | (simp; omega)) _ | refine Below.setCell ?_ (by first | (simp; done) | (simp; omega)) _ | refine below_step ?_ (by assumption)))

  have hkept : Kept [(⟨w.heap.size, 0, none⟩, .slice bp ns.length cap), (⟨w.heap.size + 1, 0, none⟩, .float .f32 x), (⟨w.heap.size + 1, 1, none⟩, .float .f32 y), (⟨w.heap.size + 1, 2, none⟩, .float .f32 z), (⟨w.heap.size + 1 + 1, 0, none⟩, .float .f32 nx), (⟨w.heap.size + 1 + 1, 1, none⟩, .float .f32 ny), (⟨w.heap.size + 1 + 1, 2, none⟩, .float .f32 nz)] [] (((w.alloc (.cells #[.slice bp ns.length cap] 33)).alloc (.cells #[.float .f32 x, .float .f32 y, .float .f32 z] 35)).alloc (.cells #[.float .f32 nx, .float .f32 ny, .float .f32 nz] 35)) := by
    simp only [Kept, List.forall_mem_append, List.forall_mem_cons, List.not_mem_nil, false_implies, implies_true, and_true, true_and]; (first | (go_simp; done) | (simp [World.cell?, World.frozen?, World.alloc, Array.getElem?_push]; done))
  generalize ((w.alloc (.cells #[.slice bp ns.length cap] 33)).alloc (.cells #[.float .f32 x, .float .f32 y, .float .f32 z] 35)).alloc (.cells #[.float .f32 nx, .float .f32 ny, .float .f32 nz] 35) = W1 at *
  have hv := valid_any ns hnum nb no cap bp W1 hbp (fun i h => (hsh i h).keep W1b) hlen
  refine hv.mono ?_
  rintro _ w2 ⟨rfl, hb2⟩
  have W2b := below_step W1b hb2
  have hkept2 := keep hkept hb2
  clear hv hkept hb2 W1b
  cases hval : validF ns
  · have hno : Hid (ok = false) := by unfold Hid; rw [hOk.out, hval]; rfl
    go_wp2_with fail
    go_ret2
    exact retA_no hno.out W2b
  cases hr : rightP (cn .f32 st)
  · have hno : Hid (ok = false) := by unfold Hid; rw [hOk.out, hval]; unfold ambOk; rw [hr]; rfl
    go_wp2_with (go_at_call 66; refine (hst _).mono ?_; rintro _ w3 ⟨rfl, hb3⟩; rw [hr])
    go_ret2
    exact retA_no hno.out (below_step W2b hb3)
  cases hi : (decide (1 ≤ c) && decide (c ≤ 8))
  · have hno : Hid (ok = false) := by unfold Hid; rw [hOk.out, hval]; unfold ambOk; rw [hr, hi]; rfl
    rw [hi] at hin
    go_wp2_with (first | (go_at_call 66; refine (hst _).mono ?_; rintro _ w3 ⟨rfl, hb3⟩; rw [hr]) | (go_at_call 67; refine (hin _).mono ?_; rintro _ w4 ⟨rfl, rfl⟩))
    go_ret2
    exact retA_no hno.out (below_step W2b hb3)
  have hyes : ok = true := by rw [hOk.out, hval]; unfold ambOk; rw [hr, hi]; rfl
  have hyes := Lib.hid hyes
  rw [hi] at hin
  simp only [Bool.and_eq_true, decide_eq_true_eq] at hi
  obtain ⟨k, rfl⟩ := Int.eq_ofNat_of_zero_le (show 0 ≤ c by omega)
  obtain ⟨hl, hok⟩ := valid_ok hval
  have hne : ns ≠ [] := by intro h; rw [h] at hl; simp at hl
  have hb := hbp hne
  subst hb
  have hsh2 : ShapeIn ns w.heap.size 0 nb no cap w2 := ⟨by have hK := hkept2; simp only [Kept, List.forall_mem_append, List.forall_mem_cons, List.not_mem_nil, false_implies, implies_true, and_true, true_and] at hK; exact hK.1, fun i h => (hsh i h).keep W2b⟩
  have ham : ∀ w', ShapeIn ns w.heap.size 0 nb no cap w' → Calls Tryz.prog 68 #[.pointer (some ⟨w.heap.size, 0, none⟩), V3 x y z, V3 nx ny nz, F1 st, .int .i64 (k : Int)] w' (Ret .f32 (ambAll (topF ns) capF (cn .f32 x, cn .f32 y, cn .f32 z) (cn .f32 nx, cn .f32 ny, cn .f32 nz) (cn .f32 st) (k : Int).toNat) w') := fun w' h => ambient_any ns hok ⟨hl.1, by omega⟩ w.heap.size 0 nb no cap x y z nx ny nz st k (by omega) w' h
  clear hsh hbp hnum hi
  go_upto_region 3 with (first | (go_at_call 66; refine (hst _).mono ?_; rintro _ w3 ⟨rfl, hb3⟩; rw [hr]) | (go_at_call 67; refine (hin _).mono ?_; rintro _ w4 ⟨rfl, rfl⟩))
  have W3b := below_step W2b hb3
  have hsh3 := hsh2.keep hb3
  have hK := keep hkept2 hb3
  simp only [Kept, List.forall_mem_append, List.forall_mem_cons, List.not_mem_nil, false_implies, implies_true, and_true, true_and] at hK
  clear hkept2 hb3 hsh2
  go_wp2_with (go_at_call 68; refine (ham _ hsh3).mono ?_; rintro _ w5 ⟨r, rfl, hr5, hb5⟩)
  go_ret2
  exact ⟨r, by rw [hyes.out]; rfl, by rw [hr5, hyes.out]; rfl, below_step W3b hb5⟩
set_option maxRecDepth 100000 in
set_option maxHeartbeats 4000000 in
theorem s_ambientat_any (ns : List PN) (hnum : ∀ n ∈ ns, n.nums.length < 10000000) (hvok : validS ns = true → OkAll ns) (nb no cap x y z nx ny nz st : Nat) (c : Int) (bp : Option Addr) (w : World) (hbp : ns ≠ [] → bp = some ⟨nb, no, none⟩) (hsh : ∀ i (h : i < ns.length), NodeIn ns[i] nb (no + i * 4) w) (hlen : ns.length < 10000000) :
    Calls Tryz.prog 14 #[.agg #[.slice bp ns.length cap], V3 x y z, V3 nx ny nz, F1 st, .int .i64 c] w (RetA (ambOk (validS ns) (cn .f32 st) c) (ambAll (atS ns) capS (cn .f32 x, cn .f32 y, cn .f32 z) (cn .f32 nx, cn .f32 ny, cn .f32 nz) (cn .f32 st) c.toNat) w) := by
  obtain ⟨ok, hOk⟩ : ∃ ok, Hid (ok = ambOk (validS ns) (cn .f32 st) c) := ⟨_, rfl⟩
  rw [← hOk.out]
  have hst : ∀ w, Calls Tryz.prog 61 #[.float .f32 st] w (fun e w' => e = .returned (.bool (rightP (cn .f32 st))) ∧ Below w.heap.size w w') := s_step_any st
  have hin : ∀ w, Calls Tryz.prog 62 #[.int .i64 c, .int .i64 1, .int .i64 8] w (fun e w' => e = .returned (.bool (decide (1 ≤ c) && decide (c ≤ 8))) ∧ w = w') := s_in_any c 1 8
  go_enter Tryz.func14, Tryz.ntmps14
  go_wp2_with fail
  have W1b : Below w.heap.size w (((w.alloc (.cells #[.slice bp ns.length cap] 33)).alloc (.cells #[.float .f32 x, .float .f32 y, .float .f32 z] 35)).alloc (.cells #[.float .f32 nx, .float .f32 ny, .float .f32 nz] 35)) := (by repeat' (first | exact Below.refl _ _ | exact Nat.le_refl _ | refine below_drewN ?_ _ | refine Below.alloc ?_ (by first | (simp; done) | (simp; omega)) _ | refine Below.setCell ?_ (by first | (simp; done) | (simp; omega)) _ | refine below_step ?_ (by assumption)))

  have hkept : Kept [(⟨w.heap.size, 0, none⟩, .slice bp ns.length cap), (⟨w.heap.size + 1, 0, none⟩, .float .f32 x), (⟨w.heap.size + 1, 1, none⟩, .float .f32 y), (⟨w.heap.size + 1, 2, none⟩, .float .f32 z), (⟨w.heap.size + 1 + 1, 0, none⟩, .float .f32 nx), (⟨w.heap.size + 1 + 1, 1, none⟩, .float .f32 ny), (⟨w.heap.size + 1 + 1, 2, none⟩, .float .f32 nz)] [] (((w.alloc (.cells #[.slice bp ns.length cap] 33)).alloc (.cells #[.float .f32 x, .float .f32 y, .float .f32 z] 35)).alloc (.cells #[.float .f32 nx, .float .f32 ny, .float .f32 nz] 35)) := by
    simp only [Kept, List.forall_mem_append, List.forall_mem_cons, List.not_mem_nil, false_implies, implies_true, and_true, true_and]; (first | (go_simp; done) | (simp [World.cell?, World.frozen?, World.alloc, Array.getElem?_push]; done))
  generalize ((w.alloc (.cells #[.slice bp ns.length cap] 33)).alloc (.cells #[.float .f32 x, .float .f32 y, .float .f32 z] 35)).alloc (.cells #[.float .f32 nx, .float .f32 ny, .float .f32 nz] 35) = W1 at *
  have hK1 := hkept
  simp only [Kept, List.forall_mem_append, List.forall_mem_cons, List.not_mem_nil, false_implies, implies_true, and_true, true_and] at hK1
  have hv := s_is_any ns hnum w.heap.size 0 nb no cap bp W1 hK1.1 hbp (fun i h => (hsh i h).keep W1b) hlen
  refine hv.mono ?_
  rintro _ w2 ⟨rfl, hb2⟩
  have W2b := below_step W1b hb2
  have hkept2 := keep hkept hb2
  clear hv hkept hb2 W1b hK1
  cases hval : validS ns
  · have hno : Hid (ok = false) := by unfold Hid; rw [hOk.out, hval]; rfl
    go_wp2_with fail
    go_ret2
    exact retA_no hno.out W2b
  cases hr : rightP (cn .f32 st)
  · have hno : Hid (ok = false) := by unfold Hid; rw [hOk.out, hval]; unfold ambOk; rw [hr]; rfl
    go_wp2_with (go_at_call 61; refine (hst _).mono ?_; rintro _ w3 ⟨rfl, hb3⟩; rw [hr])
    go_ret2
    exact retA_no hno.out (below_step W2b hb3)
  cases hi : (decide (1 ≤ c) && decide (c ≤ 8))
  · have hno : Hid (ok = false) := by unfold Hid; rw [hOk.out, hval]; unfold ambOk; rw [hr, hi]; rfl
    rw [hi] at hin
    go_wp2_with (first | (go_at_call 61; refine (hst _).mono ?_; rintro _ w3 ⟨rfl, hb3⟩; rw [hr]) | (go_at_call 62; refine (hin _).mono ?_; rintro _ w4 ⟨rfl, rfl⟩))
    go_ret2
    exact retA_no hno.out (below_step W2b hb3)
  have hyes : ok = true := by rw [hOk.out, hval]; unfold ambOk; rw [hr, hi]; rfl
  have hyes := Lib.hid hyes
  rw [hi] at hin
  simp only [Bool.and_eq_true, decide_eq_true_eq] at hi
  obtain ⟨k, rfl⟩ := Int.eq_ofNat_of_zero_le (show 0 ≤ c by omega)
  have hl : 1 ≤ ns.length ∧ ns.length ≤ 16 := by
    simp only [validS, Bool.and_eq_true, decide_eq_true_eq] at hval
    exact hval.1
  have hok := hvok hval
  have hne : ns ≠ [] := by intro h; rw [h] at hl; simp at hl
  have hb := hbp hne
  subst hb
  have hsh2 : ShapeIn ns w.heap.size 0 nb no cap w2 := ⟨by have hK := hkept2; simp only [Kept, List.forall_mem_append, List.forall_mem_cons, List.not_mem_nil, false_implies, implies_true, and_true, true_and] at hK; exact hK.1, fun i h => (hsh i h).keep W2b⟩
  have ham : ∀ w', ShapeIn ns w.heap.size 0 nb no cap w' → Calls Tryz.prog 63 #[.pointer (some ⟨w.heap.size, 0, none⟩), V3 x y z, V3 nx ny nz, F1 st, .int .i64 (k : Int)] w' (Ret .f32 (ambAll (atS ns) capS (cn .f32 x, cn .f32 y, cn .f32 z) (cn .f32 nx, cn .f32 ny, cn .f32 nz) (cn .f32 st) (k : Int).toNat) w') := fun w' h => s_ambient_any ns hok hl w.heap.size 0 nb no cap x y z nx ny nz st k (by omega) w' h
  clear hsh hbp hnum hi
  go_upto_region 3 with (first | (go_at_call 61; refine (hst _).mono ?_; rintro _ w3 ⟨rfl, hb3⟩; rw [hr]) | (go_at_call 62; refine (hin _).mono ?_; rintro _ w4 ⟨rfl, rfl⟩))
  have W3b := below_step W2b hb3
  have hsh3 := hsh2.keep hb3
  have hK := keep hkept2 hb3
  simp only [Kept, List.forall_mem_append, List.forall_mem_cons, List.not_mem_nil, false_implies, implies_true, and_true, true_and] at hK
  clear hkept2 hb3 hsh2
  go_wp2_with (go_at_call 63; refine (ham _ hsh3).mono ?_; rintro _ w5 ⟨r, rfl, hr5, hb5⟩)
  go_ret2
  exact ⟨r, by rw [hyes.out]; rfl, by rw [hr5, hyes.out]; rfl, below_step W3b hb5⟩
end Go.Proofs.YtdbpgblhnhdhoaaGreat
