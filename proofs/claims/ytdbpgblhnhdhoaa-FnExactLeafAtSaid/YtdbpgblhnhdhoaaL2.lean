/-
  Walks of the statement's own functions: arguments made anew.
-/
import Derived.Test.YtdbpgblhnhdhoaaL1
import Derived.Laws.MakeOwn
set_option linter.unusedVariables false
set_option linter.unusedSimpArgs false
namespace Go.Proofs.Ytdbpgblhnhdhoaa
open Go.RowKit Go.Fl

theorem arr_set {w : World} {g : Nat} {A : Array Value} {T : TypeId} (h : w.heap[g]? = some (.cells A T (0, 0))) (k : Nat) (v : Value) : (w.setCell ⟨g, k, none⟩ v).heap[g]? = some (.cells (A.setIfInBounds k v) T (0, 0)) := by
  simp only [World.setCell, Array.getElem?_modify, if_true, h, Option.map_some]
  rfl
theorem arr_cell {w : World} {g : Nat} {A : Array Value} {T : TypeId} (h : w.heap[g]? = some (.cells A T (0, 0))) (k : Nat) : w.cell? ⟨g, k, none⟩ = A[k]? := by
  simp [World.cell?, h]
theorem arr_frozen {w : World} {g : Nat} {A : Array Value} {T : TypeId} (h : w.heap[g]? = some (.cells A T (0, 0))) (k : Nat) : w.frozen? ⟨g, k, none⟩ = false := by
  simp [World.frozen?, h]

theorem make_floats (n : Nat) (hn : (n : Int) ≤ 1048576) (w : World) : ∃ A : Array Value, A.size = n ∧ (Instr.makeSlice 48 (.int .i64 (n : Int)) (.int .i64 (n : Int))).run Try.prog w = .ok (.slice (some ⟨w.heap.size, 0, none⟩) n n) (w.alloc (.cells A 25)) := by
  obtain ⟨i0, hi, hz0, hz1, hz2⟩ := info_parts float_info
  have h := run_make (P := Try.prog) w 48 25 i0 (.float .f32 0) Try.underlying48 hi hz0 .i64 .i64 n n (by omega) (by omega) (by rw [hz2]; omega) (by omega)
  rw [hz1] at h
  refine ⟨_, ?_, h⟩
  simp [madeCells]

set_option maxRecDepth 100000 in
set_option maxHeartbeats 2000000 in
theorem to_floats (xs : List Nat) (hlen : (xs.length : Int) ≤ 1048576) (bp : Option Addr) (bv ov cap : Nat) (w : World) (h1 : xs ≠ [] → bp = some ⟨bv, ov, none⟩) (h2 : ∀ i (h : i < xs.length), w.cell? ⟨bv, ov + i, none⟩ = some (.float .f32 xs[i])) :
    Calls Try.prog 52 #[.slice bp xs.length cap] w (fun e w' => ∃ g, e = .returned (.slice (some ⟨g, 0, none⟩) xs.length xs.length) ∧ (∀ i (h : i < xs.length), w'.cell? ⟨g, 0 + i, none⟩ = some (.float .f32 xs[i])) ∧ w.heap.size ≤ g ∧ Below w.heap.size w w') := by
  obtain ⟨A, hA, hmk⟩ := make_floats xs.length hlen w
  go_enter Try.func52, Try.ntmps52
  go_wp2_with fail
  have W1b : Below w.heap.size w (w.alloc (.cells A 25)) := (by repeat' (first | exact Below.refl _ _ | exact Nat.le_refl _ | refine below_drewN ?_ _ | refine Below.alloc ?_ (by first | (simp; done) | (simp; omega)) _ | refine Below.setCell ?_ (by first | (simp; done) | (simp; omega)) _ | refine below_step ?_ (by assumption)))

  have hpar := heap_alloc_at w (.cells A 25)
  generalize w.alloc (.cells A 25) = W1 at *
  clear hmk
  go_loopw [4] (fun i wr => ∃ (m : Nat) (A : Array Value), m ≤ xs.length ∧ i = .int .i64 (m : Int) ∧ A.size = xs.length ∧ wr.heap[w.heap.size]? = some (.cells A 25 (0, 0)) ∧ (∀ k (h : k < xs.length), k < m → A[k]? = some (.float .f32 xs[k])) ∧ Below w.heap.size w wr) (fun i _ => xs.length - (intOf i).toNat)
  case atStart => exact ⟨0, A, by omega, rfl, hA, hpar, fun k _ h => by omega, W1b⟩
  case round =>
    obtain ⟨m, A', hm, rfl, hA', hpar', hk, Wb⟩ := hrel
    clear hpar W1b
    by_cases hlt : m < xs.length
    · have hlt' : (m : Int) < (xs.length : Int) := by omega
      have h0 : (0 : Int) ≤ (m : Int) := by omega
      have hne : xs ≠ [] := by intro h; rw [h] at hlt; simp at hlt
      have hbp := h1 hne
      subst hbp
      have hc : wr.cell? ⟨bv, ov + m, none⟩ = some (.float .f32 xs[m]) := by rw [lift Wb _ (by rw [h2 m hlt]; rfl)]; exact h2 m hlt
      have hold : wr.cell? ⟨w.heap.size, m, none⟩ = some (A'[m]'(by omega)) := by rw [arr_cell hpar', Array.getElem?_eq_getElem (by omega)]
      have hfz := arr_frozen hpar'
      have hset := arr_set hpar' m (.float .f32 xs[m])
      have hb3 := Wb.setCell (p := ⟨w.heap.size, m, none⟩) (Nat.le_refl _) (Value.float .f32 xs[m])
      have hnew : Hid (∀ k (h : k < xs.length), k < m + 1 → (A'.setIfInBounds m (.float .f32 xs[m]))[k]? = some (.float .f32 xs[k])) := fun k h hkm => by
        by_cases hkm' : k = m
        · subst hkm'
          rw [Array.getElem?_setIfInBounds_self_of_lt (by omega)]
        · rw [Array.getElem?_setIfInBounds_ne (by omega)]
          exact hk k h (by omega)
      have hH := Lib.hid hset
      clear hk hset hpar' h2 h1
      generalize xs[m] = xv at hc hb3 hH hnew
      go_wp2_with fail
      exact ⟨⟨m + 1, _, by omega, by simp, by simpa using hA', hH.out, hnew.out, hb3⟩, by simp [intOf]; omega⟩
    · obtain rfl : m = xs.length := by omega
      have hH := Lib.hid hk
      have hP := Lib.hid hpar'
      clear hk hpar' h1 h2
      go_wp2_with fail
      go_ret
      exact ⟨w.heap.size, rfl, fun i hi => by rw [Nat.zero_add, arr_cell hP.out]; exact hH.out i hi hi, Nat.le_refl _, Wb⟩
end Go.Proofs.Ytdbpgblhnhdhoaa
