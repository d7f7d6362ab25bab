/-
  Walks: ContainsFunc over ints.
-/
import Derived.Test.YtdbpgblhnhdhoaaW16
set_option linter.unusedVariables false
set_option linter.unusedSimpArgs false
namespace Go.Proofs.Ytdbpgblhnhdhoaa
open Go.RowKit Go.Fl

theorem validc_any (a : Nat) (w : World) :
    Calls Try.prog 34 #[I64 a] w (fun e w' => e = .returned (.bool (a != 1)) ∧ Below w.heap.size w w') := by
  go_enter Try.func34, Try.ntmps34
  by_cases h : a = 1
  · subst h
    go_wp2_with fail
    go_ret
    exact ⟨rfl, Below.refl _ _⟩
  · have h2 : (a != 1) = true := by simpa using h
    have h3 : (((a : Int)) != 1) = true := by simp; omega
    rw [h2]
    go_wp2_with fail
    go_ret
    exact ⟨rfl, Below.refl _ _⟩

set_option maxRecDepth 100000 in
set_option maxHeartbeats 1000000 in
theorem index_int (p : Nat → Bool) (xs : List Nat) (bp : Option Addr) (bv ov cap : Nat) (w : World) (h1 : xs ≠ [] → bp = some ⟨bv, ov, none⟩) (h2 : ∀ i (h : i < xs.length), w.cell? ⟨bv, ov + i, none⟩ = some (I64 xs[i])) (hl : xs.length < 10000000)
    (hcall : ∀ (x : Nat) w', Below w.heap.size w w' → Calls Try.prog 34 #[I64 x] w' (fun e w'' => e = .returned (.bool (p x)) ∧ Below w'.heap.size w' w'')) :
    Calls Try.prog 56 #[.slice bp xs.length cap, .func (.func 34) #[] #[]] w (fun e w' => ∃ r : Int, e = .returned (.int .i64 r) ∧ decide (0 ≤ r) = xs.any p ∧ Below w.heap.size w w') := by
  go_enter Try.func56, Try.ntmps56
  go_wp2_with fail
  go_loopw [8] (fun i wr => ∃ m : Nat, m ≤ xs.length ∧ i = .int .i64 (m : Int) ∧ (xs.take m).any p = false ∧ Below w.heap.size w wr) (fun i _ => xs.length - (intOf i).toNat)
  case atStart => exact ⟨0, by omega, rfl, rfl, (by repeat' (first | exact Below.refl _ _ | exact Nat.le_refl _ | refine below_drewN ?_ _ | refine Below.alloc ?_ (by first | (simp; done) | (simp; omega)) _ | refine Below.setCell ?_ (by first | (simp; done) | (simp; omega)) _ | refine below_step ?_ (by assumption)))⟩
  case round =>
    obtain ⟨m, hm, rfl, hany, hwr⟩ := hrel
    by_cases hlt : m < xs.length
    · have hne : xs ≠ [] := by intro h; rw [h] at hlt; simp at hlt
      have hc := h2 m hlt
      have hlt' : (m : Int) < (xs.length : Int) := by omega
      have h0 : (0 : Int) ≤ (m : Int) := by omega
      have hc' : wr.cell? ⟨bv, ov + m, none⟩ = some (I64 xs[m]) := by rw [lift hwr _ (by rw [hc]; rfl)]; exact hc
      have hbp := h1 hne
      subst hbp
      clear h1 h2 hc
      go_wp2_with fail
      refine (hcall _ _ hwr).mono ?_
      rintro _ w2 ⟨rfl, hb2⟩
      have hwr2 := below_step hwr hb2
      cases hp : p xs[m]
      · go_wp2_with fail
        refine ⟨⟨m + 1, by omega, by simp, any_take_succ p xs m hlt hany hp, hwr2⟩, by simp [intOf]; omega⟩
      · go_wp2_with fail
        go_ret
        refine ⟨_, rfl, ?_, hwr2⟩
        rw [show xs.any p = true from List.any_eq_true.2 ⟨xs[m], List.getElem_mem _, hp⟩]
        simp
    · obtain rfl : m = xs.length := by omega
      go_wp2_with fail
      go_ret
      exact ⟨_, rfl, by rw [List.take_length] at hany; rw [hany]; rfl, hwr⟩
set_option maxRecDepth 100000 in
set_option maxHeartbeats 1000000 in
theorem contains_int (p : Nat → Bool) (xs : List Nat) (bp : Option Addr) (bv ov cap : Nat) (w : World) (h1 : xs ≠ [] → bp = some ⟨bv, ov, none⟩) (h2 : ∀ i (h : i < xs.length), w.cell? ⟨bv, ov + i, none⟩ = some (I64 xs[i])) (hl : xs.length < 10000000)
    (hcall : ∀ (x : Nat) w', Below w.heap.size w w' → Calls Try.prog 34 #[I64 x] w' (fun e w'' => e = .returned (.bool (p x)) ∧ Below w'.heap.size w' w'')) :
    Calls Try.prog 33 #[.slice bp xs.length cap, .func (.func 34) #[] #[]] w (fun e w' => e = .returned (.bool (xs.any p)) ∧ Below w.heap.size w w') := by
  have hi := index_int p xs bp bv ov cap w h1 h2 hl hcall
  clear h1 h2 hcall
  go_enter Try.func33, Try.ntmps33
  go_wp2_with fail
  refine hi.mono ?_
  rintro _ w2 ⟨r, rfl, hr, hb2⟩
  cases ha : xs.any p
  · rw [ha] at hr
    have hr' : r < 0 := by simpa using hr
    go_wp2_with fail
    go_ret
    exact ⟨by rw [ha]; rfl, hb2⟩
  · rw [ha] at hr
    have hr' : 0 ≤ r := by simpa using hr
    go_wp2_with fail
    go_ret
    exact ⟨by rw [ha]; rfl, hb2⟩

end Go.Proofs.Ytdbpgblhnhdhoaa
