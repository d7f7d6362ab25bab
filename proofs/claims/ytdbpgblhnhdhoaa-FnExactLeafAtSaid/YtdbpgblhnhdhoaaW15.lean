/-
  Walks: right numbers.
-/
import Derived.Test.YtdbpgblhnhdhoaaW14
set_option linter.unusedVariables false
set_option linter.unusedSimpArgs false
namespace Go.Proofs.Ytdbpgblhnhdhoaa
open Go.RowKit Go.Fl

def finP (x : Nat) : Bool := eqk .f32 (B .sub (cn .f32 x) (cn .f32 x)) 0

theorem finc_any (a : Nat) (w : World) :
    Calls Try.prog 77 #[.float .f32 a] w (fun e w' => e = .returned (.bool (!finP a)) ∧ Below w.heap.size w w') := by
  go_enter Try.func77, Try.ntmps77
  go_wp2_with (go_at_call 64; refine (fin_any _ _).mono ?_; rintro _ w2 ⟨rfl, hb1⟩)
  go_ret
  exact ⟨rfl, hb1⟩

theorem any_take_succ (p : Nat → Bool) (xs : List Nat) (m : Nat) (h : m < xs.length) (h0 : (xs.take m).any p = false) (h1 : p xs[m] = false) : (xs.take (m + 1)).any p = false := by
  rw [List.take_succ_eq_append_getElem h, List.any_append, h0]
  simp [h1]

set_option maxRecDepth 100000 in
set_option maxHeartbeats 1000000 in
theorem index_fin (p : Nat → Bool) (xs : List Nat) (bp : Option Addr) (bv ov cap : Nat) (w : World) (h1 : xs ≠ [] → bp = some ⟨bv, ov, none⟩) (h2 : ∀ i (h : i < xs.length), w.cell? ⟨bv, ov + i, none⟩ = some (.float .f32 xs[i])) (hl : xs.length < 10000000)
    (hcall : ∀ x w', Below w.heap.size w w' → Calls Try.prog 77 #[.float .f32 x] w' (fun e w'' => e = .returned (.bool (p x)) ∧ Below w'.heap.size w' w'')) :
    Calls Try.prog 78 #[.slice bp xs.length cap, .func (.func 77) #[] #[]] w (fun e w' => ∃ r : Int, e = .returned (.int .i64 r) ∧ decide (0 ≤ r) = xs.any p ∧ Below w.heap.size w w') := by
  go_enter Try.func78, Try.ntmps78
  go_wp2_with fail
  go_loopw [8] (fun i wr => ∃ m : Nat, m ≤ xs.length ∧ i = .int .i64 (m : Int) ∧ (xs.take m).any p = false ∧ Below w.heap.size w wr) (fun i _ => xs.length - (intOf i).toNat)
  case atStart => exact ⟨0, by omega, rfl, rfl, (by repeat' (first | exact Below.refl _ _ | exact Nat.le_refl _ | refine below_drewN ?_ _ | refine Below.alloc ?_ (by first | (simp; done) | (simp; omega)) _ | refine Below.setCell ?_ (by first | (simp; done) | (simp; omega)) _ | refine below_step ?_ (by assumption)))⟩
  case round =>
    obtain ⟨m, hm, rfl, hany, hwr⟩ := hrel
    by_cases hlt : m < xs.length
    · have hne : xs ≠ [] := by intro h; rw [h] at hlt; simp at hlt
      have hc := h2 m hlt
      have hlt' : (m : Int) < (xs.length : Int) := by omega
      have h0 : (0 : Int) ≤ (m : Int) := by omega
      have hc' : wr.cell? ⟨bv, ov + m, none⟩ = some (.float .f32 xs[m]) := by rw [lift hwr _ (by rw [hc]; rfl)]; exact hc
      have hbp := h1 hne
      subst hbp
      clear h1 h2 hc
      go_wp2_with fail
      refine (hcall _ _ hwr).mono ?_
      rintro _ w2 ⟨rfl, hb2⟩
      have hwr2 := below_step hwr hb2
      cases hp : p xs[m]
      · go_wp2_with fail
        refine ⟨⟨m + 1, by omega, by simp, any_take_succ p xs m hlt hany hp, hwr2⟩, by simp [intOf]; omega⟩
      · go_wp2_with fail
        go_ret
        refine ⟨_, rfl, ?_, hwr2⟩
        rw [show xs.any p = true from List.any_eq_true.2 ⟨xs[m], List.getElem_mem _, hp⟩]
        simp
    · obtain rfl : m = xs.length := by omega
      go_wp2_with fail
      go_ret
      exact ⟨_, rfl, by rw [List.take_length] at hany; rw [hany]; rfl, hwr⟩
set_option maxRecDepth 100000 in
set_option maxHeartbeats 1000000 in
theorem index_sign (ra : Addr) (p : Nat → Bool) (xs : List Nat) (bp : Option Addr) (bv ov cap : Nat) (w : World) (h1 : xs ≠ [] → bp = some ⟨bv, ov, none⟩) (h2 : ∀ i (h : i < xs.length), w.cell? ⟨bv, ov + i, none⟩ = some (.float .f32 xs[i])) (hl : xs.length < 10000000)
    (hcall : ∀ x w', Below w.heap.size w w' → Calls Try.prog 55 #[.float .f32 x, .pointer (some ra)] w' (fun e w'' => e = .returned (.bool (p x)) ∧ Below w'.heap.size w' w'')) :
    Calls Try.prog 78 #[.slice bp xs.length cap, .func (.func 55) #[] #[.pointer (some ra)]] w (fun e w' => ∃ r : Int, e = .returned (.int .i64 r) ∧ decide (0 ≤ r) = xs.any p ∧ Below w.heap.size w w') := by
  go_enter Try.func78, Try.ntmps78
  go_wp2_with fail
  go_loopw [8] (fun i wr => ∃ m : Nat, m ≤ xs.length ∧ i = .int .i64 (m : Int) ∧ (xs.take m).any p = false ∧ Below w.heap.size w wr) (fun i _ => xs.length - (intOf i).toNat)
  case atStart => exact ⟨0, by omega, rfl, rfl, (by repeat' (first | exact Below.refl _ _ | exact Nat.le_refl _ | refine below_drewN ?_ _ | refine Below.alloc ?_ (by first | (simp; done) | (simp; omega)) _ | refine Below.setCell ?_ (by first | (simp; done) | (simp; omega)) _ | refine below_step ?_ (by assumption)))⟩
  case round =>
    obtain ⟨m, hm, rfl, hany, hwr⟩ := hrel
    by_cases hlt : m < xs.length
    · have hne : xs ≠ [] := by intro h; rw [h] at hlt; simp at hlt
      have hc := h2 m hlt
      have hlt' : (m : Int) < (xs.length : Int) := by omega
      have h0 : (0 : Int) ≤ (m : Int) := by omega
      have hc' : wr.cell? ⟨bv, ov + m, none⟩ = some (.float .f32 xs[m]) := by rw [lift hwr _ (by rw [hc]; rfl)]; exact hc
      have hbp := h1 hne
      subst hbp
      clear h1 h2 hc
      go_wp2_with fail
      refine (hcall _ _ hwr).mono ?_
      rintro _ w2 ⟨rfl, hb2⟩
      have hwr2 := below_step hwr hb2
      cases hp : p xs[m]
      · go_wp2_with fail
        refine ⟨⟨m + 1, by omega, by simp, any_take_succ p xs m hlt hany hp, hwr2⟩, by simp [intOf]; omega⟩
      · go_wp2_with fail
        go_ret
        refine ⟨_, rfl, ?_, hwr2⟩
        rw [show xs.any p = true from List.any_eq_true.2 ⟨xs[m], List.getElem_mem _, hp⟩]
        simp
    · obtain rfl : m = xs.length := by omega
      go_wp2_with fail
      go_ret
      exact ⟨_, rfl, by rw [List.take_length] at hany; rw [hany]; rfl, hwr⟩
set_option maxRecDepth 100000 in
set_option maxHeartbeats 1000000 in
theorem contains_fin (p : Nat → Bool) (xs : List Nat) (bp : Option Addr) (bv ov cap : Nat) (w : World) (h1 : xs ≠ [] → bp = some ⟨bv, ov, none⟩) (h2 : ∀ i (h : i < xs.length), w.cell? ⟨bv, ov + i, none⟩ = some (.float .f32 xs[i])) (hl : xs.length < 10000000)
    (hcall : ∀ x w', Below w.heap.size w w' → Calls Try.prog 77 #[.float .f32 x] w' (fun e w'' => e = .returned (.bool (p x)) ∧ Below w'.heap.size w' w'')) :
    Calls Try.prog 54 #[.slice bp xs.length cap, .func (.func 77) #[] #[]] w (fun e w' => e = .returned (.bool (xs.any p)) ∧ Below w.heap.size w w') := by
  have hi := index_fin p xs bp bv ov cap w h1 h2 hl hcall
  clear h1 h2 hcall
  go_enter Try.func54, Try.ntmps54
  go_wp2_with fail
  refine hi.mono ?_
  rintro _ w2 ⟨r, rfl, hr, hb2⟩
  cases ha : xs.any p
  · rw [ha] at hr
    have hr' : r < 0 := by simpa using hr
    go_wp2_with fail
    go_ret
    exact ⟨by rw [ha]; rfl, hb2⟩
  · rw [ha] at hr
    have hr' : 0 ≤ r := by simpa using hr
    go_wp2_with fail
    go_ret
    exact ⟨by rw [ha]; rfl, hb2⟩

set_option maxRecDepth 100000 in
set_option maxHeartbeats 1000000 in
theorem contains_sign (ra : Addr) (p : Nat → Bool) (xs : List Nat) (bp : Option Addr) (bv ov cap : Nat) (w : World) (h1 : xs ≠ [] → bp = some ⟨bv, ov, none⟩) (h2 : ∀ i (h : i < xs.length), w.cell? ⟨bv, ov + i, none⟩ = some (.float .f32 xs[i])) (hl : xs.length < 10000000)
    (hcall : ∀ x w', Below w.heap.size w w' → Calls Try.prog 55 #[.float .f32 x, .pointer (some ra)] w' (fun e w'' => e = .returned (.bool (p x)) ∧ Below w'.heap.size w' w'')) :
    Calls Try.prog 54 #[.slice bp xs.length cap, .func (.func 55) #[] #[.pointer (some ra)]] w (fun e w' => e = .returned (.bool (xs.any p)) ∧ Below w.heap.size w w') := by
  have hi := index_sign ra p xs bp bv ov cap w h1 h2 hl hcall
  clear h1 h2 hcall
  go_enter Try.func54, Try.ntmps54
  go_wp2_with fail
  refine hi.mono ?_
  rintro _ w2 ⟨r, rfl, hr, hb2⟩
  cases ha : xs.any p
  · rw [ha] at hr
    have hr' : r < 0 := by simpa using hr
    go_wp2_with fail
    go_ret
    exact ⟨by rw [ha]; rfl, hb2⟩
  · rw [ha] at hr
    have hr' : 0 ≤ r := by simpa using hr
    go_wp2_with fail
    go_ret
    exact ⟨by rw [ha]; rfl, hb2⟩

theorem finite_any (xs : List Nat) (bp : Option Addr) (bv ov cap : Nat) (w : World) (h1 : xs ≠ [] → bp = some ⟨bv, ov, none⟩) (h2 : ∀ i (h : i < xs.length), w.cell? ⟨bv, ov + i, none⟩ = some (.float .f32 xs[i])) (hl : xs.length < 10000000) :
    Calls Try.prog 53 #[.slice bp xs.length cap] w (fun e w' => e = .returned (.bool (!xs.any (fun x => !finP x))) ∧ Below w.heap.size w w') := by
  have hi := contains_fin (fun x => !finP x) xs bp bv ov cap w h1 h2 hl (fun x w' _ => finc_any x w')
  clear h1 h2
  go_enter Try.func53, Try.ntmps53
  go_wp2_with fail
  refine hi.mono ?_
  rintro _ w2 ⟨rfl, hb2⟩
  go_wp2_with fail
  go_ret
  exact ⟨rfl, hb2⟩

def lek (k : FloatKind) (x y : Nat) : Bool := k.format.order x y == some .lt || k.format.order x y == some .eq
def signBad (s : Nat) (x : Nat) : Bool := (s == 1 && ltk .f32 (cn .f32 x) 0) || (s == 2 && lek .f32 (cn .f32 x) 0)

set_option maxRecDepth 100000 in
set_option maxHeartbeats 1000000 in
theorem signc_any (s : Nat) (hs : s ≤ 2) (a rb ro : Nat) (w : World) (h : w.cell? ⟨rb, ro + 3, none⟩ = some (.int .i64 (s : Int))) :
    Calls Try.prog 55 #[.float .f32 a, .pointer (some ⟨rb, ro, none⟩)] w (fun e w' => e = .returned (.bool (signBad s a)) ∧ Below w.heap.size w w') := by
  have : s = 0 ∨ s = 1 ∨ s = 2 := by omega
  rcases this with h | h | h <;> subst h
  all_goals
    go_enter Try.func55, Try.ntmps55
    go_wp2_with fail
    all_goals
      go_ret
      refine ⟨congrArg (fun b => Ending.returned (.bool b)) (?_ : _ = _), Below.refl _ _⟩
      simp [signBad, ltk, lek, ord_r0, *]
end Go.Proofs.Ytdbpgblhnhdhoaa
