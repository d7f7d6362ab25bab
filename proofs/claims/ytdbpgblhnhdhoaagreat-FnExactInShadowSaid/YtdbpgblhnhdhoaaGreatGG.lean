/-
  Walks: right numbers.
  Walks: numbersOk, axisOk.
  Walks: ContainsFunc over ints.
-/
import Derived.Test.YtdbpgblhnhdhoaaGreatGF
set_option linter.unusedVariables false
set_option linter.unusedSimpArgs false
namespace Go.Proofs.YtdbpgblhnhdhoaaGreat
open Go.RowKit Go.Fl

def finP (x : Nat) : Bool := eqk .f32 (B .sub (cn .f32 x) (cn .f32 x)) 0

theorem finc_any (a : Nat) (w : World) :
    Calls Tryz.prog 205 #[.float .f32 a] w (fun e w' => e = .returned (.bool (!finP a)) ∧ Below w.heap.size w w') := by
  go_enter Tryz.func205, Tryz.ntmps205
  go_wp2_with (go_at_call 118; refine (fin_any _ _).mono ?_; rintro _ w2 ⟨rfl, hb1⟩)
  go_ret
  exact ⟨rfl, hb1⟩

theorem any_take_succ (p : Nat → Bool) (xs : List Nat) (m : Nat) (h : m < xs.length) (h0 : (xs.take m).any p = false) (h1 : p xs[m] = false) : (xs.take (m + 1)).any p = false := by
  rw [List.take_succ_eq_append_getElem h, List.any_append, h0]
  simp [h1]

set_option maxRecDepth 100000 in
set_option maxHeartbeats 1000000 in
theorem index_fin (p : Nat → Bool) (xs : List Nat) (bp : Option Addr) (bv ov cap : Nat) (w : World) (h1 : xs ≠ [] → bp = some ⟨bv, ov, none⟩) (h2 : ∀ i (h : i < xs.length), w.cell? ⟨bv, ov + i, none⟩ = some (.float .f32 xs[i])) (hl : xs.length < 10000000)
    (hcall : ∀ x w', Below w.heap.size w w' → Calls Tryz.prog 205 #[.float .f32 x] w' (fun e w'' => e = .returned (.bool (p x)) ∧ Below w'.heap.size w' w'')) :
    Calls Tryz.prog 206 #[.slice bp xs.length cap, .func (.func 205) #[] #[]] w (fun e w' => ∃ r : Int, e = .returned (.int .i64 r) ∧ decide (0 ≤ r) = xs.any p ∧ Below w.heap.size w w') := by
  go_enter Tryz.func206, Tryz.ntmps206
  go_wp2_with fail
  go_loopw [8] (fun i wr => ∃ m : Nat, m ≤ xs.length ∧ i = .int .i64 (m : Int) ∧ (xs.take m).any p = false ∧ Below w.heap.size w wr) (fun i _ => xs.length - (intOf i).toNat)
  case atStart => exact ⟨0, by omega, rfl, rfl, (by repeat' (first | exact Below.refl _ _ | exact Nat.le_refl _ | refine below_drewN ?_ _ | refine Below.alloc ?_ (by first | (simp; done) | (simp; omega)) _ | refine Below.setCell ?_ (by first | (simp; done) | (simp; omega)) _ | refine below_step ?_ (by assumption)))⟩
  case round =>
    obtain ⟨m, hm, rfl, hany, hwr⟩ := hrel
    by_cases hlt : m < xs.length
    · have hne : xs ≠ [] := by intro h; rw [h] at hlt; simp at hlt
      have hc := h2 m hlt
      have hlt' : (m : Int) < (xs.length : Int) := by omega
      have h0 : (0 : Int) ≤ (m : Int) := by omega
      have hc' : wr.cell? ⟨bv, ov + m, none⟩ = some (.float .f32 xs[m]) := by rw [lift hwr _ (by rw [hc]; rfl)]; exact hc
      have hbp := h1 hne
      subst hbp
      clear h1 h2 hc
      go_wp2_with fail
      refine (hcall _ _ hwr).mono ?_
      rintro _ w2 ⟨rfl, hb2⟩
      have hwr2 := below_step hwr hb2
      cases hp : p xs[m]
      · go_wp2_with fail
        refine ⟨⟨m + 1, by omega, by simp, any_take_succ p xs m hlt hany hp, hwr2⟩, by simp [intOf]; omega⟩
      · go_wp2_with fail
        go_ret
        refine ⟨_, rfl, ?_, hwr2⟩
        rw [show xs.any p = true from List.any_eq_true.2 ⟨xs[m], List.getElem_mem _, hp⟩]
        simp
    · obtain rfl : m = xs.length := by omega
      go_wp2_with fail
      go_ret
      exact ⟨_, rfl, by rw [List.take_length] at hany; rw [hany]; rfl, hwr⟩
set_option maxRecDepth 100000 in
set_option maxHeartbeats 1000000 in
theorem index_sign (ra : Addr) (p : Nat → Bool) (xs : List Nat) (bp : Option Addr) (bv ov cap : Nat) (w : World) (h1 : xs ≠ [] → bp = some ⟨bv, ov, none⟩) (h2 : ∀ i (h : i < xs.length), w.cell? ⟨bv, ov + i, none⟩ = some (.float .f32 xs[i])) (hl : xs.length < 10000000)
    (hcall : ∀ x w', Below w.heap.size w w' → Calls Tryz.prog 157 #[.float .f32 x, .pointer (some ra)] w' (fun e w'' => e = .returned (.bool (p x)) ∧ Below w'.heap.size w' w'')) :
    Calls Tryz.prog 206 #[.slice bp xs.length cap, .func (.func 157) #[] #[.pointer (some ra)]] w (fun e w' => ∃ r : Int, e = .returned (.int .i64 r) ∧ decide (0 ≤ r) = xs.any p ∧ Below w.heap.size w w') := by
  go_enter Tryz.func206, Tryz.ntmps206
  go_wp2_with fail
  go_loopw [8] (fun i wr => ∃ m : Nat, m ≤ xs.length ∧ i = .int .i64 (m : Int) ∧ (xs.take m).any p = false ∧ Below w.heap.size w wr) (fun i _ => xs.length - (intOf i).toNat)
  case atStart => exact ⟨0, by omega, rfl, rfl, (by repeat' (first | exact Below.refl _ _ | exact Nat.le_refl _ | refine below_drewN ?_ _ | refine Below.alloc ?_ (by first | (simp; done) | (simp; omega)) _ | refine Below.setCell ?_ (by first | (simp; done) | (simp; omega)) _ | refine below_step ?_ (by assumption)))⟩
  case round =>
    obtain ⟨m, hm, rfl, hany, hwr⟩ := hrel
    by_cases hlt : m < xs.length
    · have hne : xs ≠ [] := by intro h; rw [h] at hlt; simp at hlt
      have hc := h2 m hlt
      have hlt' : (m : Int) < (xs.length : Int) := by omega
      have h0 : (0 : Int) ≤ (m : Int) := by omega
      have hc' : wr.cell? ⟨bv, ov + m, none⟩ = some (.float .f32 xs[m]) := by rw [lift hwr _ (by rw [hc]; rfl)]; exact hc
      have hbp := h1 hne
      subst hbp
      clear h1 h2 hc
      go_wp2_with fail
      refine (hcall _ _ hwr).mono ?_
      rintro _ w2 ⟨rfl, hb2⟩
      have hwr2 := below_step hwr hb2
      cases hp : p xs[m]
      · go_wp2_with fail
        refine ⟨⟨m + 1, by omega, by simp, any_take_succ p xs m hlt hany hp, hwr2⟩, by simp [intOf]; omega⟩
      · go_wp2_with fail
        go_ret
        refine ⟨_, rfl, ?_, hwr2⟩
        rw [show xs.any p = true from List.any_eq_true.2 ⟨xs[m], List.getElem_mem _, hp⟩]
        simp
    · obtain rfl : m = xs.length := by omega
      go_wp2_with fail
      go_ret
      exact ⟨_, rfl, by rw [List.take_length] at hany; rw [hany]; rfl, hwr⟩
set_option maxRecDepth 100000 in
set_option maxHeartbeats 1000000 in
theorem contains_fin (p : Nat → Bool) (xs : List Nat) (bp : Option Addr) (bv ov cap : Nat) (w : World) (h1 : xs ≠ [] → bp = some ⟨bv, ov, none⟩) (h2 : ∀ i (h : i < xs.length), w.cell? ⟨bv, ov + i, none⟩ = some (.float .f32 xs[i])) (hl : xs.length < 10000000)
    (hcall : ∀ x w', Below w.heap.size w w' → Calls Tryz.prog 205 #[.float .f32 x] w' (fun e w'' => e = .returned (.bool (p x)) ∧ Below w'.heap.size w' w'')) :
    Calls Tryz.prog 156 #[.slice bp xs.length cap, .func (.func 205) #[] #[]] w (fun e w' => e = .returned (.bool (xs.any p)) ∧ Below w.heap.size w w') := by
  have hi := index_fin p xs bp bv ov cap w h1 h2 hl hcall
  clear h1 h2 hcall
  go_enter Tryz.func156, Tryz.ntmps156
  go_wp2_with fail
  refine hi.mono ?_
  rintro _ w2 ⟨r, rfl, hr, hb2⟩
  cases ha : xs.any p
  · rw [ha] at hr
    have hr' : r < 0 := by simpa using hr
    go_wp2_with fail
    go_ret
    exact ⟨by rw [ha]; rfl, hb2⟩
  · rw [ha] at hr
    have hr' : 0 ≤ r := by simpa using hr
    go_wp2_with fail
    go_ret
    exact ⟨by rw [ha]; rfl, hb2⟩

set_option maxRecDepth 100000 in
set_option maxHeartbeats 1000000 in
theorem contains_sign (ra : Addr) (p : Nat → Bool) (xs : List Nat) (bp : Option Addr) (bv ov cap : Nat) (w : World) (h1 : xs ≠ [] → bp = some ⟨bv, ov, none⟩) (h2 : ∀ i (h : i < xs.length), w.cell? ⟨bv, ov + i, none⟩ = some (.float .f32 xs[i])) (hl : xs.length < 10000000)
    (hcall : ∀ x w', Below w.heap.size w w' → Calls Tryz.prog 157 #[.float .f32 x, .pointer (some ra)] w' (fun e w'' => e = .returned (.bool (p x)) ∧ Below w'.heap.size w' w'')) :
    Calls Tryz.prog 156 #[.slice bp xs.length cap, .func (.func 157) #[] #[.pointer (some ra)]] w (fun e w' => e = .returned (.bool (xs.any p)) ∧ Below w.heap.size w w') := by
  have hi := index_sign ra p xs bp bv ov cap w h1 h2 hl hcall
  clear h1 h2 hcall
  go_enter Tryz.func156, Tryz.ntmps156
  go_wp2_with fail
  refine hi.mono ?_
  rintro _ w2 ⟨r, rfl, hr, hb2⟩
  cases ha : xs.any p
  · rw [ha] at hr
    have hr' : r < 0 := by simpa using hr
    go_wp2_with fail
    go_ret
    exact ⟨by rw [ha]; rfl, hb2⟩
  · rw [ha] at hr
    have hr' : 0 ≤ r := by simpa using hr
    go_wp2_with fail
    go_ret
    exact ⟨by rw [ha]; rfl, hb2⟩

theorem finite_any (xs : List Nat) (bp : Option Addr) (bv ov cap : Nat) (w : World) (h1 : xs ≠ [] → bp = some ⟨bv, ov, none⟩) (h2 : ∀ i (h : i < xs.length), w.cell? ⟨bv, ov + i, none⟩ = some (.float .f32 xs[i])) (hl : xs.length < 10000000) :
    Calls Tryz.prog 155 #[.slice bp xs.length cap] w (fun e w' => e = .returned (.bool (!xs.any (fun x => !finP x))) ∧ Below w.heap.size w w') := by
  have hi := contains_fin (fun x => !finP x) xs bp bv ov cap w h1 h2 hl (fun x w' _ => finc_any x w')
  clear h1 h2
  go_enter Tryz.func155, Tryz.ntmps155
  go_wp2_with fail
  refine hi.mono ?_
  rintro _ w2 ⟨rfl, hb2⟩
  go_wp2_with fail
  go_ret
  exact ⟨rfl, hb2⟩

def signBad (s : Nat) (x : Nat) : Bool := (s == 1 && ltk .f32 (cn .f32 x) 0) || (s == 2 && lek .f32 (cn .f32 x) 0)

set_option maxRecDepth 100000 in
set_option maxHeartbeats 1000000 in
theorem signc_any (s : Nat) (hs : s ≤ 2) (a rb ro : Nat) (w : World) (h : w.cell? ⟨rb, ro + 3, none⟩ = some (.int .i64 (s : Int))) :
    Calls Tryz.prog 157 #[.float .f32 a, .pointer (some ⟨rb, ro, none⟩)] w (fun e w' => e = .returned (.bool (signBad s a)) ∧ Below w.heap.size w w') := by
  have : s = 0 ∨ s = 1 ∨ s = 2 := by omega
  rcases this with h | h | h <;> subst h
  all_goals
    go_enter Tryz.func157, Tryz.ntmps157
    go_wp2_with fail
    all_goals
      go_ret
      refine ⟨congrArg (fun b => Ending.returned (.bool b)) (?_ : _ = _), Below.refl _ _⟩
      simp [signBad, ltk, lek, ord_r0, *]
end Go.Proofs.YtdbpgblhnhdhoaaGreat

namespace Go.Proofs.YtdbpgblhnhdhoaaGreat
open Go.RowKit Go.Fl

def numOk (k : Int) (xs : List Nat) : Bool := kindOk k && decide (xs.length = (ruleF k).1) && !xs.any (fun x => !finP x) && !xs.any (signBad (ruleF k).2.2.2)
theorem sign_le (k : Int) : (ruleF k).2.2.2 ≤ 2 := by
  unfold ruleF; split
  · unfold ruleT; split <;> simp
  · simp

set_option maxRecDepth 100000 in
set_option maxHeartbeats 1000000 in
theorem numbersOk_any (k : Int) (xs : List Nat) (bp : Option Addr) (bv ov cap : Nat) (w : World) (h1 : xs ≠ [] → bp = some ⟨bv, ov, none⟩) (h2 : ∀ i (h : i < xs.length), w.cell? ⟨bv, ov + i, none⟩ = some (.float .f32 xs[i])) (hl : xs.length < 10000000) :
    Calls Tryz.prog 113 #[.int .i64 k, .slice bp xs.length cap] w (fun e w' => e = .returned (.bool (numOk k xs)) ∧ Below w.heap.size w w') := by
  go_enter Tryz.func113, Tryz.ntmps113
  go_wp2_with fail
  refine (rule_any k w).mono ?_
  rintro _ w2 ⟨rfl, hb2⟩
  have hr2 : (ruleF k).2.2.2 ≤ 2 := sign_le k
  have W3b : Below w.heap.size w (w2.alloc (.cells #[I64 (ruleF k).1, I64 (ruleF k).2.1, .bool (ruleF k).2.2.1, I64 (ruleF k).2.2.2] 199)) := hb2.alloc hb2.size _
  have hkept : Kept [(⟨w2.heap.size, 0, none⟩, I64 (ruleF k).1), (⟨w2.heap.size, 3, none⟩, I64 (ruleF k).2.2.2)] [] (w2.alloc (.cells #[I64 (ruleF k).1, I64 (ruleF k).2.1, .bool (ruleF k).2.2.1, I64 (ruleF k).2.2.2] 199)) := by
    simp only [Kept, List.forall_mem_append, List.forall_mem_cons, List.not_mem_nil, false_implies, implies_true, and_true, true_and]
    simp
  simp only [ruleV]
  have hn : numOk k xs = (kindOk k && decide (xs.length = (ruleF k).1) && !xs.any (fun x => !finP x) && !xs.any (signBad (ruleF k).2.2.2)) := rfl
  generalize kindOk k = ko at *
  generalize hrk : ruleF k = rk at *
  obtain ⟨n0, n1, n2, n3⟩ := rk
  simp only at hn hr2 W3b hkept ⊢
  have W3c : Below w.heap.size w (w2.alloc (.cells #[I64 n0, I64 n1, .bool n2, I64 n3] 199)) := W3b
  have h3 : ∀ i (h : i < xs.length), (w2.alloc (.cells #[I64 n0, I64 n1, .bool n2, I64 n3] 199)).cell? ⟨bv, ov + i, none⟩ = some (.float .f32 xs[i]) := fun i hi => by rw [lift W3c _ (by rw [h2 i hi]; rfl)]; exact h2 i hi
  clear h2
  cases ko
  · go_wp2_with fail
    go_ret
    exact ⟨by rw [hn]; rfl, W3c⟩
  by_cases hlen : xs.length = n0
  · subst hlen
    have hfin := finite_any xs bp bv ov cap _ h1 h3 hl
    go_wp2_with fail
    refine hfin.mono ?_
    rintro _ w4 ⟨rfl, hb4⟩
    have W4b := below_step W3c hb4
    cases hf : xs.any (fun x => !finP x)
    · have h4 : ∀ i (h : i < xs.length), w4.cell? ⟨bv, ov + i, none⟩ = some (.float .f32 xs[i]) := fun i hi => by rw [lift hb4 _ (by rw [h3 i hi]; rfl)]; exact h3 i hi
      have hkept4 := keep hkept hb4
      have hc := contains_sign ⟨w2.heap.size, 0, none⟩ (signBad n3) xs bp bv ov cap w4 h1 h4 hl (fun x w' hw' => signc_any n3 hr2 x w2.heap.size 0 w' (by
        have hK := keep hkept4 hw'
        simp only [Kept, List.forall_mem_append, List.forall_mem_cons, List.not_mem_nil, false_implies, implies_true, and_true, true_and] at hK
        exact hK.2))
      clear h1 h3 h4 hkept hfin
      go_wp2_with fail
      refine hc.mono ?_
      rintro _ w5 ⟨rfl, hb5⟩
      go_wp2_with fail
      go_ret
      exact ⟨by rw [hn, hf]; simp, below_step W4b hb5⟩
    · clear h1 h3
      go_wp2_with fail
      go_ret
      exact ⟨by rw [hn, hf]; simp, W4b⟩
  · have hlen' : (xs.length : Int) ≠ (n0 : Int) := by omega
    clear h1 h3
    go_wp2_with fail
    go_ret
    exact ⟨by rw [hn]; simp [hlen], W3c⟩

def axOk (k a b : Int) : Bool := (decide (0 < (ruleF k).2.1) || decide (a = 0)) && (decide ((ruleF k).2.1 = 2) || decide (b = 0) || ((ruleF k).2.2.1 && (decide (0 ≤ b) && decide (b ≤ 2))))

theorem kids_cases (k : Int) : (ruleF k).2.1 = 0 ∨ (ruleF k).2.1 = 1 ∨ (ruleF k).2.1 = 2 := by
  unfold ruleF; split
  · unfold ruleT; split <;> simp
  · simp

set_option maxRecDepth 100000 in
set_option maxHeartbeats 4000000 in
theorem axisOk_any (nb no : Nat) (k x y : Int) (w : World) (h0 : w.cell? ⟨nb, no, none⟩ = some (.int .i64 k)) (h1 : w.cell? ⟨nb, no + 1, none⟩ = some (.int .i64 x)) (h2 : w.cell? ⟨nb, no + 2, none⟩ = some (.int .i64 y)) :
    Calls Tryz.prog 114 #[.pointer (some ⟨nb, no, none⟩)] w (fun e w' => e = .returned (.bool (axOk k x y)) ∧ Below w.heap.size w w') := by
  have hb : nb < w.heap.size := some_lt (a := ⟨nb, no, none⟩) (by rw [h0]; rfl)
  go_enter Tryz.func114, Tryz.ntmps114
  go_wp2_with fail
  refine (rule_any k w).mono ?_
  rintro _ w2 ⟨rfl, hb2⟩
  have W3b : Below w.heap.size w (w2.alloc (.cells #[I64 (ruleF k).1, I64 (ruleF k).2.1, .bool (ruleF k).2.2.1, I64 (ruleF k).2.2.2] 199)) := hb2.alloc hb2.size _
  simp only [ruleV]
  have hn : Hid (axOk k x y = ((decide (0 < (ruleF k).2.1) || decide (x = 0)) && (decide ((ruleF k).2.1 = 2) || decide (y = 0) || ((ruleF k).2.2.1 && (decide (0 ≤ y) && decide (y ≤ 2)))))) := by unfold Hid; rfl
  have h3 : w2.cell? ⟨nb, no + 1, none⟩ = some (.int .i64 x) := by rw [lift hb2 _ (by rw [h1]; rfl)]; exact h1
  have h4 : w2.cell? ⟨nb, no + 2, none⟩ = some (.int .i64 y) := by rw [lift hb2 _ (by rw [h2]; rfl)]; exact h2
  have hnb2 : nb < w2.heap.size := some_lt (a := ⟨nb, no + 1, none⟩) (by rw [h3]; rfl)
  have hk3 := kids_cases k
  clear h0 h1 h2 hb2
  generalize (ruleF k).2.2.1 = n2 at *
  generalize (ruleF k).2.1 = n1 at *
  by_cases hx : x = 0 <;> by_cases hy : y = 0 <;> cases n2 <;> rcases hk3 with h | h | h <;> subst h
  all_goals try subst hx
  all_goals try subst hy
  all_goals
    go_wp2_with (go_at_call 67; refine (in_any _ _ _ _).mono ?_; rintro _ w5 ⟨rfl, rfl⟩)
    go_ret
    exact ⟨by rw [hn.out]; simp [*], W3b⟩
end Go.Proofs.YtdbpgblhnhdhoaaGreat

namespace Go.Proofs.YtdbpgblhnhdhoaaGreat
open Go.RowKit Go.Fl

theorem validc_any (a : Nat) (w : World) :
    Calls Tryz.prog 117 #[I64 a] w (fun e w' => e = .returned (.bool (a != 1)) ∧ Below w.heap.size w w') := by
  go_enter Tryz.func117, Tryz.ntmps117
  by_cases h : a = 1
  · subst h
    go_wp2_with fail
    go_ret
    exact ⟨rfl, Below.refl _ _⟩
  · have h2 : (a != 1) = true := by simpa using h
    have h3 : (((a : Int)) != 1) = true := by simp; omega
    rw [h2]
    go_wp2_with fail
    go_ret
    exact ⟨rfl, Below.refl _ _⟩

set_option maxRecDepth 100000 in
set_option maxHeartbeats 1000000 in
theorem index_int (p : Nat → Bool) (xs : List Nat) (bp : Option Addr) (bv ov cap : Nat) (w : World) (h1 : xs ≠ [] → bp = some ⟨bv, ov, none⟩) (h2 : ∀ i (h : i < xs.length), w.cell? ⟨bv, ov + i, none⟩ = some (I64 xs[i])) (hl : xs.length < 10000000)
    (hcall : ∀ (x : Nat) w', Below w.heap.size w w' → Calls Tryz.prog 117 #[I64 x] w' (fun e w'' => e = .returned (.bool (p x)) ∧ Below w'.heap.size w' w'')) :
    Calls Tryz.prog 158 #[.slice bp xs.length cap, .func (.func 117) #[] #[]] w (fun e w' => ∃ r : Int, e = .returned (.int .i64 r) ∧ decide (0 ≤ r) = xs.any p ∧ Below w.heap.size w w') := by
  go_enter Tryz.func158, Tryz.ntmps158
  go_wp2_with fail
  go_loopw [8] (fun i wr => ∃ m : Nat, m ≤ xs.length ∧ i = .int .i64 (m : Int) ∧ (xs.take m).any p = false ∧ Below w.heap.size w wr) (fun i _ => xs.length - (intOf i).toNat)
  case atStart => exact ⟨0, by omega, rfl, rfl, (by repeat' (first | exact Below.refl _ _ | exact Nat.le_refl _ | refine below_drewN ?_ _ | refine Below.alloc ?_ (by first | (simp; done) | (simp; omega)) _ | refine Below.setCell ?_ (by first | (simp; done) | (simp; omega)) _ | refine below_step ?_ (by assumption)))⟩
  case round =>
    obtain ⟨m, hm, rfl, hany, hwr⟩ := hrel
    by_cases hlt : m < xs.length
    · have hne : xs ≠ [] := by intro h; rw [h] at hlt; simp at hlt
      have hc := h2 m hlt
      have hlt' : (m : Int) < (xs.length : Int) := by omega
      have h0 : (0 : Int) ≤ (m : Int) := by omega
      have hc' : wr.cell? ⟨bv, ov + m, none⟩ = some (I64 xs[m]) := by rw [lift hwr _ (by rw [hc]; rfl)]; exact hc
      have hbp := h1 hne
      subst hbp
      clear h1 h2 hc
      go_wp2_with fail
      refine (hcall _ _ hwr).mono ?_
      rintro _ w2 ⟨rfl, hb2⟩
      have hwr2 := below_step hwr hb2
      cases hp : p xs[m]
      · go_wp2_with fail
        refine ⟨⟨m + 1, by omega, by simp, any_take_succ p xs m hlt hany hp, hwr2⟩, by simp [intOf]; omega⟩
      · go_wp2_with fail
        go_ret
        refine ⟨_, rfl, ?_, hwr2⟩
        rw [show xs.any p = true from List.any_eq_true.2 ⟨xs[m], List.getElem_mem _, hp⟩]
        simp
    · obtain rfl : m = xs.length := by omega
      go_wp2_with fail
      go_ret
      exact ⟨_, rfl, by rw [List.take_length] at hany; rw [hany]; rfl, hwr⟩
set_option maxRecDepth 100000 in
set_option maxHeartbeats 1000000 in
theorem contains_int (p : Nat → Bool) (xs : List Nat) (bp : Option Addr) (bv ov cap : Nat) (w : World) (h1 : xs ≠ [] → bp = some ⟨bv, ov, none⟩) (h2 : ∀ i (h : i < xs.length), w.cell? ⟨bv, ov + i, none⟩ = some (I64 xs[i])) (hl : xs.length < 10000000)
    (hcall : ∀ (x : Nat) w', Below w.heap.size w w' → Calls Tryz.prog 117 #[I64 x] w' (fun e w'' => e = .returned (.bool (p x)) ∧ Below w'.heap.size w' w'')) :
    Calls Tryz.prog 116 #[.slice bp xs.length cap, .func (.func 117) #[] #[]] w (fun e w' => e = .returned (.bool (xs.any p)) ∧ Below w.heap.size w w') := by
  have hi := index_int p xs bp bv ov cap w h1 h2 hl hcall
  clear h1 h2 hcall
  go_enter Tryz.func116, Tryz.ntmps116
  go_wp2_with fail
  refine hi.mono ?_
  rintro _ w2 ⟨r, rfl, hr, hb2⟩
  cases ha : xs.any p
  · rw [ha] at hr
    have hr' : r < 0 := by simpa using hr
    go_wp2_with fail
    go_ret
    exact ⟨by rw [ha]; rfl, hb2⟩
  · rw [ha] at hr
    have hr' : 0 ≤ r := by simpa using hr
    go_wp2_with fail
    go_ret
    exact ⟨by rw [ha]; rfl, hb2⟩

end Go.Proofs.YtdbpgblhnhdhoaaGreat
