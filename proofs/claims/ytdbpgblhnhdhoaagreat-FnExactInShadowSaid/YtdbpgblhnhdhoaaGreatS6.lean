/-
  Walks of the reference: numbers.
-/
import Derived.Test.YtdbpgblhnhdhoaaGreatGJ
import Derived.Test.YtdbpgblhnhdhoaaGreatGG
set_option linter.unusedVariables false
set_option linter.unusedSimpArgs false
namespace Go.Proofs.YtdbpgblhnhdhoaaGreat
open Go.RowKit Go.Fl

def badS (s : Nat) (x : Nat) : Bool := !finP x || signBad s x

theorem s_fin2_any (a : Nat) (w : World) :
    Calls Tryz.prog 109 #[.float .f32 a] w (fun e w' => e = .returned (.bool (finP a)) ∧ Below w.heap.size w w') := s_fin_any a w

set_option maxRecDepth 100000 in
set_option maxHeartbeats 8000000 in
theorem s_numbers_any (k : Int) (hk : 0 ≤ k ∧ k ≤ 16) (xs : List Nat) (bp : Option Addr) (bv ov cap : Nat) (w : World) (h1 : xs ≠ [] → bp = some ⟨bv, ov, none⟩) (h2 : ∀ i (h : i < xs.length), w.cell? ⟨bv, ov + i, none⟩ = some (.float .f32 xs[i])) :
    Calls Tryz.prog 151 #[.int .i64 k, .slice bp xs.length cap] w (fun e w' => e = .returned (.bool (decide (xs.length = (ruleF k).1) && !xs.any (badS (ruleF k).2.2.2))) ∧ Below w.heap.size w w') := by
  obtain ⟨sg, hsg⟩ : ∃ sg, sg = (ruleF k).2.2.2 := ⟨_, rfl⟩
  rw [← hsg]
  by_cases hlen : xs.length = (ruleF k).1
  · have hlI : (xs.length : Int) = ((ruleF k).1 : Int) := by omega
    have hl4 : xs.length < 1000 := by
      rw [hlen]; unfold ruleF; split
      · unfold ruleT; split <;> simp
      · simp
    have : k = 0 ∨ k = 1 ∨ k = 2 ∨ k = 3 ∨ k = 4 ∨ k = 5 ∨ k = 6 ∨ k = 7 ∨ k = 8 ∨ k = 9 ∨ k = 10 ∨ k = 11 ∨ k = 12 ∨ k = 13 ∨ k = 14 ∨ k = 15 ∨ k = 16 := by omega
    rcases this with h | h | h | h | h | h | h | h | h | h | h | h | h | h | h | h | h
    all_goals
      subst h
      have hcnt := congrArg I64 hlen.symm
      have hlenH : Hid (xs.length = (ruleF _).1) := hlen
      clear hlen hk hlI
      have hsgH : Hid (sg = (ruleF _).2.2.2) := hsg
      clear hsg
      go_enter Tryz.func151, Tryz.ntmps151
      go_wp2_with (go_at_call 204; refine (s_count_any _ _).mono ?_; rintro _ w2 ⟨rfl, rfl⟩; rw [hcnt])
      clear hcnt
      go_loopw [5] (fun i wr => ∃ m : Nat, m ≤ xs.length ∧ i = .int .i64 (m : Int) ∧ (xs.take m).any (badS sg) = false ∧ Below w.heap.size w wr) (fun i _ => xs.length - (intOf i).toNat)
      case atStart => exact ⟨0, by omega, rfl, rfl, (by repeat' (first | exact Below.refl _ _ | exact Nat.le_refl _ | refine below_drewN ?_ _ | refine Below.alloc ?_ (by first | (simp; done) | (simp; omega)) _ | refine Below.setCell ?_ (by first | (simp; done) | (simp; omega)) _ | refine below_step ?_ (by assumption)))⟩
      case round =>
        obtain ⟨m, hm, rfl, hany, hwr⟩ := hrel
        by_cases hlt : m < xs.length
        · have hne : xs ≠ [] := by intro h; rw [h] at hlt; simp at hlt
          have hc := h2 m hlt
          have hlt' : (m : Int) < (xs.length : Int) := by omega
          have h0 : (0 : Int) ≤ (m : Int) := by omega
          have hc' : wr.cell? ⟨bv, ov + m, none⟩ = some (.float .f32 xs[m]) := by rw [lift hwr _ (by rw [hc]; rfl)]; exact hc
          have hbp := h1 hne
          subst hbp
          have hmem : xs[m] ∈ xs := List.getElem_mem _
          have hyes : Hid (badS sg xs[m] = true → xs.any (badS sg) = true) := fun h => List.any_eq_true.2 ⟨xs[m], hmem, h⟩
          have hno : Hid (badS sg xs[m] = false → (xs.take (m + 1)).any (badS sg) = false) := fun h => any_take_succ _ xs m hlt hany h
          clear h1 h2 hc hany hmem hne
          generalize xs[m] = v at *
          have hs := hsgH.out
          cases hfp : finP v
          · clear hs
            go_wp2_with (go_at_call 109; refine (s_fin2_any _ _).mono ?_; rintro _ w2 ⟨rfl, hb2⟩; rw [hfp])
            go_ret
            exact ⟨by rw [hyes.out (by simp [badS, hfp])]; simp, below_step hwr (by assumption)⟩
          · cases hlt0 : (FloatKind.f32.format.order v 0 == some .lt) <;> cases heq0 : (FloatKind.f32.format.order v 0 == some .eq)
            all_goals
              have hbad : Hid (badS sg v = signBad sg v) := by unfold Hid; simp only [badS, hfp, Bool.not_true, Bool.false_or]
              clear hs
              have hw3 : ∀ w2, Below wr.heap.size wr w2 → w2.cell? ⟨bv, ov + m, none⟩ = some (.float .f32 v) := fun w2 h => by rw [lift h _ (by rw [hc']; rfl)]; exact hc'
              go_wp2_with (go_at_call 109; refine (s_fin2_any _ _).mono ?_; rintro _ w2 ⟨rfl, hb2⟩; rw [hfp]; have hc2 := hw3 _ hb2)
              first
              | (go_ret; exact ⟨by rw [hyes.out (by rw [hbad.out, hsgH.out]; simp [signBad, ltk, lek, ord_r0, hlt0, heq0, ruleF, ruleT, kindOk])]; simp, below_step hwr (by assumption)⟩)
              | exact ⟨⟨m + 1, by omega, by simp, hno.out (by rw [hbad.out, hsgH.out]; simp [signBad, ltk, lek, ord_r0, hlt0, heq0, ruleF, ruleT, kindOk]), below_step hwr (by assumption)⟩, by simp [intOf]; omega⟩
        · obtain rfl : m = xs.length := by omega
          rw [List.take_length] at hany
          go_wp2_with fail
          go_ret
          exact ⟨by rw [hany, decide_eq_true hlenH.out]; rfl, hwr⟩
  · have hlI : (xs.length : Int) ≠ ((ruleF k).1 : Int) := by omega
    have hv : (decide (xs.length = (ruleF k).1) && !xs.any (badS sg)) = false := by simp [hlen]
    rw [hv]
    clear hv h1 h2
    go_enter Tryz.func151, Tryz.ntmps151
    go_wp2_with (go_at_call 204; refine (s_count_any _ _).mono ?_; rintro _ w2 ⟨rfl, rfl⟩)
    go_ret
    exact ⟨rfl, (by repeat' (first | exact Below.refl _ _ | exact Nat.le_refl _ | refine below_drewN ?_ _ | refine Below.alloc ?_ (by first | (simp; done) | (simp; omega)) _ | refine Below.setCell ?_ (by first | (simp; done) | (simp; omega)) _ | refine below_step ?_ (by assumption)))⟩
end Go.Proofs.YtdbpgblhnhdhoaaGreat
