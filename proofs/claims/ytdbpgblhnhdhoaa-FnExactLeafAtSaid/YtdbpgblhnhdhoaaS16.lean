/-
  Walks of the reference: IsInside.
-/
import Derived.Test.YtdbpgblhnhdhoaaS15
set_option linter.unusedVariables false
set_option linter.unusedSimpArgs false
namespace Go.Proofs.Ytdbpgblhnhdhoaa
open Go.RowKit Go.Fl

def atS (ns : List PN) (p : V) : Nat := (allS ns (runP ns p ns.length) ns.length).getD (ns.length - 1) 0

set_option maxRecDepth 100000 in
set_option maxHeartbeats 2000000 in
theorem s_at_any (ns : List PN) (hok : OkAll ns) (hl : 1 ≤ ns.length ∧ ns.length ≤ 16) (sb so nb no cap x y z : Nat) (w : World) (hsh : ShapeIn ns sb so nb no cap w) :
    Calls Try.prog 15 #[.pointer (some ⟨sb, so, none⟩), V3 x y z] w (Ret .f32 (atS ns (cn .f32 x, cn .f32 y, cn .f32 z)) w) := by
  have hsb : sb < w.heap.size := some_lt (a := ⟨sb, so, none⟩) (by rw [hsh.list]; rfl)
  have hr1 : (1 : Int) ≤ (ns.length : Int) := by omega
  have hr2 : (ns.length : Int) ≤ 16 := by omega
  have hr0 : (0 : Int) ≤ (ns.length : Int) - 1 := by omega
  have hr3 : ((ns.length : Int) - 1).toNat = ns.length - 1 := by omega
  go_enter Try.func15, Try.ntmps15
  go_wp2_with fail
  have W1b : Below w.heap.size w (w.alloc (.cells #[.float .f32 x, .float .f32 y, .float .f32 z] 34)) := (by repeat' (first | exact Below.refl _ _ | exact Nat.le_refl _ | refine below_drewN ?_ _ | refine Below.alloc ?_ (by first | (simp; done) | (simp; omega)) _ | refine Below.setCell ?_ (by first | (simp; done) | (simp; omega)) _ | refine below_step ?_ (by assumption)))

  have hsh1 := hsh.keep W1b
  generalize w.alloc (.cells #[.float .f32 x, .float .f32 y, .float .f32 z] 34) = W1 at *
  refine (s_all_any ns hok hl sb so nb no cap x y z W1 hsh1).mono ?_
  rintro _ w2 ⟨v, xs, rfl, hown, hxs, hb2⟩
  have W2b := below_step W1b hb2
  obtain ⟨g, cap2, rfl, -, -⟩ := hown.form (by omega)
  have hlen : xs.length = ns.length := by have := hown.1; simpa using this
  have hc := hown.cellAt (ns.length - 1) (by omega)
  rw [show (fl xs)[ns.length - 1]? = some (F1 (xs[ns.length - 1]'(by omega))) by simp [fl, List.getElem?_eq_getElem (show ns.length - 1 < xs.length by omega)]] at hc
  have hv : Hid (cn .f32 (xs[ns.length - 1]'(by omega)) = atS ns (cn .f32 x, cn .f32 y, cn .f32 z)) := by
    unfold Hid atS
    rw [← hxs, List.getD_eq_getElem?_getD, List.getElem?_map, List.getElem?_eq_getElem (show ns.length - 1 < xs.length by omega)]; rfl
  generalize xs[ns.length - 1]'(by omega) = r at hc hv
  clear hxs hlen hown hb2 hsh1 W1b hsh
  go_wp2_with fail
  go_ret
  exact ⟨r, rfl, hv.out, W2b⟩

set_option maxRecDepth 100000 in
set_option maxHeartbeats 4000000 in
theorem s_inside_any (ns : List PN) (hnum : ∀ n ∈ ns, n.nums.length < 10000000) (hvok : validS ns = true → OkAll ns) (nb no cap x y z : Nat) (bp : Option Addr) (w : World) (hbp : ns ≠ [] → bp = some ⟨nb, no, none⟩) (hsh : ∀ i (h : i < ns.length), NodeIn ns[i] nb (no + i * 4) w) (hlen : ns.length < 10000000) :
    Calls Try.prog 6 #[.agg #[.slice bp ns.length cap], V3 x y z] w (fun e w' => e = .returned (.bool (validS ns && ltk .f32 (atS ns (cn .f32 x, cn .f32 y, cn .f32 z)) 0)) ∧ Below w.heap.size w w') := by
  go_enter Try.func6, Try.ntmps6
  go_wp2_with fail
  have W1b : Below w.heap.size w ((w.alloc (.cells #[.slice bp ns.length cap] 32)).alloc (.cells #[.float .f32 x, .float .f32 y, .float .f32 z] 34)) := (by repeat' (first | exact Below.refl _ _ | exact Nat.le_refl _ | refine below_drewN ?_ _ | refine Below.alloc ?_ (by first | (simp; done) | (simp; omega)) _ | refine Below.setCell ?_ (by first | (simp; done) | (simp; omega)) _ | refine below_step ?_ (by assumption)))

  have hkept : Kept [(⟨w.heap.size, 0, none⟩, .slice bp ns.length cap), (⟨w.heap.size + 1, 0, none⟩, .float .f32 x), (⟨w.heap.size + 1, 1, none⟩, .float .f32 y), (⟨w.heap.size + 1, 2, none⟩, .float .f32 z)] [] ((w.alloc (.cells #[.slice bp ns.length cap] 32)).alloc (.cells #[.float .f32 x, .float .f32 y, .float .f32 z] 34)) := by
    simp only [Kept, List.forall_mem_append, List.forall_mem_cons, List.not_mem_nil, false_implies, implies_true, and_true, true_and]
    simp
  generalize (w.alloc (.cells #[.slice bp ns.length cap] 32)).alloc (.cells #[.float .f32 x, .float .f32 y, .float .f32 z] 34) = W1 at *
  have hK1 := hkept
  simp only [Kept, List.forall_mem_append, List.forall_mem_cons, List.not_mem_nil, false_implies, implies_true, and_true, true_and] at hK1
  have hv := s_is_any ns hnum w.heap.size 0 nb no cap bp W1 hK1.1 hbp (fun i h => (hsh i h).keep W1b) hlen
  refine hv.mono ?_
  rintro _ w2 ⟨rfl, hb2⟩
  have W2b := below_step W1b hb2
  have hkept2 := keep hkept hb2
  have hK := hkept2
  simp only [Kept, List.forall_mem_append, List.forall_mem_cons, List.not_mem_nil, false_implies, implies_true, and_true, true_and] at hK
  clear hv hkept hb2 W1b hK1
  cases hval : validS ns
  · go_wp2_with fail
    go_ret
    exact ⟨by rw [hval]; rfl, W2b⟩
  · have hl : 1 ≤ ns.length ∧ ns.length ≤ 16 := by
      simp only [validS, Bool.and_eq_true, decide_eq_true_eq] at hval
      exact hval.1
    have hok := hvok hval
    have hne : ns ≠ [] := by intro h; rw [h] at hl; simp at hl
    have hb := hbp hne
    subst hb
    have hat := s_at_any ns hok hl w.heap.size 0 nb no cap x y z w2 ⟨hK.1, fun i h => (hsh i h).keep W2b⟩
    clear hsh hbp
    go_wp2_with fail
    refine hat.mono ?_
    rintro _ w5 ⟨r, rfl, hr, hb5⟩
    go_wp2_with fail
    go_ret
    exact ⟨by rw [← hr, ltk, ord_r0, hval]; rfl, below_step W2b hb5⟩
end Go.Proofs.Ytdbpgblhnhdhoaa
