/-
  Walks: slopes, of the program and of the reference.
-/
import Derived.Test.YtdbpgblhnhdhoaaGreatY6
set_option linter.unusedVariables false
set_option linter.unusedSimpArgs false
namespace Go.Proofs.YtdbpgblhnhdhoaaGreat
open Go.RowKit Go.Fl

def facF (ns : List PN) : Nat := (facs ns ns.length).getD (ns.length - 1) 0
def slopeF (ns : List PN) : Nat := if gtk .f32 (facF ns) 1065353216 || eqk .f32 (facF ns) 1065353216 then facF ns else 1065353216

theorem slope_if {ns : List PN} {r : Nat} {b : Bool} (hr : cn .f32 r = facF ns) (h : ((FloatKind.f32.format.order r 1065353216 == some .gt) || (FloatKind.f32.format.order r 1065353216 == some .eq)) = b) : slopeF ns = if b then cn .f32 r else 1065353216 := by
  unfold slopeF gtk eqk
  rw [← hr, ord_c .f32 r cn_one, h]

set_option maxRecDepth 100000 in
set_option maxHeartbeats 1000000 in
theorem slope_any (ns : List PN) (hok : OkAll ns) (hl : 1 ≤ ns.length ∧ ns.length ≤ 16) (sb so nb no cap : Nat) (w : World) (hsh : ShapeIn ns sb so nb no cap w) :
    Calls Tryz.prog 130 #[.pointer (some ⟨sb, so, none⟩)] w (Ret .f32 (slopeF ns) w) := by
  have hf : Calls Tryz.prog 169 #[.pointer (some ⟨sb, so, none⟩)] w (Ret .f32 (facF ns) w) := factor_any ns hok hl sb so nb no cap w hsh
  clear hsh hok
  go_enter Tryz.func130, Tryz.ntmps130
  go_upto_region 2 with (go_at_call 169; refine hf.mono ?_; rintro _ w2 ⟨r, rfl, hr, hb1⟩)
  cases hb : ((FloatKind.f32.format.order r 1065353216 == some .gt) || (FloatKind.f32.format.order r 1065353216 == some .eq))
  · have hs := Lib.hid (slope_if hr hb)
    go_wp2_with fail
    go_ret
    exact ⟨_, rfl, by rw [hs.out, cn_one]; rfl, hb1⟩
  · have hs := Lib.hid (slope_if hr hb)
    go_wp2_with fail
    go_ret
    exact ⟨_, rfl, by rw [hs.out]; rfl, hb1⟩

set_option maxRecDepth 100000 in
set_option maxHeartbeats 1000000 in
theorem s_factorof_any (ns : List PN) (hv : validS ns = true) (hnum : ∀ n ∈ ns, n.nums.length < 10000000) (hok : OkAll ns) (hl : 1 ≤ ns.length ∧ ns.length ≤ 16) (nb no cap : Nat) (w : World) (hsh : ∀ i (h : i < ns.length), NodeIn ns[i] nb (no + i * 4) w) :
    Calls Tryz.prog 170 #[.agg #[.slice (some ⟨nb, no, none⟩) ns.length cap]] w (fun e w' => ∃ r, e = .returned (.tuple #[F1 r, .bool true]) ∧ cn .f32 r = facF ns ∧ Below w.heap.size w w') := by
  go_enter Tryz.func170, Tryz.ntmps170
  go_wp2_with fail
  have W1b : Below w.heap.size w (w.alloc (.cells #[.slice (some ⟨nb, no, none⟩) ns.length cap] 33)) := (by repeat' (first | exact Below.refl _ _ | exact Nat.le_refl _ | refine below_drewN ?_ _ | refine Below.alloc ?_ (by first | (simp; done) | (simp; omega)) _ | refine Below.setCell ?_ (by first | (simp; done) | (simp; omega)) _ | refine below_step ?_ (by assumption)))
  
  have hkept : Kept [(⟨w.heap.size, 0, none⟩, .slice (some ⟨nb, no, none⟩) ns.length cap)] [] (w.alloc (.cells #[.slice (some ⟨nb, no, none⟩) ns.length cap] 33)) := by
    simp only [Kept, List.forall_mem_append, List.forall_mem_cons, List.not_mem_nil, false_implies, implies_true, and_true, true_and]; (first | (go_simp; done) | (simp [World.cell?, World.frozen?, World.alloc, Array.getElem?_push]; done))
  generalize w.alloc (.cells #[.slice (some ⟨nb, no, none⟩) ns.length cap] 33) = W1 at *
  have hK := hkept; simp only [Kept, List.forall_mem_append, List.forall_mem_cons, List.not_mem_nil, false_implies, implies_true, and_true, true_and] at hK
  have hsh1 : ∀ i (h : i < ns.length), NodeIn ns[i] nb (no + i * 4) W1 := fun i h => (hsh i h).keep W1b
  have hv1 := s_is_any ns hnum w.heap.size 0 nb no cap (some ⟨nb, no, none⟩) W1 hK (fun _ => rfl) hsh1 (by omega)
  rw [hv] at hv1
  refine hv1.mono ?_
  rintro _ w2 ⟨rfl, hb1⟩
  have W2b := below_step W1b hb1
  have hkept := keepT hkept hb1 rfl; clear hK; have hK := hkept; simp only [Kept, List.forall_mem_append, List.forall_mem_cons, List.not_mem_nil, false_implies, implies_true, and_true, true_and] at hK
  have hf : Calls Tryz.prog 211 #[.pointer (some ⟨w.heap.size, 0, none⟩)] w2 (Ret .f32 (facF ns) w2) := s_factor_any ns hok hl w.heap.size 0 nb no cap w2 ⟨hK, fun i h => (hsh i h).keep W2b⟩
  clear hsh hsh1 hnum hok hv1
  go_wp2_with (go_at_call 211; refine hf.mono ?_; rintro _ w3 ⟨r, rfl, hr, hb3⟩)
  go_ret2
  exact ⟨r, rfl, hr, below_step W2b hb3⟩

set_option maxRecDepth 100000 in
set_option maxHeartbeats 1000000 in
theorem s_slope_any (ns : List PN) (hv : validS ns = true) (hnum : ∀ n ∈ ns, n.nums.length < 10000000) (hok : OkAll ns) (hl : 1 ≤ ns.length ∧ ns.length ≤ 16) (sb so nb no cap : Nat) (w : World) (hsh : ShapeIn ns sb so nb no cap w) :
    Calls Tryz.prog 134 #[.pointer (some ⟨sb, so, none⟩)] w (Ret .f32 (slopeF ns) w) := by
  have hf := s_factorof_any ns hv hnum hok hl nb no cap w hsh.node
  have hK := hsh.list
  clear hsh hok hnum hv
  go_enter Tryz.func134, Tryz.ntmps134
  go_upto_region 2 with (go_at_call 170; refine hf.mono ?_; rintro _ w2 ⟨r, rfl, hr, hb1⟩)
  cases hb : ((FloatKind.f32.format.order r 1065353216 == some .gt) || (FloatKind.f32.format.order r 1065353216 == some .eq))
  · have hs := Lib.hid (slope_if hr hb)
    go_wp2_with fail
    go_ret
    exact ⟨_, rfl, by rw [hs.out, cn_one]; rfl, hb1⟩
  · have hs := Lib.hid (slope_if hr hb)
    go_wp2_with fail
    go_ret
    exact ⟨_, rfl, by rw [hs.out]; rfl, hb1⟩
end Go.Proofs.YtdbpgblhnhdhoaaGreat
