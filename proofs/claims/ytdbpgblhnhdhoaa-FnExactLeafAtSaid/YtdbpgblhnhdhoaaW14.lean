/-
  Walks: at.
-/
import Derived.Test.YtdbpgblhnhdhoaaW13
set_option linter.unusedVariables false
set_option linter.unusedSimpArgs false
namespace Go.Proofs.Ytdbpgblhnhdhoaa
open Go.RowKit Go.Fl

def topF (ns : List PN) (p : Nat × Nat × Nat) : Nat := distF ns ns.length (ns.length - 1) p

inductive PhiT (ns : List PN) : FuncId → Array Value → Value → Prop
  | last (sa : Addr) : PhiT ns 22 #[.pointer (some sa)] (.int .i64 ((ns.length : Int) - 1))
  | dist (sa : Addr) (i : Int) (x y z r : Nat) (h : cn .f32 r = distF ns ns.length i.toNat (cn .f32 x, cn .f32 y, cn .f32 z)) : PhiT ns 25 #[.pointer (some sa), .int .i64 i, V3 x y z] (F1 r)

theorem last_len {n : Nat} (h : 1 ≤ n ∧ n ≤ 1000) : wrap64 ((n : Int) - 1) = (n : Int) - 1 := by
  unfold wrap64; omega

set_option maxRecDepth 100000 in
set_option maxHeartbeats 2000000 in
theorem at_any (ns : List PN) (hok : OkAll ns) (hl : 1 ≤ ns.length ∧ ns.length ≤ 1000) (sb so nb no cap x y z : Nat) (w : World) (hsh : ShapeIn ns sb so nb no cap w) :
    Calls Try.prog 18 #[.pointer (some ⟨sb, so, none⟩), V3 x y z] w (Ret .f32 (topF ns (cn .f32 x, cn .f32 y, cn .f32 z)) w) := by
  have hsb : sb < w.heap.size := some_lt (a := ⟨sb, so, none⟩) (by rw [hsh.list]; rfl)
  have hlast : ∀ w', ShapeIn ns sb so nb no cap w' → Calls Try.prog 22 #[.pointer (some ⟨sb, so, none⟩)] w' (fun e w'' => e = .returned (.int .i64 ((ns.length : Int) - 1)) ∧ Below w'.heap.size w' w'') := fun w' h =>
    (last_any sb so _ _ _ w' h.list).mono (by rintro _ _ ⟨rfl, rfl⟩; exact ⟨by rw [last_len hl], Below.refl _ _⟩)
  have hdist : ∀ (x y z : Nat) (w : World), ShapeIn ns sb so nb no cap w → Calls Try.prog 25 #[.pointer (some ⟨sb, so, none⟩), .int .i64 ((ns.length : Int) - 1), V3 x y z] w (Ret .f32 (distF ns ns.length ((ns.length : Int) - 1).toNat (cn .f32 x, cn .f32 y, cn .f32 z)) w) := fun x y z w h => by
    have := dist_any ns hok sb so nb no cap ns.length (ns.length - 1) x y z w (by omega) (by omega) h
    have e : (((ns.length - 1 : Nat) : Int)) = (ns.length : Int) - 1 := by omega
    rw [e] at this
    have e2 : ((ns.length : Int) - 1).toNat = ns.length - 1 := by omega
    rw [e2]
    exact this
  go_enter Try.func18, Try.ntmps18
  go_wp2_with fail
  have W1b : Below w.heap.size w (w.alloc (.cells #[.float .f32 x, .float .f32 y, .float .f32 z] 34)) := (by repeat' (first | exact Below.refl _ _ | exact Nat.le_refl _ | refine below_drewN ?_ _ | refine Below.alloc ?_ (by first | (simp; done) | (simp; omega)) _ | refine Below.setCell ?_ (by first | (simp; done) | (simp; omega)) _ | refine below_step ?_ (by assumption)))

  have hkept : Kept [(⟨w.heap.size, 0, none⟩, .float .f32 x), (⟨w.heap.size, 1, none⟩, .float .f32 y), (⟨w.heap.size, 2, none⟩, .float .f32 z)] [] (w.alloc (.cells #[.float .f32 x, .float .f32 y, .float .f32 z] 34)) := by
    simp only [Kept, List.forall_mem_append, List.forall_mem_cons, List.not_mem_nil, false_implies, implies_true, and_true, true_and]
    simp
  generalize w.alloc (.cells #[.float .f32 x, .float .f32 y, .float .f32 z] 34) = W1 at W1b hkept ⊢
  have hsh1 := hsh.keep W1b
  refine Qr.wp_below_all (by kernel_rfl) (by kernel_rfl) (PhiT ns) ?_
  repeat (first | (refine Qr.walk_plain rfl fun K hK => ?_; apply Qr.one_det; (focus (intro w' hw'; have HK := keep hkept hw'; simp only [Kept, List.forall_mem_append, List.forall_mem_cons, List.not_mem_nil, false_implies, implies_true, and_true, true_and] at HK; go_simp; first | done | rfl)); go_simp; refine hK _ ?_; clear hK K) | (refine Qr.walk_plain rfl fun K hK => ?_; apply Qr.one_call; (focus (intro w' hw'; go_simp; first | done | exact ⟨rfl, rfl⟩)); (focus (intro w' hw';  go_at_call 22; refine (hlast _ (hsh1.keep hw')).mono ?_; rintro _ w3 ⟨rfl, hb1⟩ ; exact ⟨_, rfl, by constructor <;> assumption, hw'.trans (by exact Below.mono (by assumption) hw'.size), by assumption⟩)); intro v hv; cases hv; go_simp; refine hK _ ?_; clear hK K) | (refine Qr.walk_plain rfl fun K hK => ?_; apply Qr.one_call; (focus (intro w' hw'; go_simp; first | done | exact ⟨rfl, rfl⟩)); (focus (intro w' hw';  go_at_call 25; refine (hdist _ _ _ _ (hsh1.keep hw')).mono ?_; rintro _ w3 ⟨r1, rfl, hr1, hb1⟩ ; exact ⟨_, rfl, by constructor <;> assumption, hw'.trans (by exact Below.mono (by assumption) hw'.size), by assumption⟩)); intro v hv; cases hv; go_simp; refine hK _ ?_; clear hK K))
  rename_i r e
  refine Qr.walk_nil fun w5 hw5 => ?_
  go_wp2_with fail
  go_ret
  have e2 : ((ns.length : Int) - 1).toNat = ns.length - 1 := by omega
  exact ⟨r, rfl, by rw [e, e2]; rfl, below_step W1b hw5⟩
end Go.Proofs.Ytdbpgblhnhdhoaa
