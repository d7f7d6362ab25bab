/-
  Walks: ambient of the program.
-/
import Derived.Test.YtdbpgblhnhdhoaaGreatX1
import Derived.Test.YtdbpgblhnhdhoaaGreatGF
set_option linter.unusedVariables false
set_option linter.unusedSimpArgs false
namespace Go.Proofs.YtdbpgblhnhdhoaaGreat
open Go.RowKit Go.Fl

def gek (k : FloatKind) (x y : Nat) : Bool := k.format.order x y == some .gt || k.format.order x y == some .eq
def kf (k : Nat) : Nat := cn .f32 (floatOfInt .f32 (k : Int))
def ambX (d f : Nat) : Nat := if gek .f32 (B .quo (B .sub f d) f) 0 then B .quo (B .sub f d) f else 0
def ambGo (D : Nat × Nat × Nat → Nat) (L : Nat → Nat) (p n : Nat × Nat × Nat) (st : Nat) : Nat → Nat → Nat → Nat
  | 0, _, s => s
  | m + 1, j, s => ambGo D L p n st m (j + 1) (B .add s (L (ambX (D (addV p (scaleV n (B .mul (kf j) st)))) (B .mul (kf j) st))))
def ambAll (D : Nat × Nat × Nat → Nat) (L : Nat → Nat) (p n : Nat × Nat × Nat) (st k : Nat) : Nat :=
  B .sub (cn .f32 1065353216) (B .quo (ambGo D L p n st k 1 0) (kf k))
def capF (x : Nat) : Nat := lesserF x (cn .f32 1065353216)

inductive PhiAm (ns : List PN) (f : Nat) : FuncId → Array Value → Value → Prop
  | scale (x y z a b c : Nat) (h1 : cn .f32 a = B .mul (cn .f32 x) (cn .f32 f)) (h2 : cn .f32 b = B .mul (cn .f32 y) (cn .f32 f)) (h3 : cn .f32 c = B .mul (cn .f32 z) (cn .f32 f)) : PhiAm ns f 81 #[V3 x y z, F1 f] (V3 a b c)
  | add (x y z x' y' z' a b c : Nat) (h1 : cn .f32 a = B .add (cn .f32 x) (cn .f32 x')) (h2 : cn .f32 b = B .add (cn .f32 y) (cn .f32 y')) (h3 : cn .f32 c = B .add (cn .f32 z) (cn .f32 z')) : PhiAm ns f 80 #[V3 x y z, V3 x' y' z'] (V3 a b c)
  | at_ (sa : Addr) (x y z r : Nat) (h : cn .f32 r = topF ns (cn .f32 x, cn .f32 y, cn .f32 z)) : PhiAm ns f 72 #[.pointer (some sa), V3 x y z] (F1 r)

set_option maxRecDepth 100000 in
set_option maxHeartbeats 4000000 in
theorem ambient_any (ns : List PN) (hok : OkAll ns) (hl : 1 ≤ ns.length ∧ ns.length ≤ 1000) (sb so nb no cap x y z nx ny nz st : Nat) (k : Nat) (hk : k ≤ 8) (w : World) (hsh : ShapeIn ns sb so nb no cap w) :
    Calls Tryz.prog 68 #[.pointer (some ⟨sb, so, none⟩), V3 x y z, V3 nx ny nz, F1 st, .int .i64 (k : Int)] w (Ret .f32 (ambAll (topF ns) capF (cn .f32 x, cn .f32 y, cn .f32 z) (cn .f32 nx, cn .f32 ny, cn .f32 nz) (cn .f32 st) k) w) := by
  obtain ⟨R, hR⟩ : ∃ R, Hid (R = ambGo (topF ns) capF (cn .f32 x, cn .f32 y, cn .f32 z) (cn .f32 nx, cn .f32 ny, cn .f32 nz) (cn .f32 st) k 1 0) := ⟨_, rfl⟩
  rw [ambAll, ← hR.out]
  have hsb : sb < w.heap.size := some_lt (a := ⟨sb, so, none⟩) (by rw [hsh.list]; rfl)
  have hat : ∀ (x y z : Nat) (w : World), ShapeIn ns sb so nb no cap w → Calls Tryz.prog 72 #[.pointer (some ⟨sb, so, none⟩), V3 x y z] w (Ret .f32 (topF ns (cn .f32 x, cn .f32 y, cn .f32 z)) w) := fun x y z w h => at_any ns hok hl sb so nb no cap x y z w h
  go_enter Tryz.func68, Tryz.ntmps68
  go_wp2_with fail
  have W1b : Below w.heap.size w ((w.alloc (.cells #[.float .f32 x, .float .f32 y, .float .f32 z] 35)).alloc (.cells #[.float .f32 nx, .float .f32 ny, .float .f32 nz] 35)) := (by repeat' (first | exact Below.refl _ _ | exact Nat.le_refl _ | refine below_drewN ?_ _ | refine Below.alloc ?_ (by first | (simp; done) | (simp; omega)) _ | refine Below.setCell ?_ (by first | (simp; done) | (simp; omega)) _ | refine below_step ?_ (by assumption)))

  have hkept : Kept [(⟨w.heap.size, 0, none⟩, .float .f32 x), (⟨w.heap.size, 1, none⟩, .float .f32 y), (⟨w.heap.size, 2, none⟩, .float .f32 z), (⟨w.heap.size + 1, 0, none⟩, .float .f32 nx), (⟨w.heap.size + 1, 1, none⟩, .float .f32 ny), (⟨w.heap.size + 1, 2, none⟩, .float .f32 nz)] [] ((w.alloc (.cells #[.float .f32 x, .float .f32 y, .float .f32 z] 35)).alloc (.cells #[.float .f32 nx, .float .f32 ny, .float .f32 nz] 35)) := by
    simp only [Kept, List.forall_mem_append, List.forall_mem_cons, List.not_mem_nil, false_implies, implies_true, and_true, true_and]
    simp
  generalize (w.alloc (.cells #[.float .f32 x, .float .f32 y, .float .f32 z] 35)).alloc (.cells #[.float .f32 nx, .float .f32 ny, .float .f32 nz] 35) = W1 at *
  have hsh1 := hsh.keep W1b
  clear hsh hok
  go_loopw [11, 12] (fun s i wr => ∃ (j sm : Nat), 1 ≤ j ∧ j ≤ k + 1 ∧ i = .int .i64 (j : Int) ∧ s = F1 sm ∧ Hid (R = ambGo (topF ns) capF (cn .f32 x, cn .f32 y, cn .f32 z) (cn .f32 nx, cn .f32 ny, cn .f32 nz) (cn .f32 st) (k + 1 - j) j (cn .f32 sm)) ∧ Below W1.heap.size W1 wr) (fun _ i _ => 10 - (intOf i).toNat)
  case atStart => exact ⟨1, 0, by omega, by omega, rfl, rfl, by unfold Hid; rw [hR.out, cn_zero]; rfl, Below.refl _ _⟩
  case round =>
    obtain ⟨j, sm, hj1, hjk, rfl, rfl, hgo, Wb⟩ := hrel
    have hkr := keep hkept Wb
    have hshr := hsh1.keep Wb
    clear hkept hsh1 hR
    by_cases hle : j ≤ k
    · have hle' : (j : Int) ≤ (k : Int) := by omega
      have hj9 : (j : Int) ≤ 8 := by omega
      have hgo2 : Hid (R = ambGo (topF ns) capF (cn .f32 x, cn .f32 y, cn .f32 z) (cn .f32 nx, cn .f32 ny, cn .f32 nz) (cn .f32 st) (k - j) (j + 1) (B .add (cn .f32 sm) (capF (ambX (topF ns (addV (cn .f32 x, cn .f32 y, cn .f32 z) (scaleV (cn .f32 nx, cn .f32 ny, cn .f32 nz) (B .mul (kf j) (cn .f32 st))))) (B .mul (kf j) (cn .f32 st)))))) := by
        have := hgo.out
        rw [show k + 1 - j = (k - j) + 1 by omega, ambGo] at this
        exact this
      clear hgo
      go_upto_region 6 with (refine wp_bin rfl _ _ _ _ _ rfl _ _ _ rfl rfl rfl ?_; intro f1 n1 hf1)
      have hb1 : Below wr.heap.size wr (wr.drewN n1) := below_drewN (Below.refl _ _) n1
      have hkept := keep hkr hb1
      have hsh2 := hshr.keep hb1
      have W2b := below_step Wb hb1
      clear hkr hshr Wb hb1
      generalize wr.drewN n1 = w1 at *
      refine Qr.wp_below_all (by kernel_rfl) (by kernel_rfl) (PhiAm ns f1) ?_
      repeat (first | (refine Qr.walk_plain rfl fun K hK => ?_; apply Qr.one_det; (focus (intro w' hw'; have HK := keep hkept hw'; simp only [Kept, List.forall_mem_append, List.forall_mem_cons, List.not_mem_nil, false_implies, implies_true, and_true, true_and] at HK; go_simp; first | done | rfl)); go_simp; refine hK _ ?_; clear hK K) | (refine Qr.walk_plain rfl fun K hK => ?_; apply Qr.one_call; (focus (intro w' hw'; go_simp; first | done | exact ⟨rfl, rfl⟩)); (focus (intro w' hw';  go_at_call 81; refine (scale_any _ _ _ _ _).mono ?_; rintro _ w3 ⟨r1, r2, r3, rfl, hr1, hr2, hr3, hb1⟩ ; exact ⟨_, rfl, by constructor <;> assumption, hw'.trans (by exact Below.mono (by assumption) hw'.size), by assumption⟩)); intro v hv; cases hv; go_simp; refine hK _ ?_; clear hK K) | (refine Qr.walk_plain rfl fun K hK => ?_; apply Qr.one_call; (focus (intro w' hw'; go_simp; first | done | exact ⟨rfl, rfl⟩)); (focus (intro w' hw';  go_at_call 80; refine (add_any _ _ _ _ _ _ _).mono ?_; rintro _ w3 ⟨r1, r2, r3, rfl, hr1, hr2, hr3, hb1⟩ ; exact ⟨_, rfl, by constructor <;> assumption, hw'.trans (by exact Below.mono (by assumption) hw'.size), by assumption⟩)); intro v hv; cases hv; go_simp; refine hK _ ?_; clear hK K) | (refine Qr.walk_plain rfl fun K hK => ?_; apply Qr.one_call; (focus (intro w' hw'; go_simp; first | done | exact ⟨rfl, rfl⟩)); (focus (intro w' hw';  go_at_call 72; refine (hat _ _ _ _ (hsh2.keep hw')).mono ?_; rintro _ w3 ⟨r1, rfl, hr1, hb1⟩ ; exact ⟨_, rfl, by constructor <;> assumption, hw'.trans (by exact Below.mono (by assumption) hw'.size), by assumption⟩)); intro v hv; cases hv; go_simp; refine hK _ ?_; clear hK K))
      rename_i a1 b1 c1 g1 g2 g3 a2 b2 c2 g4 g5 g6 d1 hd1
      refine Qr.walk_nil fun w5 hw5 => ?_
      have hfin : Hid (R = ambGo (topF ns) capF (cn .f32 x, cn .f32 y, cn .f32 z) (cn .f32 nx, cn .f32 ny, cn .f32 nz) (cn .f32 st) (k - j) (j + 1) (B .add (cn .f32 sm) (capF (ambX (cn .f32 d1) (cn .f32 f1))))) := by
        unfold Hid
        rw [hgo2.out, hd1, g4, g5, g6, g1, g2, g3, hf1]
        rfl
      clear hgo2 hd1 g4 g5 g6 g1 g2 g3 hf1
      have W5b := below_step W2b hw5
      clear hkept hw5 W2b hsh2
      go_wp2_with (first | (go_at_call 84; refine (lesser_any _ _ _).mono ?_; rintro _ w2 ⟨r1, rfl, hr1, hb1⟩; have HL := lift hb1; have HF := liftF hb1) | (refine wp_bin rfl _ _ _ _ _ rfl _ _ _ rfl rfl rfl ?_; intro r n hr))
      all_goals
        rename_i rs ms hrs rq mq hrq hb
        have e1 : B .sub (cn .f32 f1) (cn .f32 d1) = cn .f32 rs := hrs.symm
        have e2 : B .quo (cn .f32 rs) (cn .f32 f1) = cn .f32 rq := hrq.symm
      · have hg : gek .f32 (cn .f32 rq) 0 = false := by unfold gek; rw [ord_r0]; simpa using hb
        have hx : ambX (cn .f32 d1) (cn .f32 f1) = cn .f32 0 := by unfold ambX; rw [e1, e2, hg, cn_zero]; rfl
        exact ⟨⟨j + 1, r, by omega, by omega, rfl, rfl, by unfold Hid; rw [hfin.out, hx, hr, hr1, Nat.add_sub_add_right]; rfl, below_drewN (below_step (below_drewN W5b _) hb1) _⟩, by simp [intOf]; omega⟩
      · have hg : gek .f32 (cn .f32 rq) 0 = true := by unfold gek; rw [ord_r0]; simpa using hb
        have hx : ambX (cn .f32 d1) (cn .f32 f1) = cn .f32 rq := by unfold ambX; rw [e1, e2, hg]; rfl
        exact ⟨⟨j + 1, r, by omega, by omega, rfl, rfl, by unfold Hid; rw [hfin.out, hx, hr, hr1, Nat.add_sub_add_right]; rfl, below_drewN (below_step (below_drewN W5b _) hb1) _⟩, by simp [intOf]; omega⟩
    · have hle' : ¬ (j : Int) ≤ (k : Int) := by omega
      obtain rfl : j = k + 1 := by omega
      have hRs : Hid (R = cn .f32 sm) := by have := hgo.out; rwa [Nat.sub_self, ambGo] at this
      clear hgo
      go_wp2_with ((refine wp_bin rfl _ _ _ _ _ rfl _ _ _ rfl rfl rfl ?_; intro r n hr))
      go_ret
      exact ⟨_, rfl, by rw [hRs.out]; simp only [*]; rfl, below_step W1b (by exact below_drewN Wb _)⟩
end Go.Proofs.YtdbpgblhnhdhoaaGreat
