/-
  Walk of the statement: AmbientAt.
-/
import Derived.Test.YtdbpgblhnhdhoaaGreatX5
import Derived.Test.YtdbpgblhnhdhoaaGreatGR
set_option linter.unusedVariables false
set_option linter.unusedSimpArgs false
namespace Go.Proofs.YtdbpgblhnhdhoaaGreat
open Go.RowKit Go.Fl

theorem wid_eq {u v a b R : Nat} (h1 : cn .f64 u = wid (cn .f32 a)) (h2 : cn .f64 v = wid (cn .f32 b)) (ha : cn .f32 a = R) (hb : cn .f32 b = R) : cn .f64 u = cn .f64 v := by rw [h1, h2, ha, hb]

inductive PhiAt (RV : Nat) (bv : Bool) : FuncId → Array Value → Value → Prop
  | vec (x y z : Nat) : PhiAt RV bv 16 #[V3 x y z] (V3 x y z)
  | amb (args : Array Value) (r : Nat) (h : cn .f32 r = RV) : PhiAt RV bv 17 args (.tuple #[.float .f32 r, .bool bv])

set_option maxRecDepth 100000 in
set_option maxHeartbeats 16000000 in
theorem law_amb (ns : List PN) (bp : Option Addr) (nb no cap x y z nx ny nz st : Nat) (c : Int) (w : World) (hns : NodesIn ns bp nb no w) :
    Calls Tryz.prog 3 #[.agg #[.slice bp ns.length cap], V3 x y z, V3 nx ny nz, F1 st, .int .i64 c] w (fun e w' => e = .returned (.bool true) ∧ Below w.heap.size w w') := by
  have hsz : ∀ w', Below w.heap.size w w' → Calls Tryz.prog 13 #[.agg #[.slice bp ns.length cap], .int .i64 1048576] w' (fun e w'' => e = .returned (.int .i64 (szS ns 1048576)) ∧ Below w'.heap.size w' w'') :=
    fun w' hb => sz_shape ns bp nb no cap 1048576 w' (hns.keep hb) (by omega)
  by_cases hneg : szS ns 1048576 < 0
  · have hm := szS_neg hneg
    rw [hm] at hsz
    clear hm hneg hns
    go_enter Tryz.func3, Tryz.ntmps3
    go_wp2_with (go_at_call 13; refine (hsz _ (by repeat' (first | exact Below.refl _ _ | exact Nat.le_refl _ | refine below_drewN ?_ _ | refine Below.alloc ?_ (by first | (simp; done) | (simp; omega)) _ | refine Below.setCell ?_ (by first | (simp; done) | (simp; omega)) _ | refine below_step ?_ (by assumption)))).mono ?_; rintro _ w2 ⟨rfl, hb2⟩)
    go_ret
    exact ⟨rfl, (by repeat' (first | exact Below.refl _ _ | exact Nat.le_refl _ | refine below_drewN ?_ _ | refine Below.alloc ?_ (by first | (simp; done) | (simp; omega)) _ | refine Below.setCell ?_ (by first | (simp; done) | (simp; omega)) _ | refine below_step ?_ (by assumption)))⟩
  · obtain ⟨hsm, hnsm⟩ := szS_small (by omega) (by omega) hneg
    have hpos : 0 ≤ szS ns 1048576 := by omega
    clear hneg
    generalize szS ns 1048576 = sz at *
    have hto : ∀ w', Below w.heap.size w w' → Calls Tryz.prog 15 #[.agg #[.slice bp ns.length cap]] w' (RetSh ns w') := fun w' hb => to_shape ns hsm hnsm bp nb no cap w' (hns.keep hb)
    have hnum : ∀ n ∈ ns, n.nums.length < 10000000 := fun n hn => by have := hnsm n hn; omega
    have hl7 : ns.length < 10000000 := by omega
    obtain ⟨bv, hbv⟩ : ∃ bv, bv = ambOk (validF ns) (cn .f32 st) c := ⟨_, rfl⟩
    obtain ⟨RV, hR⟩ : ∃ RV, RV = (if ambOk (validF ns) (cn .f32 st) c then ambAll (topF ns) capF (cn .f32 x, cn .f32 y, cn .f32 z) (cn .f32 nx, cn .f32 ny, cn .f32 nz) (cn .f32 st) c.toNat else 0) := ⟨_, rfl⟩
    have hspec : ∀ G (W w' : World), (∀ i (h : i < ns.length), NodeNew ns[i] G (0 + i * 4) W) → Below W.heap.size W w' → Calls Tryz.prog 14 #[.agg #[.slice (some ⟨G, 0, none⟩) ns.length ns.length], V3 x y z, V3 nx ny nz, F1 st, .int .i64 c] w' (fun e w'' => (∃ r, e = .returned (.tuple #[.float .f32 r, .bool bv]) ∧ Hid (cn .f32 r = RV)) ∧ Below w'.heap.size w' w'') := fun G W w' hn hb => by
      refine (s_ambientat_any ns hnum (fun h => (valid_ok (by rw [← valid_same]; exact h)).2) G 0 ns.length x y z nx ny nz st c (some ⟨G, 0, none⟩) w' (fun _ => rfl) (fun i h => ((hn i h).keep hb).into) hl7).mono ?_
      rintro e w'' ⟨r, h1, h2, h3⟩
      exact ⟨⟨r, by rw [h1, hbv, valid_same], by unfold Hid; rw [h2, amb_same, hR]⟩, h3⟩
    have himpl : ∀ G (W w' : World), (∀ i (h : i < ns.length), NodeNew ns[i] G (0 + i * 4) W) → Below W.heap.size W w' → Calls Tryz.prog 17 #[.agg #[.slice (some ⟨G, 0, none⟩) ns.length ns.length], V3 x y z, V3 nx ny nz, F1 st, .int .i64 c] w' (fun e w'' => (∃ r, e = .returned (.tuple #[.float .f32 r, .bool bv]) ∧ Hid (cn .f32 r = RV)) ∧ Below w'.heap.size w' w'') := fun G W w' hn hb => by
      refine (ambientat_any ns hnum G 0 ns.length x y z nx ny nz st c (some ⟨G, 0, none⟩) w' (fun _ => rfl) (fun i h => ((hn i h).keep hb).into) hl7).mono ?_
      rintro e w'' ⟨r, h1, h2, h3⟩
      exact ⟨⟨r, by rw [h1, hbv], by unfold Hid; rw [h2, hR]⟩, h3⟩
    clear hR hbv
    have heq : ∀ G H (W1 W2 w' : World), (∀ i (h : i < ns.length), NodeNew ns[i] G (0 + i * 4) W1) → Below W1.heap.size W1 w' → (∀ i (h : i < ns.length), NodeNew ns[i] H (0 + i * 4) W2) → Below W2.heap.size W2 w' → Calls Tryz.prog 19 #[.agg #[.slice (some ⟨G, 0, none⟩) ns.length ns.length], .agg #[.slice (some ⟨H, 0, none⟩) ns.length ns.length]] w' (fun e w'' => e = .returned (.bool true) ∧ Below w'.heap.size w' w'') :=
      fun G H W1 W2 w' h1 hb1 h2 hb2 => eq_shape ns hsm hnsm G H _ _ w' (fun i h => (h1 i h).keep hb1) (fun i h => (h2 i h).keep hb2)
    clear hnsm hnum hns
    go_enter Tryz.func3, Tryz.ntmps3
    go_wp2_with fail
    have Wb : Below w.heap.size w (((w.alloc (.cells #[.slice bp ns.length cap] 24)).alloc (.cells #[.float .f32 x, .float .f32 y, .float .f32 z] 27)).alloc (.cells #[.float .f32 nx, .float .f32 ny, .float .f32 nz] 27)) := (by repeat' (first | exact Below.refl _ _ | exact Nat.le_refl _ | refine below_drewN ?_ _ | refine Below.alloc ?_ (by first | (simp; done) | (simp; omega)) _ | refine Below.setCell ?_ (by first | (simp; done) | (simp; omega)) _ | refine below_step ?_ (by assumption)))

    have hkept : Kept [(⟨w.heap.size, 0, none⟩, .slice bp ns.length cap), (⟨w.heap.size + 1, 0, none⟩, .float .f32 x), (⟨w.heap.size + 1, 1, none⟩, .float .f32 y), (⟨w.heap.size + 1, 2, none⟩, .float .f32 z), (⟨w.heap.size + 1 + 1, 0, none⟩, .float .f32 nx), (⟨w.heap.size + 1 + 1, 1, none⟩, .float .f32 ny), (⟨w.heap.size + 1 + 1, 2, none⟩, .float .f32 nz)] [] (((w.alloc (.cells #[.slice bp ns.length cap] 24)).alloc (.cells #[.float .f32 x, .float .f32 y, .float .f32 z] 27)).alloc (.cells #[.float .f32 nx, .float .f32 ny, .float .f32 nz] 27)) := by
      simp only [Kept, List.forall_mem_append, List.forall_mem_cons, List.not_mem_nil, false_implies, implies_true, and_true, true_and]; (first | (go_simp; done) | (simp [World.cell?, World.frozen?, World.alloc, Array.getElem?_push]; done))
    generalize ((w.alloc (.cells #[.slice bp ns.length cap] 24)).alloc (.cells #[.float .f32 x, .float .f32 y, .float .f32 z] 27)).alloc (.cells #[.float .f32 nx, .float .f32 ny, .float .f32 nz] 27) = W1 at *
    refine (hsz _ Wb).mono ?_
    rintro _ w2 ⟨rfl, hb2⟩
    have W2b := below_step Wb hb2
    have hkept := keep hkept hb2
    clear hb2 Wb hsz
    go_upto_region 5 with fail
    go_cut [12, 13] from 22 to 33 (fun s6 s7 wx => (∃ r, s6 = .float .f32 r ∧ Hid (cn .f32 r = RV)) ∧ s7 = .bool bv ∧ Below w2.heap.size w2 wx)
    case first =>
      have hK := hkept
      simp only [Kept, List.forall_mem_append, List.forall_mem_cons, List.not_mem_nil, false_implies, implies_true, and_true, true_and] at hK
      go_region_with (first
        | (go_at_call 15; (refine (hto _ ?hs1).mono ?_; case hs1 => exact below_step W2b (by repeat' (first | exact Below.refl _ _ | exact Nat.le_refl _ | refine Below.drew ?_ | refine below_drewN ?_ _ | refine Below.alloc ?_ (by first | (simp; done) | (simp; omega)) _ | refine Below.setCell ?_ (by first | (simp; done) | (simp; omega)) _ | refine below_step ?_ (by assumption)))); rintro _ wA ⟨G, rfl, hnew, hG, hb1⟩; have hkept := keepS hkept hb1 rfl; clear hK; have hK := hkept; simp only [Kept, List.forall_mem_append, List.forall_mem_cons, List.not_mem_nil, false_implies, implies_true, and_true, true_and] at hK)
        | (go_at_call 16; refine (to_vector _ _ _ _).mono ?_; rintro _ wB ⟨rfl, hb1⟩; have hkept := keepS hkept hb1 rfl; clear hK; have hK := hkept; simp only [Kept, List.forall_mem_append, List.forall_mem_cons, List.not_mem_nil, false_implies, implies_true, and_true, true_and] at hK)
        | (go_at_call 14; (refine (hspec G wA _ hnew ?hs2).mono ?_; case hs2 => exact (by repeat' (first | exact Below.refl _ _ | exact Nat.le_refl _ | refine Below.drew ?_ | refine below_drewN ?_ _ | refine Below.alloc ?_ (by first | (simp; done) | (simp; omega)) _ | refine Below.setCell ?_ (by first | (simp; done) | (simp; omega)) _ | refine below_step ?_ (by assumption)))); rintro _ wC ⟨⟨rr, rfl, hrr⟩, hb1⟩))
      all_goals
        go_wp2_with fail
        go_meet
        case rel => exact ⟨⟨_, rfl, hrr⟩, rfl, (by repeat' (first | exact Below.refl _ _ | exact Nat.le_refl _ | refine Below.drew ?_ | refine below_drewN ?_ _ | refine Below.alloc ?_ (by first | (simp; done) | (simp; omega)) _ | refine Below.setCell ?_ (by first | (simp; done) | (simp; omega)) _ | refine below_step ?_ (by assumption)))⟩
    case rest =>
      obtain ⟨⟨rs, rfl, hrs⟩, rfl, hb3⟩ := hcut
      rename World => w3
      have W3b := below_step W2b hb3
      have hkept := keep hkept hb3
      have hK := hkept
      simp only [Kept, List.forall_mem_append, List.forall_mem_cons, List.not_mem_nil, false_implies, implies_true, and_true, true_and] at hK
      clear hb3
      go_upto_region 7 with (go_at_call 15; refine (hto _ W3b).mono ?_; rintro _ wA ⟨G, rfl, hnew, hG, hb1⟩)
      have hbA4 : Below wA.heap.size wA (wA.alloc (.cells #[.slice (some ⟨G, 0, none⟩) ns.length ns.length] 33)) := (Below.refl _ _).alloc (Nat.le_refl _) _
      have hWA := below_step W3b hb1
      have hkeptA := keep hkept hb1
      have hAs : w.heap.size < wA.heap.size := some_lt (a := ⟨w.heap.size, 0, none⟩) (by have hKA := hkeptA; simp only [Kept, List.forall_mem_append, List.forall_mem_cons, List.not_mem_nil, false_implies, implies_true, and_true, true_and] at hKA; rw [hKA.1]; rfl)
      have W4b := below_step hWA hbA4
      have hkept := kept_app (keep hkeptA hbA4) (show Kept [(⟨wA.heap.size, 0, none⟩, .slice (some ⟨G, 0, none⟩) ns.length ns.length)] [] (wA.alloc (.cells #[.slice (some ⟨G, 0, none⟩) ns.length ns.length] 33)) by
        simp only [Kept, List.forall_mem_append, List.forall_mem_cons, List.not_mem_nil, false_implies, implies_true, and_true, true_and]; simp)
      generalize wA.alloc (.cells #[.slice (some ⟨G, 0, none⟩) ns.length ns.length] 33) = W4 at *
      clear hkeptA hK hb1
      refine Qr.wp_below_all (by kernel_rfl) (by kernel_rfl) (PhiAt RV bv) ?_
      repeat (first | (refine Qr.walk_plain rfl fun K hK => ?_; apply Qr.one_det; (focus (intro w' hw'; have HK := keep hkept hw'; simp only [Kept, List.forall_mem_append, List.forall_mem_cons, List.not_mem_nil, false_implies, implies_true, and_true, true_and] at HK; go_simp; first | done | rfl)); go_simp; refine hK _ ?_; clear hK K) | (refine Qr.walk_plain rfl fun K hK => ?_; apply Qr.one_call; (focus (intro w' hw'; go_simp; first | done | exact ⟨rfl, rfl⟩)); (focus (intro w' hw';  go_at_call 16; refine (to_vector _ _ _ _).mono ?_; rintro _ w2 ⟨rfl, hb1⟩; exact ⟨_, rfl, PhiAt.vec _ _ _, hw'.trans (by exact Below.mono (by assumption) hw'.size), by assumption⟩)); intro v hv; cases hv; go_simp; refine hK _ ?_; clear hK K) | (refine Qr.walk_plain rfl fun K hK => ?_; apply Qr.one_call; (focus (intro w' hw'; go_simp; first | done | exact ⟨rfl, rfl⟩)); (focus (intro w' hw';  go_at_call 17; refine (himpl G wA _ hnew (below_step hbA4 hw')).mono ?_; rintro _ w2 ⟨⟨rr, rfl, hrr⟩, hb1⟩; exact ⟨_, rfl, PhiAt.amb _ _ hrr.out, hw'.trans (by exact Below.mono (by assumption) hw'.size), by assumption⟩)); intro v hv; cases hv; go_simp; refine hK _ ?_; clear hK K))
      rename_i ri hri
      refine Qr.walk_nil fun w5 hw5 => ?_
      have W5b := below_step W4b hw5
      have hbA5 := below_step hbA4 hw5
      have hkept := keep hkept hw5
      have hK := hkept
      simp only [Kept, List.forall_mem_append, List.forall_mem_cons, List.not_mem_nil, false_implies, implies_true, and_true, true_and] at hK
      have hRR : (bv != bv) = false := by simp
      clear hw5 hbA4
      have hHri := Lib.hid hri
      clear hri
      go_upto_region 10 with (first
        | (refine wp_wid rfl _ _ _ rfl _ rfl ?_ ?_ fitsW_all ?_; exact some_f32; exact Tryz.underlying38; intro ru nu hru)
        | (go_at_call 18; refine (same_float _ _ (wid_eq (by assumption) (by assumption) hHri.out hrs.out) _).mono ?_; rintro _ w6 ⟨rfl, hb6⟩))
      have hb56 := below_step (below_drewN (Below.refl w5.heap.size w5) _) hb6
      have W5b := below_step W5b hb56
      have hbA5 := below_step hbA5 hb56
      have hkept := keep hkept hb56
      clear hK
      have hK := hkept
      simp only [Kept, List.forall_mem_append, List.forall_mem_cons, List.not_mem_nil, false_implies, implies_true, and_true, true_and] at hK
      clear hb6 hb56
      go_region_with (first
        | (go_at_call 15; (refine (hto _ ?hs1).mono ?_; case hs1 => exact below_step W5b (by repeat' (first | exact Below.refl _ _ | exact Nat.le_refl _ | refine Below.drew ?_ | refine below_drewN ?_ _ | refine Below.alloc ?_ (by first | (simp; done) | (simp; omega)) _ | refine Below.setCell ?_ (by first | (simp; done) | (simp; omega)) _ | refine below_step ?_ (by assumption)))); rintro _ wH ⟨H, rfl, hnewH, hH, hb1⟩; have hkept := keepS hkept hb1 rfl; clear hK; have hK := hkept; simp only [Kept, List.forall_mem_append, List.forall_mem_cons, List.not_mem_nil, false_implies, implies_true, and_true, true_and] at hK)
        | (go_at_call 19; ((refine (heq G H wA wH _ hnew ?hs2 hnewH ?hs3).mono ?_); (case hs2 => exact below_step hbA5 (by repeat' (first | exact Below.refl _ _ | exact Nat.le_refl _ | refine Below.drew ?_ | refine below_drewN ?_ _ | refine Below.alloc ?_ (by first | (simp; done) | (simp; omega)) _ | refine Below.setCell ?_ (by first | (simp; done) | (simp; omega)) _ | refine below_step ?_ (by assumption)))); (case hs3 => exact (by repeat' (first | exact Below.refl _ _ | exact Nat.le_refl _ | refine Below.drew ?_ | refine below_drewN ?_ _ | refine Below.alloc ?_ (by first | (simp; done) | (simp; omega)) _ | refine Below.setCell ?_ (by first | (simp; done) | (simp; omega)) _ | refine below_step ?_ (by assumption))))); rintro _ wC ⟨rfl, hb1⟩))
      all_goals
        go_wp2_with fail
        go_ret
        exact ⟨rfl, below_step W5b (by repeat' (first | exact Below.refl _ _ | exact Nat.le_refl _ | refine Below.drew ?_ | refine below_drewN ?_ _ | refine Below.alloc ?_ (by first | (simp; done) | (simp; omega)) _ | refine Below.setCell ?_ (by first | (simp; done) | (simp; omega)) _ | refine below_step ?_ (by assumption)))⟩
end Go.Proofs.YtdbpgblhnhdhoaaGreat
