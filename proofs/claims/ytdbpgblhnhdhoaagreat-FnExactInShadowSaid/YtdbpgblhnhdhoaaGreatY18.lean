/-
  Walk of the statement: InShadow.
-/
import Derived.Test.YtdbpgblhnhdhoaaGreatY17
import Derived.Test.YtdbpgblhnhdhoaaGreatY13
set_option linter.unusedVariables false
set_option linter.unusedSimpArgs false
namespace Go.Proofs.YtdbpgblhnhdhoaaGreat
open Go.RowKit Go.Fl

inductive PhiH (n : Nat) (r1 r2 : Bool) : FuncId → Array Value → Value → Prop
  | shape (args : Array Value) (G : Nat) : PhiH n r1 r2 15 args (.agg #[.slice (some ⟨G, 0, none⟩) n n])
  | vec (x y z : Nat) : PhiH n r1 r2 16 #[V3 x y z] (V3 x y z)
  | mar (a b : Nat) (c : Int) : PhiH n r1 r2 34 #[MarV a b c] (MarV a b c)
  | spec (args : Array Value) : PhiH n r1 r2 33 args (.tuple #[.bool r1, .bool r2])
  | impl (args : Array Value) : PhiH n r1 r2 35 args (.tuple #[.bool r1, .bool r2])
  | eqs (args : Array Value) : PhiH n r1 r2 19 args (.bool true)

set_option maxRecDepth 100000 in
set_option maxHeartbeats 16000000 in
theorem law_shadow (ns : List PN) (bp : Option Addr) (nb no cap x y z nx ny nz lx ly lz near most : Nat) (n : Int) (w : World) (hns : NodesIn ns bp nb no w) :
    Calls Tryz.prog 6 #[.agg #[.slice bp ns.length cap], V3 x y z, V3 nx ny nz, V3 lx ly lz, MarV near most n] w (fun e' w' => e' = .returned (.bool true) ∧ Below w.heap.size w w') := by
  have hsz : ∀ w', Below w.heap.size w w' → Calls Tryz.prog 13 #[.agg #[.slice bp ns.length cap], .int .i64 1048576] w' (fun e w'' => e = .returned (.int .i64 (szS ns 1048576)) ∧ Below w'.heap.size w' w'') :=
    fun w' hb => sz_shape ns bp nb no cap 1048576 w' (hns.keep hb) (by omega)
  by_cases hneg : szS ns 1048576 < 0
  · have hm := szS_neg hneg
    rw [hm] at hsz
    clear hm hneg hns
    go_enter Tryz.func6, Tryz.ntmps6
    go_wp2_with (go_at_call 13; refine (hsz _ (by repeat' (first | exact Below.refl _ _ | exact Nat.le_refl _ | refine below_drewN ?_ _ | refine Below.alloc ?_ (by first | (simp; done) | (simp; omega)) _ | refine Below.setCell ?_ (by first | (simp; done) | (simp; omega)) _ | refine below_step ?_ (by assumption)))).mono ?_; rintro _ w2 ⟨rfl, hb2⟩)
    go_ret
    exact ⟨rfl, (by repeat' (first | exact Below.refl _ _ | exact Nat.le_refl _ | refine below_drewN ?_ _ | refine Below.alloc ?_ (by first | (simp; done) | (simp; omega)) _ | refine Below.setCell ?_ (by first | (simp; done) | (simp; omega)) _ | refine below_step ?_ (by assumption)))⟩
  · obtain ⟨hsm, hnsm⟩ := szS_small (by omega) (by omega) hneg
    have hpos : 0 ≤ szS ns 1048576 := by omega
    clear hneg
    generalize szS ns 1048576 = sz at *
    have hto : ∀ w', Below w.heap.size w w' → Calls Tryz.prog 15 #[.agg #[.slice bp ns.length cap]] w' (RetSh ns w') := fun w' hb => to_shape ns hsm hnsm bp nb no cap w' (hns.keep hb)
    have hnum : ∀ n ∈ ns, n.nums.length < 10000000 := fun n hn => by have := hnsm n hn; omega
    have hl7 : ns.length < 10000000 := by omega
    have hs2 := shadow_same ns (cn .f32 x, cn .f32 y, cn .f32 z) (cn .f32 nx, cn .f32 ny, cn .f32 nz) (cn .f32 lx, cn .f32 ly, cn .f32 lz) (cn .f32 near) (cn .f32 most) n
    have hsp := fun G w' hn => s_inshadow_any ns hnum (fun h => (valid_ok (by rw [← valid_same]; exact h)).2) G 0 ns.length x y z nx ny nz lx ly lz near most n (some ⟨G, 0, none⟩) w' (fun _ => rfl) hn hl7
    have him := fun G w' hn => inshadow_any ns hnum G 0 ns.length x y z nx ny nz lx ly lz near most n (some ⟨G, 0, none⟩) w' (fun _ => rfl) hn hl7
    rw [hs2] at hsp
    generalize (if validF ns && marOk (cn .f32 near) (cn .f32 most) n then shadow (fun F T mo => marchGo (topF ns) F T (slopeF ns) (cn .f32 near) mo n.toNat 1 0) (cn .f32 x, cn .f32 y, cn .f32 z) (cn .f32 nx, cn .f32 ny, cn .f32 nz) (cn .f32 lx, cn .f32 ly, cn .f32 lz) (cn .f32 near) (cn .f32 most) else (false, false)) = R at *
    obtain ⟨r1, r2⟩ := R
    clear hs2
    have hspec : ∀ G (w' : World), (∀ i (h : i < ns.length), NodeNew ns[i] G (0 + i * 4) w') → Calls Tryz.prog 33 #[.agg #[.slice (some ⟨G, 0, none⟩) ns.length ns.length], V3 x y z, V3 nx ny nz, V3 lx ly lz, MarV near most n] w' (RetS (r1, r2) w') := fun G w' hn => hsp G w' (fun i h => (hn i h).into)
    have himpl : ∀ G (w' : World), (∀ i (h : i < ns.length), NodeNew ns[i] G (0 + i * 4) w') → Calls Tryz.prog 35 #[.agg #[.slice (some ⟨G, 0, none⟩) ns.length ns.length], V3 x y z, V3 nx ny nz, V3 lx ly lz, MarV near most n] w' (RetS (r1, r2) w') := fun G w' hn => him G w' (fun i h => (hn i h).into)
    clear hsp him
    have heq : ∀ G H (w' : World), (∀ i (h : i < ns.length), NodeNew ns[i] G (0 + i * 4) w') → (∀ i (h : i < ns.length), NodeNew ns[i] H (0 + i * 4) w') → Calls Tryz.prog 19 #[.agg #[.slice (some ⟨G, 0, none⟩) ns.length ns.length], .agg #[.slice (some ⟨H, 0, none⟩) ns.length ns.length]] w' (fun e w'' => e = .returned (.bool true) ∧ Below w'.heap.size w' w'') :=
      fun G H w' h1 h2 => eq_shape ns hsm hnsm G H _ _ w' h1 h2
    clear hnsm hnum hns
    go_enter Tryz.func6, Tryz.ntmps6
    go_wp2_with fail
    have W1b : Below w.heap.size w (((((w.alloc (.cells #[.slice bp ns.length cap] 24)).alloc (.cells #[.float .f32 x, .float .f32 y, .float .f32 z] 27)).alloc (.cells #[.float .f32 nx, .float .f32 ny, .float .f32 nz] 27)).alloc (.cells #[.float .f32 lx, .float .f32 ly, .float .f32 lz] 27)).alloc (.cells #[.float .f32 near, .float .f32 most, .int .i64 n] 59)) := (by repeat' (first | exact Below.refl _ _ | exact Nat.le_refl _ | refine below_drewN ?_ _ | refine Below.alloc ?_ (by first | (simp; done) | (simp; omega)) _ | refine Below.setCell ?_ (by first | (simp; done) | (simp; omega)) _ | refine below_step ?_ (by assumption)))
    
    have hkept : Kept [(⟨w.heap.size, 0, none⟩, .slice bp ns.length cap), (⟨w.heap.size + 1, 0, none⟩, .float .f32 x), (⟨w.heap.size + 1, 1, none⟩, .float .f32 y), (⟨w.heap.size + 1, 2, none⟩, .float .f32 z), (⟨w.heap.size + 1 + 1, 0, none⟩, .float .f32 nx), (⟨w.heap.size + 1 + 1, 1, none⟩, .float .f32 ny), (⟨w.heap.size + 1 + 1, 2, none⟩, .float .f32 nz), (⟨w.heap.size + 1 + 1 + 1, 0, none⟩, .float .f32 lx), (⟨w.heap.size + 1 + 1 + 1, 1, none⟩, .float .f32 ly), (⟨w.heap.size + 1 + 1 + 1, 2, none⟩, .float .f32 lz), (⟨w.heap.size + 1 + 1 + 1 + 1, 0, none⟩, .float .f32 near), (⟨w.heap.size + 1 + 1 + 1 + 1, 1, none⟩, .float .f32 most), (⟨w.heap.size + 1 + 1 + 1 + 1, 2, none⟩, .int .i64 n)] [] (((((w.alloc (.cells #[.slice bp ns.length cap] 24)).alloc (.cells #[.float .f32 x, .float .f32 y, .float .f32 z] 27)).alloc (.cells #[.float .f32 nx, .float .f32 ny, .float .f32 nz] 27)).alloc (.cells #[.float .f32 lx, .float .f32 ly, .float .f32 lz] 27)).alloc (.cells #[.float .f32 near, .float .f32 most, .int .i64 n] 59)) := by
      simp only [Kept, List.forall_mem_append, List.forall_mem_cons, List.not_mem_nil, false_implies, implies_true, and_true, true_and]; (first | (go_simp; done) | (simp [World.cell?, World.frozen?, World.alloc, Array.getElem?_push]; done))
    generalize ((((w.alloc (.cells #[.slice bp ns.length cap] 24)).alloc (.cells #[.float .f32 x, .float .f32 y, .float .f32 z] 27)).alloc (.cells #[.float .f32 nx, .float .f32 ny, .float .f32 nz] 27)).alloc (.cells #[.float .f32 lx, .float .f32 ly, .float .f32 lz] 27)).alloc (.cells #[.float .f32 near, .float .f32 most, .int .i64 n] 59) = W1 at *
    refine (hsz _ W1b).mono ?_
    rintro _ w2 ⟨rfl, hb2⟩
    have W2b := below_step W1b hb2
    have hkept := keep hkept hb2
    clear hb2 W1b hsz
    go_upto_region 5 with fail
    refine Qg.wp_gdH 14 (by kernel_rfl) (by kernel_rfl) (by kernel_rfl) (by intro c a x v w h; cases x <;> exact h) (PhiH ns.length r1 r2) (GdL ns w2 [24] [] 1000 (fun _ => True)) [] (gdl_lasts ..) (gdl_start (by intro d hd; simp at hd; rcases hd with rfl | rfl <;> rfl) rfl) ?_
    intro hC0
    repeat (first
      | (refine Qg.walk_step fun K hK => ?_; apply Qg.one_det hC0 (by intro d hd; cases hd; decide) rfl; (focus (intro w' hw'; have HK := keep hkept hw'; simp only [Kept, List.forall_mem_append, List.forall_mem_cons, List.not_mem_nil, false_implies, implies_true, and_true, true_and] at HK; go_simp; first | done | rfl)); (focus (intro w' hw' hs; exact gdl_no (by decide) (by decide) (by decide))); go_simp; refine hK _ ?_; clear hK K)
      | (refine Qg.walk_step fun K hK => ?_; apply Qg.one_call _ _ hC0 (by intro d hd; cases hd; decide) rfl; (focus (intro w' hw'; go_simp; first | done | exact ⟨rfl, rfl⟩)); (focus (apply Exists.intro; (constructor <;> exact (0 : Nat)))); (focus (intro w' hw' hs;  go_at_call 16; refine (to_vector _ _ _ _).mono ?_; rintro _ wA ⟨rfl, hb1⟩; exact ⟨_, rfl, PhiH.vec _ _ _, gdl_no (by decide) (by decide) (by decide), below_step hw' hb1, hb1⟩ )); intro v hv; cases hv; go_simp; refine hK _ ?_; clear hK K)
      | (refine Qg.walk_step fun K hK => ?_; apply Qg.one_call _ _ hC0 (by intro d hd; cases hd; decide) rfl; (focus (intro w' hw'; go_simp; first | done | exact ⟨rfl, rfl⟩)); (focus (apply Exists.intro; (constructor <;> exact (0 : Nat)))); (focus (intro w' hw' hs;  go_at_call 34; refine (to_march _ _ _ _).mono ?_; rintro _ wA ⟨rfl, hb1⟩; exact ⟨_, rfl, PhiH.mar _ _ _, gdl_no (by decide) (by decide) (by decide), below_step hw' hb1, hb1⟩ )); intro v hv; cases hv; go_simp; refine hK _ ?_; clear hK K)
      | (refine Qg.walk_step fun K hK => ?_; apply Qg.one_call _ _ hC0 (by intro d hd; cases hd; decide) rfl; (focus (intro w' hw'; go_simp; first | done | exact ⟨rfl, rfl⟩)); (focus (apply Exists.intro; (constructor <;> exact (0 : Nat)))); (focus (intro w' hw' hs;  go_at_call 15; (refine (hto _ (below_step W2b hw')).mono ?_); rintro _ wA ⟨G, rfl, hnew, hG, hb1⟩; exact ⟨_, rfl, PhiH.shape _ _, gdl_shape hnew (by decide) (by decide), below_step hw' hb1, hb1⟩ )); intro v hv; cases hv; go_simp; refine hK _ ?_; clear hK K)
      | (refine Qg.walk_step fun K hK => ?_; apply Qg.one_call _ _ hC0 (by intro d hd; cases hd; decide) rfl; (focus (intro w' hw'; go_simp; first | done | exact ⟨rfl, rfl⟩)); (focus (apply Exists.intro; (constructor <;> exact (0 : Nat)))); (focus (intro w' hw' hs;  go_at_call 33; refine (hspec _ _ ((hs 24 (of_decide_eq_true (by kernel_rfl))).1 (by decide) _ rfl)).mono ?_; rintro _ wA ⟨rfl, hb1⟩; exact ⟨_, rfl, PhiH.spec _, gdl_no (by decide) (by decide) (by decide), below_step hw' hb1, hb1⟩ )); intro v hv; cases hv; go_simp; refine hK _ ?_; clear hK K))
    refine Qg.walk_nil fun w6 hw6 hE => ?_
    clear hE
    have hkept := keep hkept hw6
    have W7b := below_step W2b hw6
    clear hw6 hC0
    go_upto_region 6 with fail
    have hK := hkept; simp only [Kept, List.forall_mem_append, List.forall_mem_cons, List.not_mem_nil, false_implies, implies_true, and_true, true_and] at hK
    go_upto_region 7 with (go_at_call 15; refine (hto _ W7b).mono ?_; rintro _ wA ⟨H, rfl, hnew, hH, hb1⟩)
    have hb7 : Below wA.heap.size wA (wA.alloc (.cells #[.slice (some ⟨H, 0, none⟩) ns.length ns.length] 33)) := (Below.refl _ _).alloc (Nat.le_refl _) _
    have hnew : ∀ i (h : i < ns.length), NodeNew ns[i] H (0 + i * 4) (wA.alloc (.cells #[.slice (some ⟨H, 0, none⟩) ns.length ns.length] 33)) := fun i h => (hnew i h).keep hb7
    have W8b := below_step (below_step W7b hb1) hb7
    have hkept := kept_app (keep (keep hkept hb1) hb7) (show Kept [(⟨wA.heap.size, 0, none⟩, .slice (some ⟨H, 0, none⟩) ns.length ns.length)] [] (wA.alloc (.cells #[.slice (some ⟨H, 0, none⟩) ns.length ns.length] 33)) by simp only [Kept, List.forall_mem_append, List.forall_mem_cons, List.not_mem_nil, false_implies, implies_true, and_true, true_and]; simp)
    clear hK hb1 hb7 W7b hH
    generalize wA.alloc (.cells #[.slice (some ⟨H, 0, none⟩) ns.length ns.length] 33) = w8 at *
    refine Qg.wp_gdH 13 (by kernel_rfl) (by kernel_rfl) (by kernel_rfl) (by intro c a x v w h; cases x <;> exact h) (PhiH ns.length r1 r2) (GdL ns w8 [] [] 1000 (fun _ => True)) [] (gdl_lasts ..) (gdl_start (by intro d hd; simp at hd; rcases hd with rfl; rfl) rfl) ?_
    intro hC0
    repeat (first
      | (refine Qg.walk_step fun K hK => ?_; apply Qg.one_det hC0 (by intro d hd; cases hd; decide) rfl; (focus (intro w' hw'; have HK := keep hkept hw'; simp only [Kept, List.forall_mem_append, List.forall_mem_cons, List.not_mem_nil, false_implies, implies_true, and_true, true_and] at HK; go_simp; first | done | rfl)); (focus (intro w' hw' hs; exact gdl_no (by decide) (by decide) (by decide))); go_simp; refine hK _ ?_; clear hK K)
      | (refine Qg.walk_step fun K hK => ?_; apply Qg.one_call _ _ hC0 (by intro d hd; cases hd; decide) rfl; (focus (intro w' hw'; go_simp; first | done | exact ⟨rfl, rfl⟩)); (focus (apply Exists.intro; (constructor <;> exact (0 : Nat)))); (focus (intro w' hw' hs;  go_at_call 16; refine (to_vector _ _ _ _).mono ?_; rintro _ wA ⟨rfl, hb1⟩; exact ⟨_, rfl, PhiH.vec _ _ _, gdl_no (by decide) (by decide) (by decide), below_step hw' hb1, hb1⟩ )); intro v hv; cases hv; go_simp; refine hK _ ?_; clear hK K)
      | (refine Qg.walk_step fun K hK => ?_; apply Qg.one_call _ _ hC0 (by intro d hd; cases hd; decide) rfl; (focus (intro w' hw'; go_simp; first | done | exact ⟨rfl, rfl⟩)); (focus (apply Exists.intro; (constructor <;> exact (0 : Nat)))); (focus (intro w' hw' hs;  go_at_call 34; refine (to_march _ _ _ _).mono ?_; rintro _ wA ⟨rfl, hb1⟩; exact ⟨_, rfl, PhiH.mar _ _ _, gdl_no (by decide) (by decide) (by decide), below_step hw' hb1, hb1⟩ )); intro v hv; cases hv; go_simp; refine hK _ ?_; clear hK K)
      | (refine Qg.walk_step fun K hK => ?_; apply Qg.one_call _ _ hC0 (by intro d hd; cases hd; decide) rfl; (focus (intro w' hw'; go_simp; first | done | exact ⟨rfl, rfl⟩)); (focus (apply Exists.intro; (constructor <;> exact (0 : Nat)))); (focus (intro w' hw' hs;  go_at_call 35; refine (himpl _ _ (fun i h => (hnew i h).keep hw')).mono ?_; rintro _ wA ⟨rfl, hb1⟩; exact ⟨_, rfl, PhiH.impl _, gdl_no (by decide) (by decide) (by decide), below_step hw' hb1, hb1⟩ )); intro v hv; cases hv; go_simp; refine hK _ ?_; clear hK K))
    refine Qg.walk_nil fun w9 hw9 hE => ?_
    clear hE
    have hkept := keep hkept hw9
    have W10b := below_step W8b hw9
    have hnew10 : ∀ i (h : i < ns.length), NodeNew ns[i] H (0 + i * 4) w9 := fun i h => (hnew i h).keep hw9
    clear hw9 hC0 hnew
    have hR1 : (r1 != r1) = false := by simp
    have hR2 : (r2 != r2) = false := by simp
    go_upto_region 10 with fail
    refine Qg.wp_gd_all (by kernel_rfl) (by kernel_rfl) (PhiH ns.length r1 r2) (GdL ns w9 [61] [] 1000 (fun _ => True)) [] (gdl_lasts ..) (gdl_start (by intro d hd; simp at hd; rcases hd with rfl | rfl <;> rfl) rfl) ?_
    intro hC0
    repeat (first
      | (refine Qg.walk_step fun K hK => ?_; apply Qg.one_det hC0 (by intro d hd; cases hd; decide) rfl; (focus (intro w' hw'; have HK := keep hkept hw'; simp only [Kept, List.forall_mem_append, List.forall_mem_cons, List.not_mem_nil, false_implies, implies_true, and_true, true_and] at HK; go_simp; first | done | rfl)); (focus (intro w' hw' hs; exact gdl_no (by decide) (by decide) (by decide))); go_simp; refine hK _ ?_; clear hK K)
      | (refine Qg.walk_step fun K hK => ?_; apply Qg.one_call _ _ hC0 (by intro d hd; cases hd; decide) rfl; (focus (intro w' hw'; go_simp; first | done | exact ⟨rfl, rfl⟩)); (focus (apply Exists.intro; (constructor <;> exact (0 : Nat)))); (focus (intro w' hw' hs;  go_at_call 15; (refine (hto _ (below_step W10b hw')).mono ?_); rintro _ wA ⟨G, rfl, hnew, hG, hb1⟩; exact ⟨_, rfl, PhiH.shape _ _, gdl_shape hnew (by decide) (by decide), below_step hw' hb1, hb1⟩ )); intro v hv; cases hv; go_simp; refine hK _ ?_; clear hK K)
      | (refine Qg.walk_step fun K hK => ?_; apply Qg.one_call _ _ hC0 (by intro d hd; cases hd; decide) rfl; (focus (intro w' hw'; go_simp; first | done | exact ⟨rfl, rfl⟩)); (focus (apply Exists.intro; (constructor <;> exact (0 : Nat)))); (focus (intro w' hw' hs;  go_at_call 19; refine (heq _ _ _ (fun i h => (hnew10 i h).keep hw') ((hs 61 (of_decide_eq_true (by kernel_rfl))).1 (by decide) _ rfl)).mono ?_; rintro _ wA ⟨rfl, hb1⟩; exact ⟨_, rfl, PhiH.eqs _, gdl_no (by decide) (by decide) (by decide), below_step hw' hb1, hb1⟩ )); intro v hv; cases hv; go_simp; refine hK _ ?_; clear hK K))
    refine Qg.walk_nil fun w11 hw11 hE => ?_
    have W11b := below_step W10b hw11
    clear hE
    go_wp2_with fail
    go_ret
    exact ⟨rfl, W11b⟩
end Go.Proofs.YtdbpgblhnhdhoaaGreat
