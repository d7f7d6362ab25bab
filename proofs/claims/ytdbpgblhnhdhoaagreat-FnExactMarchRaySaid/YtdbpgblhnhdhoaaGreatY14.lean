/-
  Walk of the statement: MarchRay.
-/
import Derived.Test.YtdbpgblhnhdhoaaGreatY12
import Derived.Test.YtdbpgblhnhdhoaaGreatY13
set_option linter.unusedVariables false
set_option linter.unusedSimpArgs false
namespace Go.Proofs.YtdbpgblhnhdhoaaGreat
open Go.RowKit Go.Fl

inductive PhiW (n : Nat) (bv : Bool) : FuncId → Array Value → Value → Prop
  | shape (args : Array Value) (G : Nat) : PhiW n bv 15 args (.agg #[.slice (some ⟨G, 0, none⟩) n n])
  | ray (a b c d e f : Nat) : PhiW n bv 37 #[RayV a b c d e f] (RayV a b c d e f)
  | mar (a b : Nat) (c : Int) : PhiW n bv 34 #[MarV a b c] (MarV a b c)
  | spec (args : Array Value) (k s far x y z : Nat) : PhiW n bv 36 args (.tuple #[HitV k s far x y z, .bool bv])
  | impl (args : Array Value) (k s far x y z : Nat) : PhiW n bv 38 args (.tuple #[HitV k s far x y z, .bool bv])
  | eqs (args : Array Value) : PhiW n bv 19 args (.bool true)

def ResW (R : Nat × Nat × Nat × Nat × Nat × Nat) (v : Value) : Prop := ∀ (k s far x y z : Nat) ok, v = .tuple #[HitV k s far x y z, .bool ok] → (k, s, cn .f32 far, cn .f32 x, cn .f32 y, cn .f32 z) = R

theorem hit_inj {k s far x y z k' s' far' x' y' z' : Nat} {ok ok' : Bool} (h : Value.tuple #[HitV k s far x y z, .bool ok] = .tuple #[HitV k' s' far' x' y' z', .bool ok']) : k = k' ∧ s = s' ∧ far = far' ∧ x = x' ∧ y = y' ∧ z = z' := by
  simp only [Value.tuple.injEq, Array.mk.injEq, List.cons.injEq, Value.agg.injEq, Value.int.injEq, Value.float.injEq, true_and, and_true] at h
  omega

set_option maxRecDepth 100000 in
set_option maxHeartbeats 16000000 in
theorem law_march (ns : List PN) (bp : Option Addr) (nb no cap a b c d e f near most : Nat) (n : Int) (w : World) (hns : NodesIn ns bp nb no w) :
    Calls Tryz.prog 7 #[.agg #[.slice bp ns.length cap], RayV a b c d e f, MarV near most n] w (fun e' w' => e' = .returned (.bool true) ∧ Below w.heap.size w w') := by
  have hsz : ∀ w', Below w.heap.size w w' → Calls Tryz.prog 13 #[.agg #[.slice bp ns.length cap], .int .i64 1048576] w' (fun e w'' => e = .returned (.int .i64 (szS ns 1048576)) ∧ Below w'.heap.size w' w'') :=
    fun w' hb => sz_shape ns bp nb no cap 1048576 w' (hns.keep hb) (by omega)
  by_cases hneg : szS ns 1048576 < 0
  · have hm := szS_neg hneg
    rw [hm] at hsz
    clear hm hneg hns
    go_enter Tryz.func7, Tryz.ntmps7
    go_wp2_with (go_at_call 13; refine (hsz _ (by repeat' (first | exact Below.refl _ _ | exact Nat.le_refl _ | refine below_drewN ?_ _ | refine Below.alloc ?_ (by first | (simp; done) | (simp; omega)) _ | refine Below.setCell ?_ (by first | (simp; done) | (simp; omega)) _ | refine below_step ?_ (by assumption)))).mono ?_; rintro _ w2 ⟨rfl, hb2⟩)
    go_ret
    exact ⟨rfl, (by repeat' (first | exact Below.refl _ _ | exact Nat.le_refl _ | refine below_drewN ?_ _ | refine Below.alloc ?_ (by first | (simp; done) | (simp; omega)) _ | refine Below.setCell ?_ (by first | (simp; done) | (simp; omega)) _ | refine below_step ?_ (by assumption)))⟩
  · obtain ⟨hsm, hnsm⟩ := szS_small (by omega) (by omega) hneg
    have hpos : 0 ≤ szS ns 1048576 := by omega
    clear hneg
    generalize szS ns 1048576 = sz at *
    have hto : ∀ w', Below w.heap.size w w' → Calls Tryz.prog 15 #[.agg #[.slice bp ns.length cap]] w' (RetSh ns w') := fun w' hb => to_shape ns hsm hnsm bp nb no cap w' (hns.keep hb)
    have hnum : ∀ n ∈ ns, n.nums.length < 10000000 := fun n hn => by have := hnsm n hn; omega
    have hl7 : ns.length < 10000000 := by omega
    obtain ⟨hs1, hs2⟩ := mr_same ns (cn .f32 a, cn .f32 b, cn .f32 c) (cn .f32 d, cn .f32 e, cn .f32 f) (cn .f32 near) (cn .f32 most) n
    have hsp := fun G w' hn => s_marchray_any ns hnum (fun h => (valid_ok (by rw [← valid_same]; exact h)).2) G 0 ns.length a b c d e f near most n (some ⟨G, 0, none⟩) w' (fun _ => rfl) hn hl7
    have him := fun G w' hn => marchray_any ns hnum G 0 ns.length a b c d e f near most n (some ⟨G, 0, none⟩) w' (fun _ => rfl) hn hl7
    rw [hs1] at hsp
    obtain ⟨bv, hbv⟩ : ∃ bv, bv = mrOk (validF ns) (cn .f32 a, cn .f32 b, cn .f32 c) (cn .f32 d, cn .f32 e, cn .f32 f) (cn .f32 near) (cn .f32 most) n := ⟨_, rfl⟩
    rw [← hbv] at hsp him hs2
    rw [hs2] at hsp
    generalize mrV bv (cn .f32 a, cn .f32 b, cn .f32 c) (cn .f32 d, cn .f32 e, cn .f32 f) (marchGo (topF ns) (cn .f32 a, cn .f32 b, cn .f32 c) (cn .f32 d, cn .f32 e, cn .f32 f) (slopeF ns) (cn .f32 near) (cn .f32 most) n.toNat 1 0) = R at *
    clear hs1 hs2 hbv
    have hspec : ∀ G (w' : World), (∀ i (h : i < ns.length), NodeNew ns[i] G (0 + i * 4) w') → Calls Tryz.prog 36 #[.agg #[.slice (some ⟨G, 0, none⟩) ns.length ns.length], RayV a b c d e f, MarV near most n] w' (RetM bv R w') := fun G w' hn => hsp G w' (fun i h => (hn i h).into)
    have himpl : ∀ G (w' : World), (∀ i (h : i < ns.length), NodeNew ns[i] G (0 + i * 4) w') → Calls Tryz.prog 38 #[.agg #[.slice (some ⟨G, 0, none⟩) ns.length ns.length], RayV a b c d e f, MarV near most n] w' (RetM bv R w') := fun G w' hn => him G w' (fun i h => (hn i h).into)
    clear hsp him
    have heq : ∀ G H (w' : World), (∀ i (h : i < ns.length), NodeNew ns[i] G (0 + i * 4) w') → (∀ i (h : i < ns.length), NodeNew ns[i] H (0 + i * 4) w') → Calls Tryz.prog 19 #[.agg #[.slice (some ⟨G, 0, none⟩) ns.length ns.length], .agg #[.slice (some ⟨H, 0, none⟩) ns.length ns.length]] w' (fun e w'' => e = .returned (.bool true) ∧ Below w'.heap.size w' w'') :=
      fun G H w' h1 h2 => eq_shape ns hsm hnsm G H _ _ w' h1 h2
    clear hnsm hnum hns
    go_enter Tryz.func7, Tryz.ntmps7
    go_wp2_with fail
    have W1b : Below w.heap.size w (((w.alloc (.cells #[.slice bp ns.length cap] 24)).alloc (.cells #[.float .f32 a, .float .f32 b, .float .f32 c, .float .f32 d, .float .f32 e, .float .f32 f] 66)).alloc (.cells #[.float .f32 near, .float .f32 most, .int .i64 n] 59)) := (by repeat' (first | exact Below.refl _ _ | exact Nat.le_refl _ | refine below_drewN ?_ _ | refine Below.alloc ?_ (by first | (simp; done) | (simp; omega)) _ | refine Below.setCell ?_ (by first | (simp; done) | (simp; omega)) _ | refine below_step ?_ (by assumption)))
    
    have hkept : Kept [(⟨w.heap.size, 0, none⟩, .slice bp ns.length cap), (⟨w.heap.size + 1, 0, none⟩, .float .f32 a), (⟨w.heap.size + 1, 1, none⟩, .float .f32 b), (⟨w.heap.size + 1, 2, none⟩, .float .f32 c), (⟨w.heap.size + 1, 3, none⟩, .float .f32 d), (⟨w.heap.size + 1, 4, none⟩, .float .f32 e), (⟨w.heap.size + 1, 5, none⟩, .float .f32 f), (⟨w.heap.size + 1 + 1, 0, none⟩, .float .f32 near), (⟨w.heap.size + 1 + 1, 1, none⟩, .float .f32 most), (⟨w.heap.size + 1 + 1, 2, none⟩, .int .i64 n)] [] (((w.alloc (.cells #[.slice bp ns.length cap] 24)).alloc (.cells #[.float .f32 a, .float .f32 b, .float .f32 c, .float .f32 d, .float .f32 e, .float .f32 f] 66)).alloc (.cells #[.float .f32 near, .float .f32 most, .int .i64 n] 59)) := by
      simp only [Kept, List.forall_mem_append, List.forall_mem_cons, List.not_mem_nil, false_implies, implies_true, and_true, true_and]; (first | (go_simp; done) | (simp [World.cell?, World.frozen?, World.alloc, Array.getElem?_push]; done))
    generalize ((w.alloc (.cells #[.slice bp ns.length cap] 24)).alloc (.cells #[.float .f32 a, .float .f32 b, .float .f32 c, .float .f32 d, .float .f32 e, .float .f32 f] 66)).alloc (.cells #[.float .f32 near, .float .f32 most, .int .i64 n] 59) = W1 at *
    refine (hsz _ W1b).mono ?_
    rintro _ w2 ⟨rfl, hb2⟩
    have W2b := below_step W1b hb2
    have hkept := keep hkept hb2
    clear hb2 W1b hsz
    go_upto_region 5 with fail
    refine Qg.wp_gdH 11 (by kernel_rfl) (by kernel_rfl) (by kernel_rfl) (by intro c a x v w h; cases x <;> exact h) (PhiW ns.length bv) (GdL ns w2 [20] [(8, #[.int .i64 0, .int .i64 0, F1 0, F1 0, F1 0, F1 0], 68)] 25 (ResW R)) [8] (gdl_lasts ..) (gdl_start (by intro d hd; simp at hd; rcases hd with rfl | rfl | rfl <;> rfl) rfl) ?_
    intro hC0
    repeat (first
      | (refine Qg.walk_step fun K hK => ?_; apply Qg.one_det hC0 (by intro d hd; cases hd; decide) rfl; (focus (intro w' hw'; have HK := keep hkept hw'; simp only [Kept, List.forall_mem_append, List.forall_mem_cons, List.not_mem_nil, false_implies, implies_true, and_true, true_and] at HK; go_simp; first | done | rfl)); (focus (intro w' hw' hs; exact gdl_no (by decide) (by decide) (by decide))); go_simp; refine hK _ ?_; clear hK K)
      | (refine Qg.walk_step fun K hK => ?_; refine Qg.one_new (.cells #[.int .i64 0, .int .i64 0, F1 0, F1 0, F1 0, F1 0] 68) hC0 rfl ?_ ?_ ?_ ?_; (focus (intro w' hw'; go_simp; first | done | rfl)); (focus (intro w' hw'; exact hw'.alloc hw'.size _)); (focus (intro w' hw'; exact gdl_new (by decide) (by simp) (by decide) hw')); intro _; go_simp; refine hK _ ?_; clear hK K)
      | (refine Qg.walk_step fun K hK => ?_; apply Qg.one_call _ _ hC0 (by intro d hd; cases hd; decide) rfl; (focus (intro w' hw'; go_simp; first | done | exact ⟨rfl, rfl⟩)); (focus (apply Exists.intro; (constructor <;> exact (0 : Nat)))); (focus (intro w' hw' hs;  go_at_call 15; (refine (hto _ (below_step W2b hw')).mono ?_); rintro _ wA ⟨G, rfl, hnew, hG, hb1⟩; exact ⟨_, rfl, PhiW.shape _ _, gdl_shape hnew (by decide) (by decide), below_step hw' hb1, hb1⟩ )); intro v hv; cases hv; go_simp; refine hK _ ?_; clear hK K)
      | (refine Qg.walk_step fun K hK => ?_; apply Qg.one_call _ _ hC0 (by intro d hd; cases hd; decide) rfl; (focus (intro w' hw'; go_simp; first | done | exact ⟨rfl, rfl⟩)); (focus (apply Exists.intro; (constructor <;> exact (0 : Nat)))); (focus (intro w' hw' hs;  go_at_call 37; refine (to_ray _ _ _ _ _ _ _).mono ?_; rintro _ wA ⟨rfl, hb1⟩; exact ⟨_, rfl, PhiW.ray _ _ _ _ _ _, gdl_no (by decide) (by decide) (by decide), below_step hw' hb1, hb1⟩ )); intro v hv; cases hv; go_simp; refine hK _ ?_; clear hK K)
      | (refine Qg.walk_step fun K hK => ?_; apply Qg.one_call _ _ hC0 (by intro d hd; cases hd; decide) rfl; (focus (intro w' hw'; go_simp; first | done | exact ⟨rfl, rfl⟩)); (focus (apply Exists.intro; (constructor <;> exact (0 : Nat)))); (focus (intro w' hw' hs;  go_at_call 34; refine (to_march _ _ _ _).mono ?_; rintro _ wA ⟨rfl, hb1⟩; exact ⟨_, rfl, PhiW.mar _ _ _, gdl_no (by decide) (by decide) (by decide), below_step hw' hb1, hb1⟩ )); intro v hv; cases hv; go_simp; refine hK _ ?_; clear hK K)
      | (refine Qg.walk_step fun K hK => ?_; apply Qg.one_call _ _ hC0 (by intro d hd; cases hd; decide) rfl; (focus (intro w' hw'; go_simp; first | done | exact ⟨rfl, rfl⟩)); (focus (apply Exists.intro; (constructor <;> exact (0 : Nat)))); (focus (intro w' hw' hs;  go_at_call 36; refine (hspec _ _ ((hs 20 (of_decide_eq_true (by kernel_rfl))).1 (by decide) _ rfl)).mono ?_; rintro _ wA ⟨k1, s1, f1, x1, y1, z1, rfl, hp, hb1⟩; exact ⟨_, rfl, PhiW.spec _ _ _ _ _ _ _, gdl_res (by decide) (by decide) (by intro _ _ _ _ _ _ _ h; obtain ⟨rfl, rfl, rfl, rfl, rfl, rfl⟩ := hit_inj h; exact hp), below_step hw' hb1, hb1⟩ )); intro v hv; cases hv; go_simp; refine hK _ ?_; clear hK K))
    rename_i G k1 s1 f1 x1 y1 z1 g10
    refine Qg.walk_nil fun w6 hw6 hE => ?_
    have hp : (k1, s1, cn .f32 f1, cn .f32 x1, cn .f32 y1, cn .f32 z1) = R := by
      rcases (hE.1 25).2.2 rfl with h | h
      · cases h
      · exact h _ _ _ _ _ _ _ rfl
    obtain ⟨g, e1, hg10, hgc10⟩ := (hE.1 8).2.1 (8, #[.int .i64 0, .int .i64 0, F1 0, F1 0, F1 0, F1 0], 68) (by simp) rfl _ rfl
    injection e1 with e1; injection e1 with e1; subst e1
    clear hE
    obtain ⟨⟨p0, p1, p2, p3, p4, p5⟩, q0, q1, q2, q3, q4, q5⟩ := cells6 hgc10
    go_upto_region 6 with fail
    obtain ⟨hk6, hb6⟩ := one6 hgc10 hg10 (.int .i64 (k1 : Int)) (.int .i64 (s1 : Int)) (F1 f1) (F1 x1) (F1 y1) (F1 z1)
    clear p0 p1 p2 p3 p4 p5 q0 q1 q2 q3 q4 q5 hgc10 hg10
    have hw7 := hw6.trans hb6
    clear hw6 hb6
    generalize (((((w6.setCell ⟨g10, 0, none⟩ (.int .i64 (k1 : Int))).setCell ⟨g10, 1, none⟩ (.int .i64 (s1 : Int))).setCell ⟨g10, 2, none⟩ (F1 f1)).setCell ⟨g10, 3, none⟩ (F1 x1)).setCell ⟨g10, 4, none⟩ (F1 y1)).setCell ⟨g10, 5, none⟩ (F1 z1) = w7 at *
    have hkept := kept_app (keep hkept hw7) hk6
    have W7b := below_step W2b hw7
    clear hk6 hw7 hC0
    have hK := hkept; simp only [Kept, List.forall_mem_append, List.forall_mem_cons, List.not_mem_nil, false_implies, implies_true, and_true, true_and] at hK
    go_upto_region 7 with (go_at_call 15; refine (hto _ W7b).mono ?_; rintro _ wA ⟨H, rfl, hnew, hH, hb1⟩)
    have hb7 : Below wA.heap.size wA (wA.alloc (.cells #[.slice (some ⟨H, 0, none⟩) ns.length ns.length] 33)) := (Below.refl _ _).alloc (Nat.le_refl _) _
    have hnew : ∀ i (h : i < ns.length), NodeNew ns[i] H (0 + i * 4) (wA.alloc (.cells #[.slice (some ⟨H, 0, none⟩) ns.length ns.length] 33)) := fun i h => (hnew i h).keep hb7
    have W8b := below_step (below_step W7b hb1) hb7
    have hkept := kept_app (keep (keep hkept hb1) hb7) (show Kept [(⟨wA.heap.size, 0, none⟩, .slice (some ⟨H, 0, none⟩) ns.length ns.length)] [] (wA.alloc (.cells #[.slice (some ⟨H, 0, none⟩) ns.length ns.length] 33)) by simp only [Kept, List.forall_mem_append, List.forall_mem_cons, List.not_mem_nil, false_implies, implies_true, and_true, true_and]; simp)
    clear hK hb1 hb7 W7b hH
    generalize wA.alloc (.cells #[.slice (some ⟨H, 0, none⟩) ns.length ns.length] 33) = w8 at *
    refine Qg.wp_gdH 10 (by kernel_rfl) (by kernel_rfl) (by kernel_rfl) (by intro c a x v w h; cases x <;> exact h) (PhiW ns.length bv) (GdL ns w8 [] [(11, #[.int .i64 0, .int .i64 0, F1 0, F1 0, F1 0, F1 0], 68)] 36 (ResW R)) [11] (gdl_lasts ..) (gdl_start (by intro d hd; simp at hd; rcases hd with rfl | rfl <;> rfl) rfl) ?_
    intro hC0
    repeat (first
      | (refine Qg.walk_step fun K hK => ?_; apply Qg.one_det hC0 (by intro d hd; cases hd; decide) rfl; (focus (intro w' hw'; have HK := keep hkept hw'; simp only [Kept, List.forall_mem_append, List.forall_mem_cons, List.not_mem_nil, false_implies, implies_true, and_true, true_and] at HK; go_simp; first | done | rfl)); (focus (intro w' hw' hs; exact gdl_no (by decide) (by decide) (by decide))); go_simp; refine hK _ ?_; clear hK K)
      | (refine Qg.walk_step fun K hK => ?_; refine Qg.one_new (.cells #[.int .i64 0, .int .i64 0, F1 0, F1 0, F1 0, F1 0] 68) hC0 rfl ?_ ?_ ?_ ?_; (focus (intro w' hw'; go_simp; first | done | rfl)); (focus (intro w' hw'; exact hw'.alloc hw'.size _)); (focus (intro w' hw'; exact gdl_new (by decide) (by simp) (by decide) hw')); intro _; go_simp; refine hK _ ?_; clear hK K)
      | (refine Qg.walk_step fun K hK => ?_; apply Qg.one_call _ _ hC0 (by intro d hd; cases hd; decide) rfl; (focus (intro w' hw'; go_simp; first | done | exact ⟨rfl, rfl⟩)); (focus (apply Exists.intro; (constructor <;> exact (0 : Nat)))); (focus (intro w' hw' hs;  go_at_call 37; refine (to_ray _ _ _ _ _ _ _).mono ?_; rintro _ wA ⟨rfl, hb1⟩; exact ⟨_, rfl, PhiW.ray _ _ _ _ _ _, gdl_no (by decide) (by decide) (by decide), below_step hw' hb1, hb1⟩ )); intro v hv; cases hv; go_simp; refine hK _ ?_; clear hK K)
      | (refine Qg.walk_step fun K hK => ?_; apply Qg.one_call _ _ hC0 (by intro d hd; cases hd; decide) rfl; (focus (intro w' hw'; go_simp; first | done | exact ⟨rfl, rfl⟩)); (focus (apply Exists.intro; (constructor <;> exact (0 : Nat)))); (focus (intro w' hw' hs;  go_at_call 34; refine (to_march _ _ _ _).mono ?_; rintro _ wA ⟨rfl, hb1⟩; exact ⟨_, rfl, PhiW.mar _ _ _, gdl_no (by decide) (by decide) (by decide), below_step hw' hb1, hb1⟩ )); intro v hv; cases hv; go_simp; refine hK _ ?_; clear hK K)
      | (refine Qg.walk_step fun K hK => ?_; apply Qg.one_call _ _ hC0 (by intro d hd; cases hd; decide) rfl; (focus (intro w' hw'; go_simp; first | done | exact ⟨rfl, rfl⟩)); (focus (apply Exists.intro; (constructor <;> exact (0 : Nat)))); (focus (intro w' hw' hs;  go_at_call 38; refine (himpl _ _ (fun i h => (hnew i h).keep hw')).mono ?_; rintro _ wA ⟨k2, s2, f2, x2, y2, z2, rfl, hq, hb1⟩; exact ⟨_, rfl, PhiW.impl _ _ _ _ _ _ _, gdl_res (by decide) (by decide) (by intro _ _ _ _ _ _ _ h; obtain ⟨rfl, rfl, rfl, rfl, rfl, rfl⟩ := hit_inj h; exact hq), below_step hw' hb1, hb1⟩ )); intro v hv; cases hv; go_simp; refine hK _ ?_; clear hK K))
    rename_i k2 s2 f2 x2 y2 z2 g14
    refine Qg.walk_nil fun w9 hw9 hE => ?_
    have hq : (k2, s2, cn .f32 f2, cn .f32 x2, cn .f32 y2, cn .f32 z2) = R := by
      rcases (hE.1 36).2.2 rfl with h | h
      · cases h
      · exact h _ _ _ _ _ _ _ rfl
    obtain ⟨g, e1, hg14, hgc14⟩ := (hE.1 11).2.1 (11, #[.int .i64 0, .int .i64 0, F1 0, F1 0, F1 0, F1 0], 68) (by simp) rfl _ rfl
    injection e1 with e1; injection e1 with e1; subst e1
    clear hE
    have hpq := hq.trans hp.symm
    rw [Prod.mk.injEq, Prod.mk.injEq, Prod.mk.injEq, Prod.mk.injEq, Prod.mk.injEq] at hpq
    obtain ⟨rfl, rfl, e1, e2, e3, e4⟩ := hpq
    clear hp hq
    obtain ⟨⟨p0, p1, p2, p3, p4, p5⟩, q0, q1, q2, q3, q4, q5⟩ := cells6 hgc14
    go_upto_region 8 with fail
    obtain ⟨hk9, hb9⟩ := one6 hgc14 hg14 (.int .i64 (k2 : Int)) (.int .i64 (s2 : Int)) (F1 f2) (F1 x2) (F1 y2) (F1 z2)
    clear p0 p1 p2 p3 p4 p5 q0 q1 q2 q3 q4 q5 hgc14 hg14
    have hw10 := hw9.trans hb9
    clear hw9 hb9
    generalize (((((w9.setCell ⟨g14, 0, none⟩ (.int .i64 (k2 : Int))).setCell ⟨g14, 1, none⟩ (.int .i64 (s2 : Int))).setCell ⟨g14, 2, none⟩ (F1 f2)).setCell ⟨g14, 3, none⟩ (F1 x2)).setCell ⟨g14, 4, none⟩ (F1 y2)).setCell ⟨g14, 5, none⟩ (F1 z2) = w10 at *
    have hkept := kept_app (keep hkept hw10) hk9
    have W10b := below_step W8b hw10
    have hnew10 : ∀ i (h : i < ns.length), NodeNew ns[i] H (0 + i * 4) w10 := fun i h => (hnew i h).keep hw10
    clear hk9 hw10 hC0 hnew
    have hK := hkept; simp only [Kept, List.forall_mem_append, List.forall_mem_cons, List.not_mem_nil, false_implies, implies_true, and_true, true_and] at hK
    have hRR : (bv != bv) = false := by simp
    go_upto_region 10 with (go_at_call 39; refine (eq_hit _ _ _ _ _ _ _ _ _ _ (by with_reducible assumption) (by with_reducible assumption) (by with_reducible assumption) (by with_reducible assumption) _).mono ?_; rintro _ w6 ⟨rfl, hb1⟩; have W10b := below_step W10b hb1; have hnew10 := fun i h => NodeNew.keep (hnew10 i h) hb1; have hkept := keepT hkept hb1 rfl; clear hK; have hK := hkept; simp only [Kept, List.forall_mem_append, List.forall_mem_cons, List.not_mem_nil, false_implies, implies_true, and_true, true_and] at hK)
    clear hK e1 e2 e3 e4 hb1
    refine Qg.wp_gd_all (by kernel_rfl) (by kernel_rfl) (PhiW ns.length bv) (GdL ns w6 [50] [] 1000 (fun _ => True)) [] (gdl_lasts ..) (gdl_start (by intro d hd; simp at hd; rcases hd with rfl | rfl <;> rfl) rfl) ?_
    intro hC0
    repeat (first
      | (refine Qg.walk_step fun K hK => ?_; apply Qg.one_det hC0 (by intro d hd; cases hd; decide) rfl; (focus (intro w' hw'; have HK := keep hkept hw'; simp only [Kept, List.forall_mem_append, List.forall_mem_cons, List.not_mem_nil, false_implies, implies_true, and_true, true_and] at HK; go_simp; first | done | rfl)); (focus (intro w' hw' hs; exact gdl_no (by decide) (by decide) (by decide))); go_simp; refine hK _ ?_; clear hK K)
      | (refine Qg.walk_step fun K hK => ?_; apply Qg.one_call _ _ hC0 (by intro d hd; cases hd; decide) rfl; (focus (intro w' hw'; go_simp; first | done | exact ⟨rfl, rfl⟩)); (focus (apply Exists.intro; (constructor <;> exact (0 : Nat)))); (focus (intro w' hw' hs;  go_at_call 15; (refine (hto _ (below_step W10b hw')).mono ?_); rintro _ wA ⟨G, rfl, hnew, hG, hb1⟩; exact ⟨_, rfl, PhiW.shape _ _, gdl_shape hnew (by decide) (by decide), below_step hw' hb1, hb1⟩ )); intro v hv; cases hv; go_simp; refine hK _ ?_; clear hK K)
      | (refine Qg.walk_step fun K hK => ?_; apply Qg.one_call _ _ hC0 (by intro d hd; cases hd; decide) rfl; (focus (intro w' hw'; go_simp; first | done | exact ⟨rfl, rfl⟩)); (focus (apply Exists.intro; (constructor <;> exact (0 : Nat)))); (focus (intro w' hw' hs;  go_at_call 19; refine (heq _ _ _ (fun i h => (hnew10 i h).keep hw') ((hs 50 (of_decide_eq_true (by kernel_rfl))).1 (by decide) _ rfl)).mono ?_; rintro _ wA ⟨rfl, hb1⟩; exact ⟨_, rfl, PhiW.eqs _, gdl_no (by decide) (by decide) (by decide), below_step hw' hb1, hb1⟩ )); intro v hv; cases hv; go_simp; refine hK _ ?_; clear hK K))
    refine Qg.walk_nil fun w11 hw11 hE => ?_
    have W11b := below_step W10b hw11
    clear hE
    go_wp2_with fail
    go_ret
    exact ⟨rfl, W11b⟩
end Go.Proofs.YtdbpgblhnhdhoaaGreat
