/-
  Walk of the statement: CrossingAt.
-/
import Derived.Test.YtdbpgblhnhdhoaaGreatX10
import Derived.Test.YtdbpgblhnhdhoaaGreatLg
set_option linter.unusedVariables false
set_option linter.unusedSimpArgs false
namespace Go.Proofs.YtdbpgblhnhdhoaaGreat
open Go.RowKit Go.Fl

inductive PhiX (n : Nat) (bv : Bool) : FuncId → Array Value → Value → Prop
  | shape (args : Array Value) (G : Nat) : PhiX n bv 15 args (.agg #[.slice (some ⟨G, 0, none⟩) n n])
  | vec (x y z : Nat) : PhiX n bv 16 #[V3 x y z] (V3 x y z)
  | spec (args : Array Value) (a b c a' b' c' : Nat) : PhiX n bv 20 args (.tuple #[V3 a b c, V3 a' b' c', .bool bv])
  | impl (args : Array Value) (a b c a' b' c' : Nat) : PhiX n bv 21 args (.tuple #[V3 a b c, V3 a' b' c', .bool bv])
  | eqs (args : Array Value) : PhiX n bv 19 args (.bool true)

def ResX (bv : Bool) (p q : Nat × Nat × Nat) (v : Value) : Prop := ∀ a b c a' b' c' ok, v = .tuple #[V3 a b c, V3 a' b' c', .bool ok] → (cn .f32 a, cn .f32 b, cn .f32 c) = p ∧ (cn .f32 a', cn .f32 b', cn .f32 c') = q

set_option maxRecDepth 100000 in
set_option maxHeartbeats 16000000 in
theorem law_cross (ns : List PN) (bp : Option Addr) (nb no cap x y z x' y' z' : Nat) (c : Int) (w : World) (hns : NodesIn ns bp nb no w) :
    Calls Tryz.prog 4 #[.agg #[.slice bp ns.length cap], V3 x y z, V3 x' y' z', .int .i64 c] w (fun e w' => e = .returned (.bool true) ∧ Below w.heap.size w w') := by
  have hsz : ∀ w', Below w.heap.size w w' → Calls Tryz.prog 13 #[.agg #[.slice bp ns.length cap], .int .i64 1048576] w' (fun e w'' => e = .returned (.int .i64 (szS ns 1048576)) ∧ Below w'.heap.size w' w'') :=
    fun w' hb => sz_shape ns bp nb no cap 1048576 w' (hns.keep hb) (by omega)
  by_cases hneg : szS ns 1048576 < 0
  · have hm := szS_neg hneg
    rw [hm] at hsz
    clear hm hneg hns
    go_enter Tryz.func4, Tryz.ntmps4
    go_wp2_with (go_at_call 13; refine (hsz _ (by repeat' (first | exact Below.refl _ _ | exact Nat.le_refl _ | refine below_drewN ?_ _ | refine Below.alloc ?_ (by first | (simp; done) | (simp; omega)) _ | refine Below.setCell ?_ (by first | (simp; done) | (simp; omega)) _ | refine below_step ?_ (by assumption)))).mono ?_; rintro _ w2 ⟨rfl, hb2⟩)
    go_ret
    exact ⟨rfl, (by repeat' (first | exact Below.refl _ _ | exact Nat.le_refl _ | refine below_drewN ?_ _ | refine Below.alloc ?_ (by first | (simp; done) | (simp; omega)) _ | refine Below.setCell ?_ (by first | (simp; done) | (simp; omega)) _ | refine below_step ?_ (by assumption)))⟩
  · obtain ⟨hsm, hnsm⟩ := szS_small (by omega) (by omega) hneg
    have hpos : 0 ≤ szS ns 1048576 := by omega
    clear hneg
    generalize szS ns 1048576 = sz at *
    have hto : ∀ w', Below w.heap.size w w' → Calls Tryz.prog 15 #[.agg #[.slice bp ns.length cap]] w' (RetSh ns w') := fun w' hb => to_shape ns hsm hnsm bp nb no cap w' (hns.keep hb)
    have hnum : ∀ n ∈ ns, n.nums.length < 10000000 := fun n hn => by have := hnsm n hn; omega
    have hl7 : ns.length < 10000000 := by omega
    obtain ⟨hs1, hs2⟩ := cross_same ns (cn .f32 x, cn .f32 y, cn .f32 z) (cn .f32 x', cn .f32 y', cn .f32 z') c
    obtain ⟨bv, hbv⟩ : ∃ bv, bv = crossOk (validF ns) (topF ns) (cn .f32 x, cn .f32 y, cn .f32 z) (cn .f32 x', cn .f32 y', cn .f32 z') c := ⟨_, rfl⟩
    obtain ⟨RP, hRP⟩ : ∃ RP, RP = (if bv then (crossGo (topF ns) (ltk .f32 (topF ns (cn .f32 x, cn .f32 y, cn .f32 z)) 0) c.toNat (cn .f32 x, cn .f32 y, cn .f32 z) (cn .f32 x', cn .f32 y', cn .f32 z')).1 else (0, 0, 0)) := ⟨_, rfl⟩
    obtain ⟨RQ, hRQ⟩ : ∃ RQ, RQ = (if bv then (crossGo (topF ns) (ltk .f32 (topF ns (cn .f32 x, cn .f32 y, cn .f32 z)) 0) c.toNat (cn .f32 x, cn .f32 y, cn .f32 z) (cn .f32 x', cn .f32 y', cn .f32 z')).2 else (0, 0, 0)) := ⟨_, rfl⟩
    have hspec : ∀ G (w' : World), (∀ i (h : i < ns.length), NodeNew ns[i] G (0 + i * 4) w') → Calls Tryz.prog 20 #[.agg #[.slice (some ⟨G, 0, none⟩) ns.length ns.length], V3 x y z, V3 x' y' z', .int .i64 c] w' (fun e w'' => (∃ a b c a' b' c', e = .returned (.tuple #[V3 a b c, V3 a' b' c', .bool bv]) ∧ (cn .f32 a, cn .f32 b, cn .f32 c) = RP ∧ (cn .f32 a', cn .f32 b', cn .f32 c') = RQ) ∧ Below w'.heap.size w' w'') := fun G w' hn => by
      refine (s_cross_any ns hnum (fun h => (valid_ok (by rw [← valid_same]; exact h)).2) G 0 ns.length x y z x' y' z' c (some ⟨G, 0, none⟩) w' (fun _ => rfl) (fun i h => (hn i h).into) hl7).mono ?_
      rintro e w'' ⟨a, b, c, a', b', c', h1, h2, h3, h4⟩
      rw [hs1, ← hbv] at h1 h2 h3
      refine ⟨⟨a, b, c, a', b', c', h1, ?_, ?_⟩, h4⟩
      · rw [h2, hRP]; cases hb : bv
        · rfl
        · rw [hs2 (by rw [← hbv]; exact hb)]
      · rw [h3, hRQ]; cases hb : bv
        · rfl
        · rw [hs2 (by rw [← hbv]; exact hb)]
    have himpl : ∀ G (w' : World), (∀ i (h : i < ns.length), NodeNew ns[i] G (0 + i * 4) w') → Calls Tryz.prog 21 #[.agg #[.slice (some ⟨G, 0, none⟩) ns.length ns.length], V3 x y z, V3 x' y' z', .int .i64 c] w' (fun e w'' => (∃ a b c a' b' c', e = .returned (.tuple #[V3 a b c, V3 a' b' c', .bool bv]) ∧ (cn .f32 a, cn .f32 b, cn .f32 c) = RP ∧ (cn .f32 a', cn .f32 b', cn .f32 c') = RQ) ∧ Below w'.heap.size w' w'') := fun G w' hn => by
      refine (cross_any ns hnum G 0 ns.length x y z x' y' z' c (some ⟨G, 0, none⟩) w' (fun _ => rfl) (fun i h => (hn i h).into) hl7).mono ?_
      rintro e w'' ⟨a, b, c, a', b', c', h1, h2, h3, h4⟩
      rw [← hbv] at h1 h2 h3
      exact ⟨⟨a, b, c, a', b', c', h1, by rw [h2, hRP], by rw [h3, hRQ]⟩, h4⟩
    clear hRP hRQ hbv hs1 hs2
    have heq : ∀ G H (w' : World), (∀ i (h : i < ns.length), NodeNew ns[i] G (0 + i * 4) w') → (∀ i (h : i < ns.length), NodeNew ns[i] H (0 + i * 4) w') → Calls Tryz.prog 19 #[.agg #[.slice (some ⟨G, 0, none⟩) ns.length ns.length], .agg #[.slice (some ⟨H, 0, none⟩) ns.length ns.length]] w' (fun e w'' => e = .returned (.bool true) ∧ Below w'.heap.size w' w'') :=
      fun G H w' h1 h2 => eq_shape ns hsm hnsm G H _ _ w' h1 h2
    clear hnsm hnum hns
    go_enter Tryz.func4, Tryz.ntmps4
    go_wp2_with fail
    have W1b : Below w.heap.size w (((w.alloc (.cells #[.slice bp ns.length cap] 24)).alloc (.cells #[.float .f32 x, .float .f32 y, .float .f32 z] 27)).alloc (.cells #[.float .f32 x', .float .f32 y', .float .f32 z'] 27)) := (by repeat' (first | exact Below.refl _ _ | exact Nat.le_refl _ | refine below_drewN ?_ _ | refine Below.alloc ?_ (by first | (simp; done) | (simp; omega)) _ | refine Below.setCell ?_ (by first | (simp; done) | (simp; omega)) _ | refine below_step ?_ (by assumption)))
    
    have hkept : Kept [(⟨w.heap.size, 0, none⟩, .slice bp ns.length cap), (⟨w.heap.size + 1, 0, none⟩, .float .f32 x), (⟨w.heap.size + 1, 1, none⟩, .float .f32 y), (⟨w.heap.size + 1, 2, none⟩, .float .f32 z), (⟨w.heap.size + 1 + 1, 0, none⟩, .float .f32 x'), (⟨w.heap.size + 1 + 1, 1, none⟩, .float .f32 y'), (⟨w.heap.size + 1 + 1, 2, none⟩, .float .f32 z')] [] (((w.alloc (.cells #[.slice bp ns.length cap] 24)).alloc (.cells #[.float .f32 x, .float .f32 y, .float .f32 z] 27)).alloc (.cells #[.float .f32 x', .float .f32 y', .float .f32 z'] 27)) := by
      simp only [Kept, List.forall_mem_append, List.forall_mem_cons, List.not_mem_nil, false_implies, implies_true, and_true, true_and]; (first | (go_simp; done) | (simp [World.cell?, World.frozen?, World.alloc, Array.getElem?_push]; done))
    generalize ((w.alloc (.cells #[.slice bp ns.length cap] 24)).alloc (.cells #[.float .f32 x, .float .f32 y, .float .f32 z] 27)).alloc (.cells #[.float .f32 x', .float .f32 y', .float .f32 z'] 27) = W1 at *
    refine (hsz _ W1b).mono ?_
    rintro _ w2 ⟨rfl, hb2⟩
    have W2b := below_step W1b hb2
    have hkept := keep hkept hb2
    clear hb2 W1b hsz
    go_upto_region 5 with fail
    refine Qg.wp_gdH 14 (by kernel_rfl) (by kernel_rfl) (by kernel_rfl) (by intro c a x v w h; cases x <;> exact h) (PhiX ns.length bv) (GdL ns w2 [24] [(10, #[F1 0, F1 0, F1 0], 35), (11, #[F1 0, F1 0, F1 0], 35)] 30 (ResX bv RP RQ)) [10, 11] (gdl_lasts ..) (gdl_start (by intro d hd; simp at hd; rcases hd with rfl | rfl | rfl | rfl <;> rfl) rfl) ?_
    intro hC0
    repeat (first
      | (refine Qg.walk_step fun K hK => ?_; apply Qg.one_det hC0 (by intro d hd; cases hd; decide) rfl; (focus (intro w' hw'; have HK := keep hkept hw'; simp only [Kept, List.forall_mem_append, List.forall_mem_cons, List.not_mem_nil, false_implies, implies_true, and_true, true_and] at HK; go_simp; first | done | rfl)); (focus (intro w' hw' hs; exact gdl_no (by decide) (by decide) (by decide))); go_simp; refine hK _ ?_; clear hK K)
      | (refine Qg.walk_step fun K hK => ?_; refine Qg.one_new (.cells #[F1 0, F1 0, F1 0] 35) hC0 rfl ?_ ?_ ?_ ?_; (focus (intro w' hw'; go_simp; first | done | rfl)); (focus (intro w' hw'; exact hw'.alloc hw'.size _)); (focus (intro w' hw'; exact gdl_new (by decide) (by simp) (by decide) hw')); intro _; go_simp; refine hK _ ?_; clear hK K)
      | (refine Qg.walk_step fun K hK => ?_; apply Qg.one_call _ _ hC0 (by intro d hd; cases hd; decide) rfl; (focus (intro w' hw'; go_simp; first | done | exact ⟨rfl, rfl⟩)); (focus (apply Exists.intro; (constructor <;> exact (0 : Nat)))); (focus (intro w' hw' hs;  go_at_call 15; (refine (hto _ (below_step W2b hw')).mono ?_); rintro _ wA ⟨G, rfl, hnew, hG, hb1⟩; exact ⟨_, rfl, PhiX.shape _ _, gdl_shape hnew (by decide) (by decide), below_step hw' hb1, hb1⟩ )); intro v hv; cases hv; go_simp; refine hK _ ?_; clear hK K)
      | (refine Qg.walk_step fun K hK => ?_; apply Qg.one_call _ _ hC0 (by intro d hd; cases hd; decide) rfl; (focus (intro w' hw'; go_simp; first | done | exact ⟨rfl, rfl⟩)); (focus (apply Exists.intro; (constructor <;> exact (0 : Nat)))); (focus (intro w' hw' hs;  go_at_call 16; refine (to_vector _ _ _ _).mono ?_; rintro _ wA ⟨rfl, hb1⟩; exact ⟨_, rfl, PhiX.vec _ _ _, gdl_no (by decide) (by decide) (by decide), below_step hw' hb1, hb1⟩ )); intro v hv; cases hv; go_simp; refine hK _ ?_; clear hK K)
      | (refine Qg.walk_step fun K hK => ?_; apply Qg.one_call _ _ hC0 (by intro d hd; cases hd; decide) rfl; (focus (intro w' hw'; go_simp; first | done | exact ⟨rfl, rfl⟩)); (focus (apply Exists.intro; (constructor <;> exact (0 : Nat)))); (focus (intro w' hw' hs;  go_at_call 20; refine (hspec _ _ ((hs 24 (of_decide_eq_true (by kernel_rfl))).1 (by decide) _ rfl)).mono ?_; rintro _ wA ⟨⟨a1, b1, c1, a2, b2, c2, rfl, hp, hq⟩, hb1⟩; exact ⟨_, rfl, PhiX.spec _ _ _ _ _ _ _, gdl_res (by decide) (by decide) (by intro _ _ _ _ _ _ _ h; cases h; exact ⟨hp, hq⟩), below_step hw' hb1, hb1⟩ )); intro v hv; cases hv; go_simp; refine hK _ ?_; clear hK K))
    rename_i G a1 b1 c1 a2 b2 c2 g10 g11
    refine Qg.walk_nil fun w6 hw6 hE => ?_
    obtain ⟨hp, hq⟩ : (cn .f32 a1, cn .f32 b1, cn .f32 c1) = RP ∧ (cn .f32 a2, cn .f32 b2, cn .f32 c2) = RQ := by
      rcases (hE.1 30).2.2 rfl with h | h
      · cases h
      · exact h _ _ _ _ _ _ _ rfl
    obtain ⟨g, e1, hg10, hgc10⟩ := (hE.1 10).2.1 (10, #[F1 0, F1 0, F1 0], 35) (by simp) rfl _ rfl
    injection e1 with e1; injection e1 with e1; subst e1
    obtain ⟨g, e1, hg11, hgc11⟩ := (hE.1 11).2.1 (11, #[F1 0, F1 0, F1 0], 35) (by simp) rfl _ rfl
    injection e1 with e1; injection e1 with e1; subst e1
    have hgne : g10 ≠ g11 := by intro e; subst e; exact hE.2.2 10 (by simp) 11 (by simp) (by decide) _ rfl rfl
    clear hE
    obtain ⟨p0, p1, p2, p3, p4, p5⟩ := cells3 hgc10
    obtain ⟨q0, q1, q2, q3, q4, q5⟩ := cells3 hgc11
    go_upto_region 6 with fail
    obtain ⟨hk6, hb6⟩ := two3 hgc10 hgc11 hgne ⟨hg10, hg11⟩ (F1 a1) (F1 b1) (F1 c1) (F1 a2) (F1 b2) (F1 c2)
    clear p0 p1 p2 p3 p4 p5 q0 q1 q2 q3 q4 q5 hgc10 hgc11 hgne hg10 hg11
    have hw7 := hw6.trans hb6
    clear hw6 hb6
    generalize (((((w6.setCell ⟨g10, 0, none⟩ (F1 a1)).setCell ⟨g10, 1, none⟩ (F1 b1)).setCell ⟨g10, 2, none⟩ (F1 c1)).setCell ⟨g11, 0, none⟩ (F1 a2)).setCell ⟨g11, 1, none⟩ (F1 b2)).setCell ⟨g11, 2, none⟩ (F1 c2) = w7 at *
    have hkept := kept_app (keep hkept hw7) hk6
    have W7b := below_step W2b hw7
    clear hk6 hw7 hC0
    have hK := hkept; simp only [Kept, List.forall_mem_append, List.forall_mem_cons, List.not_mem_nil, false_implies, implies_true, and_true, true_and] at hK
    go_upto_region 7 with (go_at_call 15; refine (hto _ W7b).mono ?_; rintro _ wA ⟨H, rfl, hnew, hH, hb1⟩)
    have hb7 : Below wA.heap.size wA (wA.alloc (.cells #[.slice (some ⟨H, 0, none⟩) ns.length ns.length] 33)) := (Below.refl _ _).alloc (Nat.le_refl _) _
    have hnew : ∀ i (h : i < ns.length), NodeNew ns[i] H (0 + i * 4) (wA.alloc (.cells #[.slice (some ⟨H, 0, none⟩) ns.length ns.length] 33)) := fun i h => (hnew i h).keep hb7
    have W8b := below_step (below_step W7b hb1) hb7
    have hkept := kept_app (keep (keep hkept hb1) hb7) (show Kept [(⟨wA.heap.size, 0, none⟩, .slice (some ⟨H, 0, none⟩) ns.length ns.length)] [] (wA.alloc (.cells #[.slice (some ⟨H, 0, none⟩) ns.length ns.length] 33)) by simp only [Kept, List.forall_mem_append, List.forall_mem_cons, List.not_mem_nil, false_implies, implies_true, and_true, true_and]; simp)
    clear hK hb1 hb7 W7b hH
    generalize wA.alloc (.cells #[.slice (some ⟨H, 0, none⟩) ns.length ns.length] 33) = w8 at *
    refine Qg.wp_gdH 13 (by kernel_rfl) (by kernel_rfl) (by kernel_rfl) (by intro c a x v w h; cases x <;> exact h) (PhiX ns.length bv) (GdL ns w8 [] [(14, #[F1 0, F1 0, F1 0], 35), (15, #[F1 0, F1 0, F1 0], 35)] 43 (ResX bv RP RQ)) [14, 15] (gdl_lasts ..) (gdl_start (by intro d hd; simp at hd; rcases hd with rfl | rfl | rfl <;> rfl) rfl) ?_
    intro hC0
    repeat (first
      | (refine Qg.walk_step fun K hK => ?_; apply Qg.one_det hC0 (by intro d hd; cases hd; decide) rfl; (focus (intro w' hw'; have HK := keep hkept hw'; simp only [Kept, List.forall_mem_append, List.forall_mem_cons, List.not_mem_nil, false_implies, implies_true, and_true, true_and] at HK; go_simp; first | done | rfl)); (focus (intro w' hw' hs; exact gdl_no (by decide) (by decide) (by decide))); go_simp; refine hK _ ?_; clear hK K)
      | (refine Qg.walk_step fun K hK => ?_; refine Qg.one_new (.cells #[F1 0, F1 0, F1 0] 35) hC0 rfl ?_ ?_ ?_ ?_; (focus (intro w' hw'; go_simp; first | done | rfl)); (focus (intro w' hw'; exact hw'.alloc hw'.size _)); (focus (intro w' hw'; exact gdl_new (by decide) (by simp) (by decide) hw')); intro _; go_simp; refine hK _ ?_; clear hK K)
      | (refine Qg.walk_step fun K hK => ?_; apply Qg.one_call _ _ hC0 (by intro d hd; cases hd; decide) rfl; (focus (intro w' hw'; go_simp; first | done | exact ⟨rfl, rfl⟩)); (focus (apply Exists.intro; (constructor <;> exact (0 : Nat)))); (focus (intro w' hw' hs;  go_at_call 16; refine (to_vector _ _ _ _).mono ?_; rintro _ wA ⟨rfl, hb1⟩; exact ⟨_, rfl, PhiX.vec _ _ _, gdl_no (by decide) (by decide) (by decide), below_step hw' hb1, hb1⟩ )); intro v hv; cases hv; go_simp; refine hK _ ?_; clear hK K)
      | (refine Qg.walk_step fun K hK => ?_; apply Qg.one_call _ _ hC0 (by intro d hd; cases hd; decide) rfl; (focus (intro w' hw'; go_simp; first | done | exact ⟨rfl, rfl⟩)); (focus (apply Exists.intro; (constructor <;> exact (0 : Nat)))); (focus (intro w' hw' hs;  go_at_call 21; refine (himpl _ _ (fun i h => (hnew i h).keep hw')).mono ?_; rintro _ wA ⟨⟨a1, b1, c1, a2, b2, c2, rfl, hp, hq⟩, hb1⟩; exact ⟨_, rfl, PhiX.impl _ _ _ _ _ _ _, gdl_res (by decide) (by decide) (by intro _ _ _ _ _ _ _ h; cases h; exact ⟨hp, hq⟩), below_step hw' hb1, hb1⟩ )); intro v hv; cases hv; go_simp; refine hK _ ?_; clear hK K))
    rename_i a3 b3 c3 a4 b4 c4 g14 g15
    refine Qg.walk_nil fun w9 hw9 hE => ?_
    obtain ⟨hp2, hq2⟩ : (cn .f32 a3, cn .f32 b3, cn .f32 c3) = RP ∧ (cn .f32 a4, cn .f32 b4, cn .f32 c4) = RQ := by
      rcases (hE.1 43).2.2 rfl with h | h
      · cases h
      · exact h _ _ _ _ _ _ _ rfl
    obtain ⟨g, e1, hg14, hgc14⟩ := (hE.1 14).2.1 (14, #[F1 0, F1 0, F1 0], 35) (by simp) rfl _ rfl
    injection e1 with e1; injection e1 with e1; subst e1
    obtain ⟨g, e1, hg15, hgc15⟩ := (hE.1 15).2.1 (15, #[F1 0, F1 0, F1 0], 35) (by simp) rfl _ rfl
    injection e1 with e1; injection e1 with e1; subst e1
    have hgne : g14 ≠ g15 := by intro e; subst e; exact hE.2.2 14 (by simp) 15 (by simp) (by decide) _ rfl rfl
    clear hE
    obtain ⟨p0, p1, p2, p3, p4, p5⟩ := cells3 hgc14
    obtain ⟨q0, q1, q2, q3, q4, q5⟩ := cells3 hgc15
    go_upto_region 8 with fail
    obtain ⟨hk9, hb9⟩ := two3 hgc14 hgc15 hgne ⟨hg14, hg15⟩ (F1 a3) (F1 b3) (F1 c3) (F1 a4) (F1 b4) (F1 c4)
    clear p0 p1 p2 p3 p4 p5 q0 q1 q2 q3 q4 q5 hgc14 hgc15 hgne hg14 hg15
    have hw10 := hw9.trans hb9
    clear hw9 hb9
    generalize (((((w9.setCell ⟨g14, 0, none⟩ (F1 a3)).setCell ⟨g14, 1, none⟩ (F1 b3)).setCell ⟨g14, 2, none⟩ (F1 c3)).setCell ⟨g15, 0, none⟩ (F1 a4)).setCell ⟨g15, 1, none⟩ (F1 b4)).setCell ⟨g15, 2, none⟩ (F1 c4) = w10 at *
    have hkept := kept_app (keep hkept hw10) hk9
    have W10b := below_step W8b hw10
    have hnew10 : ∀ i (h : i < ns.length), NodeNew ns[i] H (0 + i * 4) w10 := fun i h => (hnew i h).keep hw10
    clear hk9 hw10 hC0 hnew
    have hK := hkept; simp only [Kept, List.forall_mem_append, List.forall_mem_cons, List.not_mem_nil, false_implies, implies_true, and_true, true_and] at hK
    have h := hp2.trans hp.symm
    rw [Prod.mk.injEq, Prod.mk.injEq] at h
    obtain ⟨e1, e2, e3⟩ := h
    have h := hq2.trans hq.symm
    rw [Prod.mk.injEq, Prod.mk.injEq] at h
    obtain ⟨e4, e5, e6⟩ := h
    have hRR : (bv != bv) = false := by simp
    clear hp hq hp2 hq2
    go_upto_region 10 with (go_at_call 22; refine (eq_vector _ _ _ _ _ _ (by with_reducible assumption) (by with_reducible assumption) (by with_reducible assumption) _).mono ?_; rintro _ w6 ⟨rfl, hb1⟩; have W10b := below_step W10b hb1; have hnew10 := fun i h => NodeNew.keep (hnew10 i h) hb1; have hkept := keepT hkept hb1 rfl; clear hK; have hK := hkept; simp only [Kept, List.forall_mem_append, List.forall_mem_cons, List.not_mem_nil, false_implies, implies_true, and_true, true_and] at hK)
    clear hK e1 e2 e3 e4 e5 e6 hb1
    refine Qg.wp_gd_all (by kernel_rfl) (by kernel_rfl) (PhiX ns.length bv) (GdL ns w6 [64] [] 1000 (fun _ => True)) [] (gdl_lasts ..) (gdl_start (by intro d hd; simp at hd; rcases hd with rfl | rfl <;> rfl) rfl) ?_
    intro hC0
    repeat (first
      | (refine Qg.walk_step fun K hK => ?_; apply Qg.one_det hC0 (by intro d hd; cases hd; decide) rfl; (focus (intro w' hw'; have HK := keep hkept hw'; simp only [Kept, List.forall_mem_append, List.forall_mem_cons, List.not_mem_nil, false_implies, implies_true, and_true, true_and] at HK; go_simp; first | done | rfl)); (focus (intro w' hw' hs; exact gdl_no (by decide) (by decide) (by decide))); go_simp; refine hK _ ?_; clear hK K)
      | (refine Qg.walk_step fun K hK => ?_; apply Qg.one_call _ _ hC0 (by intro d hd; cases hd; decide) rfl; (focus (intro w' hw'; go_simp; first | done | exact ⟨rfl, rfl⟩)); (focus (apply Exists.intro; (constructor <;> exact (0 : Nat)))); (focus (intro w' hw' hs;  go_at_call 15; (refine (hto _ (below_step W10b hw')).mono ?_); rintro _ wA ⟨G, rfl, hnew, hG, hb1⟩; exact ⟨_, rfl, PhiX.shape _ _, gdl_shape hnew (by decide) (by decide), below_step hw' hb1, hb1⟩ )); intro v hv; cases hv; go_simp; refine hK _ ?_; clear hK K)
      | (refine Qg.walk_step fun K hK => ?_; apply Qg.one_call _ _ hC0 (by intro d hd; cases hd; decide) rfl; (focus (intro w' hw'; go_simp; first | done | exact ⟨rfl, rfl⟩)); (focus (apply Exists.intro; (constructor <;> exact (0 : Nat)))); (focus (intro w' hw' hs;  go_at_call 19; refine (heq _ _ _ (fun i h => (hnew10 i h).keep hw') ((hs 64 (of_decide_eq_true (by kernel_rfl))).1 (by decide) _ rfl)).mono ?_; rintro _ wA ⟨rfl, hb1⟩; exact ⟨_, rfl, PhiX.eqs _, gdl_no (by decide) (by decide) (by decide), below_step hw' hb1, hb1⟩ )); intro v hv; cases hv; go_simp; refine hK _ ?_; clear hK K))
    refine Qg.walk_nil fun w11 hw11 hE => ?_
    have W11b := below_step W10b hw11
    clear hE
    go_wp2_with fail
    go_ret
    exact ⟨rfl, W11b⟩
end Go.Proofs.YtdbpgblhnhdhoaaGreat
