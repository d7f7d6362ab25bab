/-
  Walks: CrossingAt of the reference.
-/
import Derived.Test.YtdbpgblhnhdhoaaGreatX8
import Derived.Test.YtdbpgblhnhdhoaaGreatGN
set_option linter.unusedVariables false
set_option linter.unusedSimpArgs false
namespace Go.Proofs.YtdbpgblhnhdhoaaGreat
open Go.RowKit Go.Fl

set_option maxRecDepth 100000 in
set_option maxHeartbeats 4000000 in
theorem s_cross_any (ns : List PN) (hnum : ∀ n ∈ ns, n.nums.length < 10000000) (hvok : validS ns = true → OkAll ns) (nb no cap x y z x' y' z' : Nat) (c : Int) (bp : Option Addr) (w : World) (hbp : ns ≠ [] → bp = some ⟨nb, no, none⟩) (hsh : ∀ i (h : i < ns.length), NodeIn ns[i] nb (no + i * 4) w) (hlen : ns.length < 10000000) :
    Calls Tryz.prog 20 #[.agg #[.slice bp ns.length cap], V3 x y z, V3 x' y' z', .int .i64 c] w (RetC (crossOk (validS ns) (atS ns) (cn .f32 x, cn .f32 y, cn .f32 z) (cn .f32 x', cn .f32 y', cn .f32 z') c) (crossGo (atS ns) (ltk .f32 (atS ns (cn .f32 x, cn .f32 y, cn .f32 z)) 0) c.toNat (cn .f32 x, cn .f32 y, cn .f32 z) (cn .f32 x', cn .f32 y', cn .f32 z')) w) := by
  obtain ⟨ok, hOk⟩ : ∃ ok, Hid (ok = crossOk (validS ns) (atS ns) (cn .f32 x, cn .f32 y, cn .f32 z) (cn .f32 x', cn .f32 y', cn .f32 z') c) := ⟨_, rfl⟩
  rw [← hOk.out]
  have hin : ∀ w, Calls Tryz.prog 62 #[.int .i64 c, .int .i64 0, .int .i64 60] w (fun e w' => e = .returned (.bool (decide (0 ≤ c) && decide (c ≤ 60))) ∧ w = w') := s_in_any c 0 60
  go_enter Tryz.func20, Tryz.ntmps20
  go_wp2_with fail
  have W1b : Below w.heap.size w (((((w.alloc (.cells #[.slice bp ns.length cap] 33)).alloc (.cells #[.float .f32 x, .float .f32 y, .float .f32 z] 35)).alloc (.cells #[.float .f32 x', .float .f32 y', .float .f32 z'] 35)).alloc (.cells #[.float .f32 0, .float .f32 0, .float .f32 0] 35)).alloc (.cells #[.float .f32 0, .float .f32 0, .float .f32 0] 35)) := (by repeat' (first | exact Below.refl _ _ | exact Nat.le_refl _ | refine below_drewN ?_ _ | refine Below.alloc ?_ (by first | (simp; done) | (simp; omega)) _ | refine Below.setCell ?_ (by first | (simp; done) | (simp; omega)) _ | refine below_step ?_ (by assumption)))
  
  have hkept : Kept [(⟨w.heap.size, 0, none⟩, .slice bp ns.length cap), (⟨w.heap.size + 1, 0, none⟩, .float .f32 x), (⟨w.heap.size + 1, 1, none⟩, .float .f32 y), (⟨w.heap.size + 1, 2, none⟩, .float .f32 z), (⟨w.heap.size + 1 + 1, 0, none⟩, .float .f32 x'), (⟨w.heap.size + 1 + 1, 1, none⟩, .float .f32 y'), (⟨w.heap.size + 1 + 1, 2, none⟩, .float .f32 z'), (⟨w.heap.size + 1 + 1 + 1, 0, none⟩, .float .f32 0), (⟨w.heap.size + 1 + 1 + 1, 1, none⟩, .float .f32 0), (⟨w.heap.size + 1 + 1 + 1, 2, none⟩, .float .f32 0), (⟨w.heap.size + 1 + 1 + 1 + 1, 0, none⟩, .float .f32 0), (⟨w.heap.size + 1 + 1 + 1 + 1, 1, none⟩, .float .f32 0), (⟨w.heap.size + 1 + 1 + 1 + 1, 2, none⟩, .float .f32 0)] [⟨w.heap.size + 1, 0, none⟩, ⟨w.heap.size + 1, 1, none⟩, ⟨w.heap.size + 1, 2, none⟩, ⟨w.heap.size + 1 + 1, 0, none⟩, ⟨w.heap.size + 1 + 1, 1, none⟩, ⟨w.heap.size + 1 + 1, 2, none⟩, ⟨w.heap.size + 1 + 1 + 1, 0, none⟩, ⟨w.heap.size + 1 + 1 + 1, 1, none⟩, ⟨w.heap.size + 1 + 1 + 1, 2, none⟩, ⟨w.heap.size + 1 + 1 + 1 + 1, 0, none⟩, ⟨w.heap.size + 1 + 1 + 1 + 1, 1, none⟩, ⟨w.heap.size + 1 + 1 + 1 + 1, 2, none⟩] (((((w.alloc (.cells #[.slice bp ns.length cap] 33)).alloc (.cells #[.float .f32 x, .float .f32 y, .float .f32 z] 35)).alloc (.cells #[.float .f32 x', .float .f32 y', .float .f32 z'] 35)).alloc (.cells #[.float .f32 0, .float .f32 0, .float .f32 0] 35)).alloc (.cells #[.float .f32 0, .float .f32 0, .float .f32 0] 35)) := by
    simp only [Kept, List.forall_mem_append, List.forall_mem_cons, List.not_mem_nil, false_implies, implies_true, and_true, true_and]; (first | (go_simp; done) | (simp [World.cell?, World.frozen?, World.alloc, Array.getElem?_push]; done))
  generalize ((((w.alloc (.cells #[.slice bp ns.length cap] 33)).alloc (.cells #[.float .f32 x, .float .f32 y, .float .f32 z] 35)).alloc (.cells #[.float .f32 x', .float .f32 y', .float .f32 z'] 35)).alloc (.cells #[.float .f32 0, .float .f32 0, .float .f32 0] 35)).alloc (.cells #[.float .f32 0, .float .f32 0, .float .f32 0] 35) = W1 at *
  have hK := hkept; simp only [Kept, List.forall_mem_append, List.forall_mem_cons, List.not_mem_nil, false_implies, implies_true, and_true, true_and] at hK
  have hv := s_is_any ns hnum w.heap.size 0 nb no cap bp W1 hK.1.1 hbp (fun i h => (hsh i h).keep W1b) hlen
  refine hv.mono ?_
  rintro _ w2 ⟨rfl, hb2⟩
  have W2b := below_step W1b hb2
  have hkept := keep hkept hb2
  clear hv hK hb2 W1b
  have hK := hkept; simp only [Kept, List.forall_mem_append, List.forall_mem_cons, List.not_mem_nil, false_implies, implies_true, and_true, true_and] at hK
  cases hval : validS ns
  · have hno : Hid (ok = false) := by unfold Hid; rw [hOk.out, hval]; rfl
    clear hOk hin hsh hbp hnum hvok
    go_wp2_with fail
    exact bodyPost_ret (v := .tuple #[V3 0 0 0, V3 0 0 0, .bool false]) (by simp [results, Tryz.results20, go_sem, hK, World.cell?_setCell_other, World.cell?_setCell_same']) rfl ⟨0, 0, 0, 0, 0, 0, by rw [hno.out], by rw [hno.out, cn_zero]; rfl, by rw [hno.out, cn_zero]; rfl, (((((W2b.setCell (by show w.heap.size ≤ w.heap.size + 1 + 1 + 1; omega) _).setCell (by show w.heap.size ≤ w.heap.size + 1 + 1 + 1; omega) _).setCell (by show w.heap.size ≤ w.heap.size + 1 + 1 + 1; omega) _).setCell (by show w.heap.size ≤ w.heap.size + 1 + 1 + 1 + 1; omega) _).setCell (by show w.heap.size ≤ w.heap.size + 1 + 1 + 1 + 1; omega) _).setCell (by show w.heap.size ≤ w.heap.size + 1 + 1 + 1 + 1; omega) _⟩
  cases hr : (decide (0 ≤ c) && decide (c ≤ 60))
  · have hno : Hid (ok = false) := by unfold Hid; rw [hOk.out, hval]; unfold crossOk; rw [hr]; rfl
    rw [hr] at hin
    clear hOk hsh hbp hnum hvok hval hr
    go_wp2_with (go_at_call 62; refine (hin _).mono ?_; rintro _ w4 ⟨rfl, rfl⟩)
    exact bodyPost_ret (v := .tuple #[V3 0 0 0, V3 0 0 0, .bool false]) (by simp [results, Tryz.results20, go_sem, hK, World.cell?_setCell_other, World.cell?_setCell_same']) rfl ⟨0, 0, 0, 0, 0, 0, by rw [hno.out], by rw [hno.out, cn_zero]; rfl, by rw [hno.out, cn_zero]; rfl, (((((W2b.setCell (by show w.heap.size ≤ w.heap.size + 1 + 1 + 1; omega) _).setCell (by show w.heap.size ≤ w.heap.size + 1 + 1 + 1; omega) _).setCell (by show w.heap.size ≤ w.heap.size + 1 + 1 + 1; omega) _).setCell (by show w.heap.size ≤ w.heap.size + 1 + 1 + 1 + 1; omega) _).setCell (by show w.heap.size ≤ w.heap.size + 1 + 1 + 1 + 1; omega) _).setCell (by show w.heap.size ≤ w.heap.size + 1 + 1 + 1 + 1; omega) _⟩
  have hHval := Lib.hid hval
  have hin' := hin
  rw [hr] at hin
  have hl : 1 ≤ ns.length ∧ ns.length ≤ 16 := by
    simp only [validS, Bool.and_eq_true, decide_eq_true_eq] at hval
    exact hval.1
  have hok := hvok hval
  have hne : ns ≠ [] := by intro h; rw [h] at hl; simp at hl
  have hb := hbp hne
  subst hb
  simp only [Bool.and_eq_true, decide_eq_true_eq] at hr
  obtain ⟨k, rfl⟩ := Int.eq_ofNat_of_zero_le (show 0 ≤ c by omega)
  have hk60 : k ≤ 60 := by omega
  have hat : ∀ w', Below w.heap.size w w' → w'.cell? ⟨w.heap.size, 0, none⟩ = some (.slice (some ⟨nb, no, none⟩) ns.length cap) → ∀ (x y z : Nat), Calls Tryz.prog 70 #[.pointer (some ⟨w.heap.size, 0, none⟩), V3 x y z] w' (Ret .f32 (atS ns (cn .f32 x, cn .f32 y, cn .f32 z)) w') := fun w' hb hc x y z => s_at_any ns hok hl w.heap.size 0 nb no cap x y z w' ⟨hc, fun i h => (hsh i h).keep hb⟩
  obtain ⟨sa, HSA⟩ : ∃ s, Hid (s = ltk .f32 (atS ns (cn .f32 x, cn .f32 y, cn .f32 z)) 0) := ⟨_, rfl⟩
  obtain ⟨sb, HSB⟩ : ∃ s, Hid (s = ltk .f32 (atS ns (cn .f32 x', cn .f32 y', cn .f32 z')) 0) := ⟨_, rfl⟩
  have hokS : Hid (ok = !(sb == sa)) := by
    unfold Hid; rw [hOk.out, hHval.out]; unfold crossOk; rw [show (decide (0 ≤ (k : Int)) && decide ((k : Int) ≤ 60)) = true by simp; omega, ← HSA.out, ← HSB.out]; cases sa <;> cases sb <;> rfl
  obtain ⟨R, hR⟩ : ∃ R, Hid (R = crossGo (atS ns) (ltk .f32 (atS ns (cn .f32 x, cn .f32 y, cn .f32 z)) 0) k (cn .f32 x, cn .f32 y, cn .f32 z) (cn .f32 x', cn .f32 y', cn .f32 z')) := ⟨_, rfl⟩
  have hRR : Hid (crossGo (atS ns) (ltk .f32 (atS ns (cn .f32 x, cn .f32 y, cn .f32 z)) 0) k (cn .f32 x, cn .f32 y, cn .f32 z) (cn .f32 x', cn .f32 y', cn .f32 z') = R) := by unfold Hid; exact hR.out.symm
  rw [← HSA.out] at hR
  clear hsh hbp hnum hval hOk hHval hr hok hvok hin'
  have e3 : ∀ r, cn .f32 r = atS ns (cn .f32 x, cn .f32 y, cn .f32 z) → (FloatKind.f32.format.order r 0 == some .lt) = sa := fun r h => by rw [HSA.out, ← h]; exact (ltk_of rfl).symm
  have e4 : ∀ r, cn .f32 r = atS ns (cn .f32 x', cn .f32 y', cn .f32 z') → (FloatKind.f32.format.order r 0 == some .lt) = sb := fun r h => by rw [HSB.out, ← h]; exact (ltk_of rfl).symm
  clear HSA HSB
  go_upto_region 4 with (first
    | (go_at_call 62; refine (hin _).mono ?_; rintro _ w4 ⟨rfl, rfl⟩)
    | (go_at_call 70; refine (hat _ W2b hK.1.1 _ _ _).mono ?_; rintro _ w7 ⟨r3, rfl, hr3, hb1⟩; have e5 := e3 r3 hr3; have hkept := keepT hkept hb1 rfl; clear hK; have hK := hkept; simp only [Kept, List.forall_mem_append, List.forall_mem_cons, List.not_mem_nil, false_implies, implies_true, and_true, true_and] at hK))
  have W7b := below_step W2b hb1
  clear hin hr3 e3 e5 hb1 W2b
  cases hsS : (sb == sa)
  · have hno : Hid (ok = true) := by unfold Hid; rw [hokS.out, hsS]; rfl
    clear hokS
    go_upto_region 6 with (go_at_call 70; refine (hat _ W7b hK.1.1 _ _ _).mono ?_; rintro _ w8 ⟨r4, rfl, hr4, hb1⟩; have e5 := e4 r4 hr4; have hkept := keepT hkept hb1 rfl; clear hK; have hK := hkept; simp only [Kept, List.forall_mem_append, List.forall_mem_cons, List.not_mem_nil, false_implies, implies_true, and_true, true_and] at hK)
    have W8b := below_step W7b hb1
    clear e4 e5 hr4 hb1 W7b
    have hkL : Kept (crossL w.heap.size (.slice (some ⟨nb, no, none⟩) ns.length cap) x y z x' y' z') (crossW w.heap.size) w8 := by unfold crossL crossW; simp only [Kept, List.forall_mem_append, List.forall_mem_cons, List.not_mem_nil, false_implies, implies_true, and_true, true_and]; simp [hK]
    clear hK hkept
    go_loopw [3] (fun i wr => ∃ (j a b c a' b' c' : Nat), j ≤ k ∧ i = .int .i64 (j : Int) ∧ Kept (crossL w.heap.size (.slice (some ⟨nb, no, none⟩) ns.length cap) a b c a' b' c') (crossW w.heap.size) wr ∧ Hid (R = crossGo (atS ns) sa j (cn .f32 a, cn .f32 b, cn .f32 c) (cn .f32 a', cn .f32 b', cn .f32 c')) ∧ Below w.heap.size w wr) (fun i _ => (intOf i).toNat)
    case atStart => exact ⟨k, x, y, z, x', y', z', by omega, rfl, hkL, hR, W8b⟩
    case round =>
      obtain ⟨j, a, b, c, a', b', c', hjk, rfl, hkr, hgo, Wb⟩ := hrel
      clear hR hkL
      have hK := hkr
      unfold crossL crossW at hK
      simp only [Kept, List.forall_mem_append, List.forall_mem_cons, List.not_mem_nil, false_implies, implies_true, and_true, true_and] at hK
      by_cases hlt : 0 < j
      · have hlt' : (j : Int) > 0 := by omega
        obtain ⟨i, rfl⟩ : ∃ i, j = i + 1 := ⟨j - 1, by omega⟩
        have hsub : wrap64 (((i + 1 : Nat) : Int) - 1) = (i : Int) := by
          unfold wrap64; omega
        go_upto_region 9 with (go_at_call 71; refine (s_between_any _ _ _ _ _ _ _ _).mono ?_; rintro _ w8 ⟨m0, m1, m2, rfl, hm0, hm1, hm2, hb1⟩)
        have W8b : Below w.heap.size w (w8.alloc (.cells #[F1 m0, F1 m1, F1 m2] 35)) := (below_step Wb hb1).alloc (below_step Wb hb1).size _
        have hk8 := kept_app (keep (keep hkr hb1) ((Below.refl _ _).alloc (Nat.le_refl _) (.cells #[F1 m0, F1 m1, F1 m2] 35))) (show Kept [(⟨w8.heap.size, 0, none⟩, F1 m0), (⟨w8.heap.size, 1, none⟩, F1 m1), (⟨w8.heap.size, 2, none⟩, F1 m2)] [] (w8.alloc (.cells #[F1 m0, F1 m1, F1 m2] 35)) by simp only [Kept, List.forall_mem_append, List.forall_mem_cons, List.not_mem_nil, false_implies, implies_true, and_true, true_and]; simp)
        have hl8 : w.heap.size + 1 + 1 + 1 + 1 < w8.heap.size := by
          have h1 : w.heap.size + 1 + 1 + 1 + 1 < wr.heap.size := some_lt (a := ⟨w.heap.size + 1 + 1 + 1 + 1, 0, none⟩) (by simp [hK])
          exact Nat.lt_of_lt_of_le h1 hb1.size
        have hne1 : w8.heap.size ≠ w.heap.size + 1 := by omega
        have hne2 : w8.heap.size ≠ w.heap.size + 1 + 1 := by omega
        clear hK hkr hb1 Wb
        have hgo2 : Hid (R = if ltk .f32 (atS ns (cn .f32 m0, cn .f32 m1, cn .f32 m2)) 0 == sa then crossGo (atS ns) sa i (cn .f32 m0, cn .f32 m1, cn .f32 m2) (cn .f32 a', cn .f32 b', cn .f32 c') else crossGo (atS ns) sa i (cn .f32 a, cn .f32 b, cn .f32 c) (cn .f32 m0, cn .f32 m1, cn .f32 m2)) := by
          have := hgo.out
          rw [crossGo] at this
          unfold Hid
          simp only [betV] at this
          simp only [hm0, hm1, hm2]
          exact this
        clear hgo hm0 hm1 hm2
        generalize w8.alloc (.cells #[F1 m0, F1 m1, F1 m2] 35) = W8 at *
        generalize w8.heap.size = g8 at *
        have hkept := hk8
        have hK := hk8
        unfold crossL crossW at hK
        simp only [Kept, List.forall_mem_append, List.forall_mem_cons, List.not_mem_nil, false_implies, implies_true, and_true, true_and] at hK
        go_wp2_with (go_at_call 70; refine (hat _ W8b (by simp [hK]) _ _ _).mono ?_; rintro _ w9 ⟨r4, rfl, hr4, hb1⟩; have hkept := keep hkept hb1; clear hK; have hK := hkept; unfold crossL crossW at hK; simp only [Kept, List.forall_mem_append, List.forall_mem_cons, List.not_mem_nil, false_implies, implies_true, and_true, true_and] at hK)
        all_goals
          rename_i hc
          have W9b := below_step W8b hb1
        · have hc2 : (ltk .f32 (atS ns (cn .f32 m0, cn .f32 m1, cn .f32 m2)) 0 == sa) = true := by rw [← hr4]; unfold ltk; rw [ord_r0]; exact hc
          exact ⟨⟨i, m0, m1, m2, a', b', c', by omega, rfl, by unfold crossL crossW; simp only [Kept, List.forall_mem_append, List.forall_mem_cons, List.not_mem_nil, false_implies, implies_true, and_true, true_and]; simp [hK, World.cell?_setCell_other, World.cell?_setCell_same', World.frozen?_setCell], by unfold Hid; rw [hgo2.out, if_pos hc2], ((W9b.setCell (by show w.heap.size ≤ w.heap.size + 1; omega) _).setCell (by show w.heap.size ≤ w.heap.size + 1; omega) _).setCell (by show w.heap.size ≤ w.heap.size + 1; omega) _⟩, by simp [intOf]⟩
        · have hc2 : ¬ (ltk .f32 (atS ns (cn .f32 m0, cn .f32 m1, cn .f32 m2)) 0 == sa) = true := by rw [← hr4]; unfold ltk; rw [ord_r0]; simpa using hc
          exact ⟨⟨i, a, b, c, m0, m1, m2, by omega, rfl, by unfold crossL crossW; simp only [Kept, List.forall_mem_append, List.forall_mem_cons, List.not_mem_nil, false_implies, implies_true, and_true, true_and]; simp [hK, World.cell?_setCell_other, World.cell?_setCell_same', World.frozen?_setCell], by unfold Hid; rw [hgo2.out, if_neg hc2], ((W9b.setCell (by show w.heap.size ≤ w.heap.size + 1 + 1; omega) _).setCell (by show w.heap.size ≤ w.heap.size + 1 + 1; omega) _).setCell (by show w.heap.size ≤ w.heap.size + 1 + 1; omega) _⟩, by simp [intOf]⟩
      · have hlt' : ¬ (j : Int) > 0 := by omega
        obtain rfl : j = 0 := by omega
        have hRs : Hid (R = ((cn .f32 a, cn .f32 b, cn .f32 c), (cn .f32 a', cn .f32 b', cn .f32 c'))) := by have := hgo.out; rwa [crossGo] at this
        go_wp2_with fail
        go_region
        all_goals
          go_wp2_with fail
          have hfin := hRR.out.trans hRs.out
          exact bodyPost_ret (v := .tuple #[V3 a b c, V3 a' b' c', .bool true]) (by simp [results, Tryz.results20, go_sem, hK, World.cell?_setCell_other, World.cell?_setCell_same']) rfl ⟨a, b, c, a', b', c', by rw [hno.out], by rw [hno.out]; exact (congrArg Prod.fst hfin).symm, by rw [hno.out]; exact (congrArg Prod.snd hfin).symm, Below.drew ((((((Wb.setCell (by show w.heap.size ≤ w.heap.size + 1 + 1 + 1; omega) _).setCell (by show w.heap.size ≤ w.heap.size + 1 + 1 + 1; omega) _).setCell (by show w.heap.size ≤ w.heap.size + 1 + 1 + 1; omega) _).setCell (by show w.heap.size ≤ w.heap.size + 1 + 1 + 1 + 1; omega) _).setCell (by show w.heap.size ≤ w.heap.size + 1 + 1 + 1 + 1; omega) _).setCell (by show w.heap.size ≤ w.heap.size + 1 + 1 + 1 + 1; omega) _)⟩
  · have hno : Hid (ok = false) := by unfold Hid; rw [hokS.out, hsS]; rfl
    clear hokS
    go_wp2_with (go_at_call 70; refine (hat _ W7b hK.1.1 _ _ _).mono ?_; rintro _ w8 ⟨r4, rfl, hr4, hb1⟩; have e5 := e4 r4 hr4; have W8b := below_step W7b hb1; have hkept := keepT hkept hb1 rfl; clear hK; have hK := hkept; simp only [Kept, List.forall_mem_append, List.forall_mem_cons, List.not_mem_nil, false_implies, implies_true, and_true, true_and] at hK)
    exact bodyPost_ret (v := .tuple #[V3 0 0 0, V3 0 0 0, .bool false]) (by simp [results, Tryz.results20, go_sem, hK, World.cell?_setCell_other, World.cell?_setCell_same']) rfl ⟨0, 0, 0, 0, 0, 0, by rw [hno.out], by rw [hno.out, cn_zero]; rfl, by rw [hno.out, cn_zero]; rfl, (((((W8b.setCell (by show w.heap.size ≤ w.heap.size + 1 + 1 + 1; omega) _).setCell (by show w.heap.size ≤ w.heap.size + 1 + 1 + 1; omega) _).setCell (by show w.heap.size ≤ w.heap.size + 1 + 1 + 1; omega) _).setCell (by show w.heap.size ≤ w.heap.size + 1 + 1 + 1 + 1; omega) _).setCell (by show w.heap.size ≤ w.heap.size + 1 + 1 + 1 + 1; omega) _).setCell (by show w.heap.size ≤ w.heap.size + 1 + 1 + 1 + 1; omega) _⟩
end Go.Proofs.YtdbpgblhnhdhoaaGreat
