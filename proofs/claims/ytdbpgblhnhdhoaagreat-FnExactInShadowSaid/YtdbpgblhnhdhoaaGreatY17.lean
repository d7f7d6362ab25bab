/-
  Walks: InShadow of the reference, whole; plain law: shadows told twice.
-/
import Derived.Test.YtdbpgblhnhdhoaaGreatY16
import Derived.Test.YtdbpgblhnhdhoaaGreatY12
set_option linter.unusedVariables false
set_option linter.unusedSimpArgs false
namespace Go.Proofs.YtdbpgblhnhdhoaaGreat
open Go.RowKit Go.Fl

set_option maxRecDepth 100000 in
set_option maxHeartbeats 4000000 in
theorem s_inshadow_any (ns : List PN) (hnum : ∀ n ∈ ns, n.nums.length < 10000000) (hvok : validS ns = true → OkAll ns) (nb no cap x y z nx ny nz lx ly lz near most : Nat) (n : Int) (bp : Option Addr) (w : World) (hbp : ns ≠ [] → bp = some ⟨nb, no, none⟩) (hsh : ∀ i (h : i < ns.length), NodeIn ns[i] nb (no + i * 4) w) (hlen : ns.length < 10000000) :
    Calls Tryz.prog 33 #[.agg #[.slice bp ns.length cap], V3 x y z, V3 nx ny nz, V3 lx ly lz, .agg #[F1 near, F1 most, .int .i64 n]] w
      (RetS (if validS ns && marOk (cn .f32 near) (cn .f32 most) n then shadow (fun F T mo => marchGs (atS ns) F T (slopeF ns) (cn .f32 near) mo n.toNat 1 0) (cn .f32 x, cn .f32 y, cn .f32 z) (cn .f32 nx, cn .f32 ny, cn .f32 nz) (cn .f32 lx, cn .f32 ly, cn .f32 lz) (cn .f32 near) (cn .f32 most) else (false, false)) w) := by
  have hva : ∀ w', Below w.heap.size w w' → w'.cell? ⟨w.heap.size, 0, none⟩ = some (.slice bp ns.length cap) → Calls Tryz.prog 60 #[.pointer (some ⟨w.heap.size, 0, none⟩)] w' (fun e w'' => e = .returned (.bool (validS ns)) ∧ Below w'.heap.size w' w'') := fun w' hb hc => s_is_any ns hnum w.heap.size 0 nb no cap bp w' hc hbp (fun i h => (hsh i h).keep hb) hlen
  have hma : ∀ w', MarIn near most n (w.heap.size + 1 + 1 + 1 + 1) 0 w' → Calls Tryz.prog 77 #[.pointer (some ⟨w.heap.size + 1 + 1 + 1 + 1, 0, none⟩)] w' (fun e' w'' => e' = .returned (.bool (marOk (cn .f32 near) (cn .f32 most) n)) ∧ Below w'.heap.size w' w'') := fun w' h => s_mar_any near most n _ _ w' h
  have hHn := Lib.hid hnum
  have hHs := Lib.hid hsh
  have hHb := Lib.hid hbp
  clear hnum hsh hbp
  cases h1 : validS ns
  · rw [h1] at hva
    simp only [Bool.false_and, Bool.false_eq_true, if_false]
    clear hma
    go_enter Tryz.func33, Tryz.ntmps33
    go_wp2_with fail
    have W1b : Below w.heap.size w (((((w.alloc (.cells #[.slice bp ns.length cap] 33)).alloc (.cells #[.float .f32 x, .float .f32 y, .float .f32 z] 35)).alloc (.cells #[.float .f32 nx, .float .f32 ny, .float .f32 nz] 35)).alloc (.cells #[.float .f32 lx, .float .f32 ly, .float .f32 lz] 35)).alloc (.cells #[.float .f32 near, .float .f32 most, .int .i64 n] 62)) := (by repeat' (first | exact Below.refl _ _ | exact Nat.le_refl _ | refine below_drewN ?_ _ | refine Below.alloc ?_ (by first | (simp; done) | (simp; omega)) _ | refine Below.setCell ?_ (by first | (simp; done) | (simp; omega)) _ | refine below_step ?_ (by assumption)))
    
    have hkept : Kept [(⟨w.heap.size, 0, none⟩, .slice bp ns.length cap), (⟨w.heap.size + 1, 0, none⟩, .float .f32 x), (⟨w.heap.size + 1, 1, none⟩, .float .f32 y), (⟨w.heap.size + 1, 2, none⟩, .float .f32 z), (⟨w.heap.size + 1 + 1, 0, none⟩, .float .f32 nx), (⟨w.heap.size + 1 + 1, 1, none⟩, .float .f32 ny), (⟨w.heap.size + 1 + 1, 2, none⟩, .float .f32 nz), (⟨w.heap.size + 1 + 1 + 1, 0, none⟩, .float .f32 lx), (⟨w.heap.size + 1 + 1 + 1, 1, none⟩, .float .f32 ly), (⟨w.heap.size + 1 + 1 + 1, 2, none⟩, .float .f32 lz), (⟨w.heap.size + 1 + 1 + 1 + 1, 0, none⟩, .float .f32 near), (⟨w.heap.size + 1 + 1 + 1 + 1, 1, none⟩, .float .f32 most), (⟨w.heap.size + 1 + 1 + 1 + 1, 2, none⟩, .int .i64 n)] [⟨w.heap.size + 1 + 1 + 1 + 1, 0, none⟩, ⟨w.heap.size + 1 + 1 + 1 + 1, 1, none⟩, ⟨w.heap.size + 1 + 1 + 1 + 1, 2, none⟩] (((((w.alloc (.cells #[.slice bp ns.length cap] 33)).alloc (.cells #[.float .f32 x, .float .f32 y, .float .f32 z] 35)).alloc (.cells #[.float .f32 nx, .float .f32 ny, .float .f32 nz] 35)).alloc (.cells #[.float .f32 lx, .float .f32 ly, .float .f32 lz] 35)).alloc (.cells #[.float .f32 near, .float .f32 most, .int .i64 n] 62)) := by
      simp only [Kept, List.forall_mem_append, List.forall_mem_cons, List.not_mem_nil, false_implies, implies_true, and_true, true_and]; (first | (go_simp; done) | (simp [World.cell?, World.frozen?, World.alloc, Array.getElem?_push]; done))
    generalize ((((w.alloc (.cells #[.slice bp ns.length cap] 33)).alloc (.cells #[.float .f32 x, .float .f32 y, .float .f32 z] 35)).alloc (.cells #[.float .f32 nx, .float .f32 ny, .float .f32 nz] 35)).alloc (.cells #[.float .f32 lx, .float .f32 ly, .float .f32 lz] 35)).alloc (.cells #[.float .f32 near, .float .f32 most, .int .i64 n] 62) = W1 at *
    have hK := hkept; simp only [Kept, List.forall_mem_append, List.forall_mem_cons, List.not_mem_nil, false_implies, implies_true, and_true, true_and] at hK
    refine (hva _ W1b hK.1.1).mono ?_
    rintro _ w2 ⟨rfl, hb1⟩
    have W2b := below_step W1b hb1
    have hkept := keepT hkept hb1 rfl; clear hK; have hK := hkept; simp only [Kept, List.forall_mem_append, List.forall_mem_cons, List.not_mem_nil, false_implies, implies_true, and_true, true_and] at hK
    go_wp2_with fail
    go_ret2
    exact ⟨rfl, W2b⟩
  cases h2 : marOk (cn .f32 near) (cn .f32 most) n
  · rw [h1] at hva
    rw [h2] at hma
    simp only [Bool.and_false, Bool.false_eq_true, if_false]
    go_enter Tryz.func33, Tryz.ntmps33
    go_wp2_with fail
    have W1b : Below w.heap.size w (((((w.alloc (.cells #[.slice bp ns.length cap] 33)).alloc (.cells #[.float .f32 x, .float .f32 y, .float .f32 z] 35)).alloc (.cells #[.float .f32 nx, .float .f32 ny, .float .f32 nz] 35)).alloc (.cells #[.float .f32 lx, .float .f32 ly, .float .f32 lz] 35)).alloc (.cells #[.float .f32 near, .float .f32 most, .int .i64 n] 62)) := (by repeat' (first | exact Below.refl _ _ | exact Nat.le_refl _ | refine below_drewN ?_ _ | refine Below.alloc ?_ (by first | (simp; done) | (simp; omega)) _ | refine Below.setCell ?_ (by first | (simp; done) | (simp; omega)) _ | refine below_step ?_ (by assumption)))
    
    have hkept : Kept [(⟨w.heap.size, 0, none⟩, .slice bp ns.length cap), (⟨w.heap.size + 1, 0, none⟩, .float .f32 x), (⟨w.heap.size + 1, 1, none⟩, .float .f32 y), (⟨w.heap.size + 1, 2, none⟩, .float .f32 z), (⟨w.heap.size + 1 + 1, 0, none⟩, .float .f32 nx), (⟨w.heap.size + 1 + 1, 1, none⟩, .float .f32 ny), (⟨w.heap.size + 1 + 1, 2, none⟩, .float .f32 nz), (⟨w.heap.size + 1 + 1 + 1, 0, none⟩, .float .f32 lx), (⟨w.heap.size + 1 + 1 + 1, 1, none⟩, .float .f32 ly), (⟨w.heap.size + 1 + 1 + 1, 2, none⟩, .float .f32 lz), (⟨w.heap.size + 1 + 1 + 1 + 1, 0, none⟩, .float .f32 near), (⟨w.heap.size + 1 + 1 + 1 + 1, 1, none⟩, .float .f32 most), (⟨w.heap.size + 1 + 1 + 1 + 1, 2, none⟩, .int .i64 n)] [⟨w.heap.size + 1 + 1 + 1 + 1, 0, none⟩, ⟨w.heap.size + 1 + 1 + 1 + 1, 1, none⟩, ⟨w.heap.size + 1 + 1 + 1 + 1, 2, none⟩] (((((w.alloc (.cells #[.slice bp ns.length cap] 33)).alloc (.cells #[.float .f32 x, .float .f32 y, .float .f32 z] 35)).alloc (.cells #[.float .f32 nx, .float .f32 ny, .float .f32 nz] 35)).alloc (.cells #[.float .f32 lx, .float .f32 ly, .float .f32 lz] 35)).alloc (.cells #[.float .f32 near, .float .f32 most, .int .i64 n] 62)) := by
      simp only [Kept, List.forall_mem_append, List.forall_mem_cons, List.not_mem_nil, false_implies, implies_true, and_true, true_and]; (first | (go_simp; done) | (simp [World.cell?, World.frozen?, World.alloc, Array.getElem?_push]; done))
    generalize ((((w.alloc (.cells #[.slice bp ns.length cap] 33)).alloc (.cells #[.float .f32 x, .float .f32 y, .float .f32 z] 35)).alloc (.cells #[.float .f32 nx, .float .f32 ny, .float .f32 nz] 35)).alloc (.cells #[.float .f32 lx, .float .f32 ly, .float .f32 lz] 35)).alloc (.cells #[.float .f32 near, .float .f32 most, .int .i64 n] 62) = W1 at *
    have hK := hkept; simp only [Kept, List.forall_mem_append, List.forall_mem_cons, List.not_mem_nil, false_implies, implies_true, and_true, true_and] at hK
    refine (hva _ W1b hK.1.1).mono ?_
    rintro _ w2 ⟨rfl, hb1⟩
    have W2b := below_step W1b hb1
    have hkept := keepT hkept hb1 rfl; clear hK; have hK := hkept; simp only [Kept, List.forall_mem_append, List.forall_mem_cons, List.not_mem_nil, false_implies, implies_true, and_true, true_and] at hK
    go_wp2_with (go_at_call 77; refine (hma _ ⟨by simp only [Kept, List.forall_mem_append, List.forall_mem_cons, List.not_mem_nil, false_implies, implies_true, and_true, true_and]; simp [hK]⟩).mono ?_; rintro _ w3 ⟨rfl, hb1⟩; have hkept := keepT hkept hb1 rfl; clear hK; have hK := hkept; simp only [Kept, List.forall_mem_append, List.forall_mem_cons, List.not_mem_nil, false_implies, implies_true, and_true, true_and] at hK)
    go_ret2
    exact ⟨rfl, below_step W2b hb1⟩
  rw [h1] at hva
  rw [h2] at hma
  simp only [Bool.and_true, if_true]
  have hok := hvok h1
  have hl : 1 ≤ ns.length ∧ ns.length ≤ 16 := by
    have h1' := h1
    simp only [validS, Bool.and_eq_true, decide_eq_true_eq] at h1'
    exact h1'.1
  have hne : ns ≠ [] := by intro h; rw [h] at hl; simp at hl
  have hb := hHb.out hne
  subst hb
  have hin : 1 ≤ n ∧ n ≤ 64 := by
    unfold marOk at h2
    simp only [Bool.and_eq_true, decide_eq_true_eq] at h2
    exact h2.2
  obtain ⟨m, rfl⟩ := Int.eq_ofNat_of_zero_le (show 0 ≤ n by omega)
  rw [Int.toNat_natCast]
  have hsd : ∀ w', Below w.heap.size w w' → w'.cell? ⟨w.heap.size, 0, none⟩ = some (.slice (some ⟨nb, no, none⟩) ns.length cap) → MarIn near most (m : Int) (w.heap.size + 1 + 1 + 1 + 1) 0 w' → Calls Tryz.prog 78 #[.pointer (some ⟨w.heap.size, 0, none⟩), V3 x y z, V3 nx ny nz, V3 lx ly lz, .pointer (some ⟨w.heap.size + 1 + 1 + 1 + 1, 0, none⟩)] w'
      (RetS (shadow (fun F T mo => marchGs (atS ns) F T (slopeF ns) (cn .f32 near) mo m 1 0) (cn .f32 x, cn .f32 y, cn .f32 z) (cn .f32 nx, cn .f32 ny, cn .f32 nz) (cn .f32 lx, cn .f32 ly, cn .f32 lz) (cn .f32 near) (cn .f32 most)) w') := fun w' hb hc hm => s_shadow_any ns h1 hHn.out hok hl w.heap.size 0 nb no cap _ _ x y z nx ny nz lx ly lz near most m (by omega) w' ⟨hc, fun i h => (hHs.out i h).keep hb⟩ hm
  generalize shadow (fun F T mo => marchGs (atS ns) F T (slopeF ns) (cn .f32 near) mo m 1 0) (cn .f32 x, cn .f32 y, cn .f32 z) (cn .f32 nx, cn .f32 ny, cn .f32 nz) (cn .f32 lx, cn .f32 ly, cn .f32 lz) (cn .f32 near) (cn .f32 most) = RR at *
  clear h1 h2
  go_enter Tryz.func33, Tryz.ntmps33
  go_wp2_with fail
  have W1b : Below w.heap.size w (((((w.alloc (.cells #[.slice (some ⟨nb, no, none⟩) ns.length cap] 33)).alloc (.cells #[.float .f32 x, .float .f32 y, .float .f32 z] 35)).alloc (.cells #[.float .f32 nx, .float .f32 ny, .float .f32 nz] 35)).alloc (.cells #[.float .f32 lx, .float .f32 ly, .float .f32 lz] 35)).alloc (.cells #[.float .f32 near, .float .f32 most, .int .i64 (m : Int)] 62)) := (by repeat' (first | exact Below.refl _ _ | exact Nat.le_refl _ | refine below_drewN ?_ _ | refine Below.alloc ?_ (by first | (simp; done) | (simp; omega)) _ | refine Below.setCell ?_ (by first | (simp; done) | (simp; omega)) _ | refine below_step ?_ (by assumption)))
  
  have hkept : Kept [(⟨w.heap.size, 0, none⟩, .slice (some ⟨nb, no, none⟩) ns.length cap), (⟨w.heap.size + 1, 0, none⟩, .float .f32 x), (⟨w.heap.size + 1, 1, none⟩, .float .f32 y), (⟨w.heap.size + 1, 2, none⟩, .float .f32 z), (⟨w.heap.size + 1 + 1, 0, none⟩, .float .f32 nx), (⟨w.heap.size + 1 + 1, 1, none⟩, .float .f32 ny), (⟨w.heap.size + 1 + 1, 2, none⟩, .float .f32 nz), (⟨w.heap.size + 1 + 1 + 1, 0, none⟩, .float .f32 lx), (⟨w.heap.size + 1 + 1 + 1, 1, none⟩, .float .f32 ly), (⟨w.heap.size + 1 + 1 + 1, 2, none⟩, .float .f32 lz), (⟨w.heap.size + 1 + 1 + 1 + 1, 0, none⟩, .float .f32 near), (⟨w.heap.size + 1 + 1 + 1 + 1, 1, none⟩, .float .f32 most), (⟨w.heap.size + 1 + 1 + 1 + 1, 2, none⟩, .int .i64 (m : Int))] [⟨w.heap.size + 1 + 1 + 1 + 1, 0, none⟩, ⟨w.heap.size + 1 + 1 + 1 + 1, 1, none⟩, ⟨w.heap.size + 1 + 1 + 1 + 1, 2, none⟩] (((((w.alloc (.cells #[.slice (some ⟨nb, no, none⟩) ns.length cap] 33)).alloc (.cells #[.float .f32 x, .float .f32 y, .float .f32 z] 35)).alloc (.cells #[.float .f32 nx, .float .f32 ny, .float .f32 nz] 35)).alloc (.cells #[.float .f32 lx, .float .f32 ly, .float .f32 lz] 35)).alloc (.cells #[.float .f32 near, .float .f32 most, .int .i64 (m : Int)] 62)) := by
    simp only [Kept, List.forall_mem_append, List.forall_mem_cons, List.not_mem_nil, false_implies, implies_true, and_true, true_and]; (first | (go_simp; done) | (simp [World.cell?, World.frozen?, World.alloc, Array.getElem?_push]; done))
  generalize ((((w.alloc (.cells #[.slice (some ⟨nb, no, none⟩) ns.length cap] 33)).alloc (.cells #[.float .f32 x, .float .f32 y, .float .f32 z] 35)).alloc (.cells #[.float .f32 nx, .float .f32 ny, .float .f32 nz] 35)).alloc (.cells #[.float .f32 lx, .float .f32 ly, .float .f32 lz] 35)).alloc (.cells #[.float .f32 near, .float .f32 most, .int .i64 (m : Int)] 62) = W1 at *
  have hK := hkept; simp only [Kept, List.forall_mem_append, List.forall_mem_cons, List.not_mem_nil, false_implies, implies_true, and_true, true_and] at hK
  refine (hva _ W1b hK.1.1).mono ?_
  rintro _ w2 ⟨rfl, hb1⟩
  have W2b := below_step W1b hb1
  have hkept := keepT hkept hb1 rfl; clear hK; have hK := hkept; simp only [Kept, List.forall_mem_append, List.forall_mem_cons, List.not_mem_nil, false_implies, implies_true, and_true, true_and] at hK
  go_wp2_with (first
    | (go_at_call 77; refine (hma _ ⟨by simp only [Kept, List.forall_mem_append, List.forall_mem_cons, List.not_mem_nil, false_implies, implies_true, and_true, true_and]; simp [hK]⟩).mono ?_; rintro _ w3 ⟨rfl, hb1⟩; have W3b := below_step W2b hb1; have hkept := keepT hkept hb1 rfl; clear hK; have hK := hkept; simp only [Kept, List.forall_mem_append, List.forall_mem_cons, List.not_mem_nil, false_implies, implies_true, and_true, true_and] at hK)
    | (go_at_call 78; refine (hsd _ W3b hK.1.1 ⟨by simp only [Kept, List.forall_mem_append, List.forall_mem_cons, List.not_mem_nil, false_implies, implies_true, and_true, true_and]; simp [hK]⟩).mono ?_; rintro _ w4 ⟨rfl, hb1⟩))
  go_ret2
  exact ⟨rfl, below_step W3b hb1⟩

theorem lesser_not {most lo : Nat} (hm : (FloatKind.f32.decode most).isNaN = false) : (FloatKind.f32.decode (lesserF most lo)).isNaN = false := by
  unfold lesserF
  cases h : ltk .f32 lo most
  · exact hm
  · simp only [if_true]
    cases hn : (FloatKind.f32.decode lo).isNaN
    · rfl
    · unfold ltk at h
      have h1 : FloatKind.f32.format.order lo most = none := order_nan_l hn
      rw [h1] at h
      cases h

theorem shadow_same (ns : List PN) (p q l : Nat × Nat × Nat) (near most : Nat) (n : Int) :
    (if validS ns && marOk near most n then shadow (fun F T mo => marchGs (atS ns) F T (slopeF ns) near mo n.toNat 1 0) p q l near most else (false, false)) = (if validF ns && marOk near most n then shadow (fun F T mo => marchGo (topF ns) F T (slopeF ns) near mo n.toNat 1 0) p q l near most else (false, false)) := by
  rw [valid_same]
  cases hk : (validF ns && marOk near most n)
  · rfl
  · rw [if_pos rfl, if_pos rfl]
    simp only [Bool.and_eq_true] at hk
    obtain ⟨h1, h2⟩ := mar_parts hk.2
    have hG := fun F T lo => march_same (fun q => top_same (tree_of hk.1) q) F T (slopeF ns) h1 (lesser_not (lo := lo) h2) n.toNat 1 0
    simp only [shadow, mostT, hG]
    split
    · exact congrArg (fun b => (b, true)) (decide_eq_decide.2 Iff.rfl)
    · rfl
end Go.Proofs.YtdbpgblhnhdhoaaGreat
