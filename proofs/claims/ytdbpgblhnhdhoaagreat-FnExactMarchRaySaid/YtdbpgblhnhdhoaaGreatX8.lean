/-
  Walks: CrossingAt of the program.
-/
import Derived.Test.YtdbpgblhnhdhoaaGreatX7
import Derived.Test.YtdbpgblhnhdhoaaGreatY1
import Derived.Test.YtdbpgblhnhdhoaaGreatGH
set_option linter.unusedVariables false
set_option linter.unusedSimpArgs false
namespace Go.Proofs.YtdbpgblhnhdhoaaGreat
open Go.RowKit Go.Fl

def betV (p q : Nat × Nat × Nat) (h : Nat) : Nat × Nat × Nat := (betN p.1 q.1 h, betN p.2.1 q.2.1 h, betN p.2.2 q.2.2 h)
/-- The halvings: D is the distance, s is whether the first point is inside. -/
def crossGo (D : Nat × Nat × Nat → Nat) (s : Bool) : Nat → Nat × Nat × Nat → Nat × Nat × Nat → (Nat × Nat × Nat) × (Nat × Nat × Nat)
  | 0, p, q => (p, q)
  | r + 1, p, q => if ltk .f32 (D (betV p q (cn .f32 1056964608))) 0 == s then crossGo D s r (betV p q (cn .f32 1056964608)) q else crossGo D s r p (betV p q (cn .f32 1056964608))
def crossOk (v : Bool) (D : Nat × Nat × Nat → Nat) (p q : Nat × Nat × Nat) (c : Int) : Bool := v && (decide (0 ≤ c) && decide (c ≤ 60)) && !(ltk .f32 (D p) 0 == ltk .f32 (D q) 0)
/-- Two vectors and whether they are right come back. -/
def RetC (ok : Bool) (v : (Nat × Nat × Nat) × (Nat × Nat × Nat)) (w : World) (e : Ending) (w' : World) : Prop :=
  ∃ a b c a' b' c', e = .returned (.tuple #[V3 a b c, V3 a' b' c', .bool ok]) ∧ (cn .f32 a, cn .f32 b, cn .f32 c) = (if ok then v.1 else (0, 0, 0)) ∧ (cn .f32 a', cn .f32 b', cn .f32 c') = (if ok then v.2 else (0, 0, 0)) ∧ Below w.heap.size w w'

theorem if_noC {c : Prop} [Decidable c] {p q : Prop} (h : ¬ c) (hq : q) : if c then p else q := by rw [if_neg h]; exact hq
theorem no_wC {bv : Bool} (hb : bv = false) (h : (some (!bv) == some false) = true) : False := by subst hb; cases h
theorem if_yesC {c : Prop} [Decidable c] {p q : Prop} (h : c) (hp : p) : if c then p else q := by rw [if_pos h]; exact hp
theorem yes_wC {bv : Bool} (hb : bv = true) : (some (!bv) == some false) = true := by subst hb; rfl

theorem cn_half : cn .f32 1056964608 = 1056964608 := by decide +kernel
def crossL (h : Nat) (L : Value) (a b c a' b' c' : Nat) : List (Addr × Value) := [(⟨h, 0, none⟩, L), (⟨h + 1, 0, none⟩, F1 a), (⟨h + 1, 1, none⟩, F1 b), (⟨h + 1, 2, none⟩, F1 c), (⟨h + 1 + 1, 0, none⟩, F1 a'), (⟨h + 1 + 1, 1, none⟩, F1 b'), (⟨h + 1 + 1, 2, none⟩, F1 c'), (⟨h + 1 + 1 + 1, 0, none⟩, F1 0), (⟨h + 1 + 1 + 1, 1, none⟩, F1 0), (⟨h + 1 + 1 + 1, 2, none⟩, F1 0), (⟨h + 1 + 1 + 1 + 1, 0, none⟩, F1 0), (⟨h + 1 + 1 + 1 + 1, 1, none⟩, F1 0), (⟨h + 1 + 1 + 1 + 1, 2, none⟩, F1 0)]
def crossW (h : Nat) : List Addr := [⟨h + 1, 0, none⟩, ⟨h + 1, 1, none⟩, ⟨h + 1, 2, none⟩, ⟨h + 1 + 1, 0, none⟩, ⟨h + 1 + 1, 1, none⟩, ⟨h + 1 + 1, 2, none⟩, ⟨h + 1 + 1 + 1, 0, none⟩, ⟨h + 1 + 1 + 1, 1, none⟩, ⟨h + 1 + 1 + 1, 2, none⟩, ⟨h + 1 + 1 + 1 + 1, 0, none⟩, ⟨h + 1 + 1 + 1 + 1, 1, none⟩, ⟨h + 1 + 1 + 1 + 1, 2, none⟩]

inductive PhiC (ns : List PN) (bv rv : Bool) : FuncId → Array Value → Value → Prop
  | valid (args : Array Value) : PhiC ns bv rv 65 args (.bool bv)
  | inn (args : Array Value) : PhiC ns bv rv 67 args (.bool rv)
  | at_ (sa : Addr) (x y z r : Nat) (h : cn .f32 r = topF ns (cn .f32 x, cn .f32 y, cn .f32 z)) : PhiC ns bv rv 72 #[.pointer (some sa), V3 x y z] (F1 r)

set_option maxRecDepth 100000 in
set_option maxHeartbeats 4000000 in
theorem cross_any (ns : List PN) (hnum : ∀ n ∈ ns, n.nums.length < 10000000) (nb no cap x y z x' y' z' : Nat) (c : Int) (bp : Option Addr) (w : World) (hbp : ns ≠ [] → bp = some ⟨nb, no, none⟩) (hsh : ∀ i (h : i < ns.length), NodeIn ns[i] nb (no + i * 4) w) (hlen : ns.length < 10000000) :
    Calls Tryz.prog 21 #[.agg #[.slice bp ns.length cap], V3 x y z, V3 x' y' z', .int .i64 c] w (RetC (crossOk (validF ns) (topF ns) (cn .f32 x, cn .f32 y, cn .f32 z) (cn .f32 x', cn .f32 y', cn .f32 z') c) (crossGo (topF ns) (ltk .f32 (topF ns (cn .f32 x, cn .f32 y, cn .f32 z)) 0) c.toNat (cn .f32 x, cn .f32 y, cn .f32 z) (cn .f32 x', cn .f32 y', cn .f32 z')) w) := by
  obtain ⟨ok, hOk⟩ : ∃ ok, Hid (ok = crossOk (validF ns) (topF ns) (cn .f32 x, cn .f32 y, cn .f32 z) (cn .f32 x', cn .f32 y', cn .f32 z') c) := ⟨_, rfl⟩
  rw [← hOk.out]
  have hin : ∀ w, Calls Tryz.prog 67 #[.int .i64 c, .int .i64 0, .int .i64 60] w (fun e w' => e = .returned (.bool (decide (0 ≤ c) && decide (c ≤ 60))) ∧ w = w') := in_any c 0 60
  go_enter Tryz.func21, Tryz.ntmps21
  go_wp2_with fail
  have W1b : Below w.heap.size w (((((w.alloc (.cells #[.slice bp ns.length cap] 33)).alloc (.cells #[.float .f32 x, .float .f32 y, .float .f32 z] 35)).alloc (.cells #[.float .f32 x', .float .f32 y', .float .f32 z'] 35)).alloc (.cells #[.float .f32 0, .float .f32 0, .float .f32 0] 35)).alloc (.cells #[.float .f32 0, .float .f32 0, .float .f32 0] 35)) := (by repeat' (first | exact Below.refl _ _ | exact Nat.le_refl _ | refine below_drewN ?_ _ | refine Below.alloc ?_ (by first | (simp; done) | (simp; omega)) _ | refine Below.setCell ?_ (by first | (simp; done) | (simp; omega)) _ | refine below_step ?_ (by assumption)))

  have hkept : Kept [(⟨w.heap.size, 0, none⟩, .slice bp ns.length cap), (⟨w.heap.size + 1, 0, none⟩, .float .f32 x), (⟨w.heap.size + 1, 1, none⟩, .float .f32 y), (⟨w.heap.size + 1, 2, none⟩, .float .f32 z), (⟨w.heap.size + 1 + 1, 0, none⟩, .float .f32 x'), (⟨w.heap.size + 1 + 1, 1, none⟩, .float .f32 y'), (⟨w.heap.size + 1 + 1, 2, none⟩, .float .f32 z'), (⟨w.heap.size + 1 + 1 + 1, 0, none⟩, .float .f32 0), (⟨w.heap.size + 1 + 1 + 1, 1, none⟩, .float .f32 0), (⟨w.heap.size + 1 + 1 + 1, 2, none⟩, .float .f32 0), (⟨w.heap.size + 1 + 1 + 1 + 1, 0, none⟩, .float .f32 0), (⟨w.heap.size + 1 + 1 + 1 + 1, 1, none⟩, .float .f32 0), (⟨w.heap.size + 1 + 1 + 1 + 1, 2, none⟩, .float .f32 0)] [⟨w.heap.size + 1, 0, none⟩, ⟨w.heap.size + 1, 1, none⟩, ⟨w.heap.size + 1, 2, none⟩, ⟨w.heap.size + 1 + 1, 0, none⟩, ⟨w.heap.size + 1 + 1, 1, none⟩, ⟨w.heap.size + 1 + 1, 2, none⟩, ⟨w.heap.size + 1 + 1 + 1, 0, none⟩, ⟨w.heap.size + 1 + 1 + 1, 1, none⟩, ⟨w.heap.size + 1 + 1 + 1, 2, none⟩, ⟨w.heap.size + 1 + 1 + 1 + 1, 0, none⟩, ⟨w.heap.size + 1 + 1 + 1 + 1, 1, none⟩, ⟨w.heap.size + 1 + 1 + 1 + 1, 2, none⟩] (((((w.alloc (.cells #[.slice bp ns.length cap] 33)).alloc (.cells #[.float .f32 x, .float .f32 y, .float .f32 z] 35)).alloc (.cells #[.float .f32 x', .float .f32 y', .float .f32 z'] 35)).alloc (.cells #[.float .f32 0, .float .f32 0, .float .f32 0] 35)).alloc (.cells #[.float .f32 0, .float .f32 0, .float .f32 0] 35)) := by
    simp only [Kept, List.forall_mem_append, List.forall_mem_cons, List.not_mem_nil, false_implies, implies_true, and_true, true_and]; (first | (go_simp; done) | (simp [World.cell?, World.frozen?, World.alloc, Array.getElem?_push]; done))
  generalize ((((w.alloc (.cells #[.slice bp ns.length cap] 33)).alloc (.cells #[.float .f32 x, .float .f32 y, .float .f32 z] 35)).alloc (.cells #[.float .f32 x', .float .f32 y', .float .f32 z'] 35)).alloc (.cells #[.float .f32 0, .float .f32 0, .float .f32 0] 35)).alloc (.cells #[.float .f32 0, .float .f32 0, .float .f32 0] 35) = W1 at *
  have hvc : ∀ w', Below W1.heap.size W1 w' → Calls Tryz.prog 65 #[.agg #[.slice bp ns.length cap]] w' (fun e w'' => e = .returned (.bool (validF ns)) ∧ Below w'.heap.size w' w'') := fun w' hb => valid_any ns hnum nb no cap bp w' hbp (fun i h => (hsh i h).keep (below_step W1b hb)) hlen
  cases hval : validF ns
  · have hno : Hid (ok = false) := by unfold Hid; rw [hOk.out, hval]; rfl
    rw [hval] at hvc
    have HV : Hid (validF ns = false) := hval
    clear hsh hbp hnum hval hOk
    refine Qr.wp_below_all (by kernel_rfl) (by kernel_rfl) (PhiC ns false false) ?_
    (refine Qr.walk_plain rfl fun K hK => ?_; apply Qr.one_det; (focus (intro w' hw'; have HK := keep hkept hw'; simp only [Kept, List.forall_mem_append, List.forall_mem_cons, List.not_mem_nil, false_implies, implies_true, and_true, true_and] at HK; go_simp; first | done | rfl)); go_simp; refine hK _ ?_; clear hK K)
    (refine Qr.walk_plain rfl fun K hK => ?_; apply Qr.one_call; (focus (intro w' hw'; go_simp; first | done | exact ⟨rfl, rfl⟩)); (focus (intro w' hw';  go_at_call 65; refine (hvc _ hw').mono ?_; rintro _ w2 ⟨rfl, hb1⟩; exact ⟨_, rfl, by constructor, hw'.trans (by exact Below.mono (by assumption) hw'.size), by assumption⟩)); intro v hv2; obtain ⟨bv, rfl, HB⟩ : ∃ bv, v = .bool bv ∧ Hid (bv = false) := (by cases hv2; exact ⟨_, rfl, rfl⟩); go_simp; refine hK _ ?_; clear hK K)
    (refine Qr.walk_plain rfl fun K hK => ?_; apply Qr.one_det; (focus (intro w' hw'; have HK := keep hkept hw'; simp only [Kept, List.forall_mem_append, List.forall_mem_cons, List.not_mem_nil, false_implies, implies_true, and_true, true_and] at HK; go_simp; first | done | rfl)); go_simp; refine hK _ ?_; clear hK K)
    (refine Qr.walk_plain rfl fun K hK => ?_; apply Qr.one_det; (focus (intro w' hw'; have HK := keep hkept hw'; simp only [Kept, List.forall_mem_append, List.forall_mem_cons, List.not_mem_nil, false_implies, implies_true, and_true, true_and] at HK; go_simp; first | done | rfl)); go_simp; refine hK _ ?_; clear hK K)
    iterate 3 (refine Qr.walk_step fun K hK => ?_; refine if_noC (fun h => no_wC HB.out h) ?_; go_simp; refine hK _ ?_; clear hK K)
    (refine Qr.walk_plain rfl fun K hK => ?_; refine Qr.one_det (v := .bool (!bv)) (by intro w' hw'; have hb0 := HB.out; subst hb0; go_simp) ?_; go_simp; refine hK _ ?_; clear hK K)
    (refine Qr.walk_plain rfl fun K hK => ?_; apply Qr.one_det; (focus (intro w' hw'; have HK := keep hkept hw'; simp only [Kept, List.forall_mem_append, List.forall_mem_cons, List.not_mem_nil, false_implies, implies_true, and_true, true_and] at HK; go_simp; first | done | rfl)); go_simp; refine hK _ ?_; clear hK K)
    iterate 7 (refine Qr.walk_step fun K hK => ?_; refine if_noC (fun h => no_wC HB.out h) ?_; go_simp; refine hK _ ?_; clear hK K)
    (refine Qr.walk_plain rfl fun K hK => ?_; refine Qr.one_det (v := .bool true) (by intro w' hw'; have hb0 := HB.out; subst hb0; go_simp) ?_; go_simp; refine hK _ ?_; clear hK K)
    refine Qr.walk_nil fun w6 hw6 => ?_
    have W6b := below_step W1b hw6
    have hK := keep hkept hw6
    simp only [Kept, List.forall_mem_append, List.forall_mem_cons, List.not_mem_nil, false_implies, implies_true, and_true, true_and] at hK
    clear hkept hw6 hvc hin
    go_wp2_with fail
    exact bodyPost_ret (v := .tuple #[V3 0 0 0, V3 0 0 0, .bool false]) (by simp [results, Tryz.results21, go_sem, hK, World.cell?_setCell_other, World.cell?_setCell_same']) rfl ⟨0, 0, 0, 0, 0, 0, by rw [hno.out], by rw [hno.out, cn_zero]; rfl, by rw [hno.out, cn_zero]; rfl, (((((W6b.setCell (by show w.heap.size ≤ w.heap.size + 1 + 1 + 1; omega) _).setCell (by show w.heap.size ≤ w.heap.size + 1 + 1 + 1; omega) _).setCell (by show w.heap.size ≤ w.heap.size + 1 + 1 + 1; omega) _).setCell (by show w.heap.size ≤ w.heap.size + 1 + 1 + 1 + 1; omega) _).setCell (by show w.heap.size ≤ w.heap.size + 1 + 1 + 1 + 1; omega) _).setCell (by show w.heap.size ≤ w.heap.size + 1 + 1 + 1 + 1; omega) _⟩
  cases hr : (decide (0 ≤ c) && decide (c ≤ 60))
  · have hno : Hid (ok = false) := by unfold Hid; rw [hOk.out, hval]; unfold crossOk; rw [hr]; rfl
    rw [hval] at hvc
    rw [hr] at hin
    clear hsh hbp hnum hval hOk
    refine Qr.wp_below_all (by kernel_rfl) (by kernel_rfl) (PhiC ns true false) ?_
    (refine Qr.walk_plain rfl fun K hK => ?_; apply Qr.one_det; (focus (intro w' hw'; have HK := keep hkept hw'; simp only [Kept, List.forall_mem_append, List.forall_mem_cons, List.not_mem_nil, false_implies, implies_true, and_true, true_and] at HK; go_simp; first | done | rfl)); go_simp; refine hK _ ?_; clear hK K)
    (refine Qr.walk_plain rfl fun K hK => ?_; apply Qr.one_call; (focus (intro w' hw'; go_simp; first | done | exact ⟨rfl, rfl⟩)); (focus (intro w' hw';  go_at_call 65; refine (hvc _ hw').mono ?_; rintro _ w2 ⟨rfl, hb1⟩; exact ⟨_, rfl, by constructor, hw'.trans (by exact Below.mono (by assumption) hw'.size), by assumption⟩)); intro v hv2; obtain ⟨bv, rfl, HB⟩ : ∃ bv, v = .bool bv ∧ Hid (bv = true) := (by cases hv2; exact ⟨_, rfl, rfl⟩); go_simp; refine hK _ ?_; clear hK K)
    (refine Qr.walk_plain rfl fun K hK => ?_; apply Qr.one_det; (focus (intro w' hw'; have HK := keep hkept hw'; simp only [Kept, List.forall_mem_append, List.forall_mem_cons, List.not_mem_nil, false_implies, implies_true, and_true, true_and] at HK; go_simp; first | done | rfl)); go_simp; refine hK _ ?_; clear hK K)
    (refine Qr.walk_plain rfl fun K hK => ?_; apply Qr.one_det; (focus (intro w' hw'; have HK := keep hkept hw'; simp only [Kept, List.forall_mem_append, List.forall_mem_cons, List.not_mem_nil, false_implies, implies_true, and_true, true_and] at HK; go_simp; first | done | rfl)); go_simp; refine hK _ ?_; clear hK K)
    (refine Qr.walk_step fun K hK => ?_; refine if_yesC (yes_wC HB.out) ?_; apply Qr.one_det; (focus (intro w' hw'; go_simp; first | done | rfl)); go_simp; refine hK _ ?_; clear hK K)
    (refine Qr.walk_step fun K hK => ?_; refine if_yesC (yes_wC HB.out) ?_; apply Qr.one_call; (focus (intro w' hw'; go_simp; first | done | exact ⟨rfl, rfl⟩)); (focus (intro w' hw'; go_at_call 67; refine (hin _).mono ?_; rintro _ w2 ⟨rfl, rfl⟩; exact ⟨_, rfl, by constructor, hw', Below.refl _ _⟩)); intro v hv2; obtain ⟨rv, rfl, HR⟩ : ∃ rv, v = .bool rv ∧ Hid (rv = false) := (by cases hv2; exact ⟨_, rfl, rfl⟩); go_simp; refine hK _ ?_; clear hK K)
    (refine Qr.walk_step fun K hK => ?_; refine if_yesC (yes_wC HB.out) ?_; apply Qr.one_det; (focus (intro w' hw'; go_simp; first | done | rfl)); go_simp; refine hK _ ?_; clear hK K)
    (refine Qr.walk_plain rfl fun K hK => ?_; refine Qr.one_det (v := .bool (!rv)) (by intro w' hw'; have hb0 := HB.out; subst hb0; go_simp) ?_; go_simp; refine hK _ ?_; clear hK K)
    (refine Qr.walk_plain rfl fun K hK => ?_; apply Qr.one_det; (focus (intro w' hw'; have HK := keep hkept hw'; simp only [Kept, List.forall_mem_append, List.forall_mem_cons, List.not_mem_nil, false_implies, implies_true, and_true, true_and] at HK; go_simp; first | done | rfl)); go_simp; refine hK _ ?_; clear hK K)
    iterate 7 (refine Qr.walk_step fun K hK => ?_; refine if_noC (fun h => no_wC HR.out h) ?_; go_simp; refine hK _ ?_; clear hK K)
    (refine Qr.walk_plain rfl fun K hK => ?_; refine Qr.one_det (v := .bool true) (by intro w' hw'; have hb0 := HR.out; subst hb0; go_simp) ?_; go_simp; refine hK _ ?_; clear hK K)
    refine Qr.walk_nil fun w6 hw6 => ?_
    have W6b := below_step W1b hw6
    have hK := keep hkept hw6
    simp only [Kept, List.forall_mem_append, List.forall_mem_cons, List.not_mem_nil, false_implies, implies_true, and_true, true_and] at hK
    clear hkept hw6 hvc hin
    go_wp2_with fail
    exact bodyPost_ret (v := .tuple #[V3 0 0 0, V3 0 0 0, .bool false]) (by simp [results, Tryz.results21, go_sem, hK, World.cell?_setCell_other, World.cell?_setCell_same']) rfl ⟨0, 0, 0, 0, 0, 0, by rw [hno.out], by rw [hno.out, cn_zero]; rfl, by rw [hno.out, cn_zero]; rfl, (((((W6b.setCell (by show w.heap.size ≤ w.heap.size + 1 + 1 + 1; omega) _).setCell (by show w.heap.size ≤ w.heap.size + 1 + 1 + 1; omega) _).setCell (by show w.heap.size ≤ w.heap.size + 1 + 1 + 1; omega) _).setCell (by show w.heap.size ≤ w.heap.size + 1 + 1 + 1 + 1; omega) _).setCell (by show w.heap.size ≤ w.heap.size + 1 + 1 + 1 + 1; omega) _).setCell (by show w.heap.size ≤ w.heap.size + 1 + 1 + 1 + 1; omega) _⟩
  have hHval := Lib.hid hval
  rw [hval] at hvc
  rw [hr] at hin
  obtain ⟨hl, hok⟩ := valid_ok hval
  have hne : ns ≠ [] := by intro h; rw [h] at hl; simp at hl
  have hb := hbp hne
  subst hb
  simp only [Bool.and_eq_true, decide_eq_true_eq] at hr
  obtain ⟨k, rfl⟩ := Int.eq_ofNat_of_zero_le (show 0 ≤ c by omega)
  have hk60 : k ≤ 60 := by omega
  have hat : ∀ w', Below w.heap.size w w' → w'.cell? ⟨w.heap.size, 0, none⟩ = some (.slice (some ⟨nb, no, none⟩) ns.length cap) → ∀ (x y z : Nat), Calls Tryz.prog 72 #[.pointer (some ⟨w.heap.size, 0, none⟩), V3 x y z] w' (Ret .f32 (topF ns (cn .f32 x, cn .f32 y, cn .f32 z)) w') := fun w' hb hc x y z => at_any ns hok ⟨hl.1, by omega⟩ w.heap.size 0 nb no cap x y z w' ⟨hc, fun i h => (hsh i h).keep hb⟩
  have hatW : ∀ w', Below W1.heap.size W1 w' → ∀ (x y z : Nat), Calls Tryz.prog 72 #[.pointer (some ⟨w.heap.size, 0, none⟩), V3 x y z] w' (Ret .f32 (topF ns (cn .f32 x, cn .f32 y, cn .f32 z)) w') := fun w' hb x y z => hat w' (below_step W1b hb) (by have hK := keep hkept hb; simp only [Kept, List.forall_mem_append, List.forall_mem_cons, List.not_mem_nil, false_implies, implies_true, and_true, true_and] at hK; exact hK.1.1) x y z
  have hOk2 : Hid (ok = !(ltk .f32 (topF ns (cn .f32 x, cn .f32 y, cn .f32 z)) 0 == ltk .f32 (topF ns (cn .f32 x', cn .f32 y', cn .f32 z')) 0)) := by
    unfold Hid; rw [hOk.out, hHval.out]; unfold crossOk; rw [show (decide (0 ≤ (k : Int)) && decide ((k : Int) ≤ 60)) = true by simp; omega]; rfl
  obtain ⟨R, hR⟩ : ∃ R, Hid (R = crossGo (topF ns) (ltk .f32 (topF ns (cn .f32 x, cn .f32 y, cn .f32 z)) 0) k (cn .f32 x, cn .f32 y, cn .f32 z) (cn .f32 x', cn .f32 y', cn .f32 z')) := ⟨_, rfl⟩
  rw [show crossGo (topF ns) (ltk .f32 (topF ns (cn .f32 x, cn .f32 y, cn .f32 z)) 0) ((k : Int).toNat) (cn .f32 x, cn .f32 y, cn .f32 z) (cn .f32 x', cn .f32 y', cn .f32 z') = R by rw [hR.out]; rfl]
  clear hsh hbp hnum hval hOk hHval hr hok
  refine Qr.wp_below_all (by kernel_rfl) (by kernel_rfl) (PhiC ns true true) ?_
  (refine Qr.walk_plain rfl fun K hK => ?_; apply Qr.one_det; (focus (intro w' hw'; have HK := keep hkept hw'; simp only [Kept, List.forall_mem_append, List.forall_mem_cons, List.not_mem_nil, false_implies, implies_true, and_true, true_and] at HK; go_simp; first | done | rfl)); go_simp; refine hK _ ?_; clear hK K)
  (refine Qr.walk_plain rfl fun K hK => ?_; apply Qr.one_call; (focus (intro w' hw'; go_simp; first | done | exact ⟨rfl, rfl⟩)); (focus (intro w' hw';  go_at_call 65; refine (hvc _ hw').mono ?_; rintro _ w2 ⟨rfl, hb1⟩; exact ⟨_, rfl, by constructor, hw'.trans (by exact Below.mono (by assumption) hw'.size), by assumption⟩)); intro v hv2; obtain ⟨bv, rfl, HB⟩ : ∃ bv, v = .bool bv ∧ Hid (bv = true) := (by cases hv2; exact ⟨_, rfl, rfl⟩); go_simp; refine hK _ ?_; clear hK K)
  (refine Qr.walk_plain rfl fun K hK => ?_; apply Qr.one_det; (focus (intro w' hw'; have HK := keep hkept hw'; simp only [Kept, List.forall_mem_append, List.forall_mem_cons, List.not_mem_nil, false_implies, implies_true, and_true, true_and] at HK; go_simp; first | done | rfl)); go_simp; refine hK _ ?_; clear hK K)
  (refine Qr.walk_plain rfl fun K hK => ?_; apply Qr.one_det; (focus (intro w' hw'; have HK := keep hkept hw'; simp only [Kept, List.forall_mem_append, List.forall_mem_cons, List.not_mem_nil, false_implies, implies_true, and_true, true_and] at HK; go_simp; first | done | rfl)); go_simp; refine hK _ ?_; clear hK K)
  (refine Qr.walk_step fun K hK => ?_; refine if_yesC (yes_wC HB.out) ?_; apply Qr.one_det; (focus (intro w' hw'; go_simp; first | done | rfl)); go_simp; refine hK _ ?_; clear hK K)
  (refine Qr.walk_step fun K hK => ?_; refine if_yesC (yes_wC HB.out) ?_; apply Qr.one_call; (focus (intro w' hw'; go_simp; first | done | exact ⟨rfl, rfl⟩)); (focus (intro w' hw'; go_at_call 67; refine (hin _).mono ?_; rintro _ w2 ⟨rfl, rfl⟩; exact ⟨_, rfl, by constructor, hw', Below.refl _ _⟩)); intro v hv2; obtain ⟨rv, rfl, HR⟩ : ∃ rv, v = .bool rv ∧ Hid (rv = true) := (by cases hv2; exact ⟨_, rfl, rfl⟩); go_simp; refine hK _ ?_; clear hK K)
  (refine Qr.walk_step fun K hK => ?_; refine if_yesC (yes_wC HB.out) ?_; apply Qr.one_det; (focus (intro w' hw'; go_simp; first | done | rfl)); go_simp; refine hK _ ?_; clear hK K)
  (refine Qr.walk_plain rfl fun K hK => ?_; refine Qr.one_det (v := .bool (!rv)) (by intro w' hw'; have hb0 := HB.out; subst hb0; go_simp) ?_; go_simp; refine hK _ ?_; clear hK K)
  (refine Qr.walk_plain rfl fun K hK => ?_; apply Qr.one_det; (focus (intro w' hw'; have HK := keep hkept hw'; simp only [Kept, List.forall_mem_append, List.forall_mem_cons, List.not_mem_nil, false_implies, implies_true, and_true, true_and] at HK; go_simp; first | done | rfl)); go_simp; refine hK _ ?_; clear hK K)
  (refine Qr.walk_step fun K hK => ?_; refine if_yesC (yes_wC HR.out) ?_; apply Qr.one_det; (focus (intro w' hw'; have HK := keep hkept hw'; simp only [Kept, List.forall_mem_append, List.forall_mem_cons, List.not_mem_nil, false_implies, implies_true, and_true, true_and] at HK; go_simp; first | done | rfl)); go_simp; refine hK _ ?_; clear hK K)
  (refine Qr.walk_step fun K hK => ?_; refine if_yesC (yes_wC HR.out) ?_; apply Qr.one_call; (focus (intro w' hw'; go_simp; first | done | exact ⟨rfl, rfl⟩)); (focus (intro w' hw'; go_at_call 72; refine (hatW _ hw' _ _ _).mono ?_; rintro _ w2 ⟨r1, rfl, hr1, hb1⟩; exact ⟨_, rfl, PhiC.at_ _ _ _ _ _ hr1, hw'.trans (by exact Below.mono (by assumption) hw'.size), by assumption⟩)); intro v hv2; obtain ⟨da, rfl, HDA⟩ : ∃ da, v = F1 da ∧ Hid (cn .f32 da = topF ns (cn .f32 x, cn .f32 y, cn .f32 z)) := (by cases hv2; exact ⟨_, rfl, by assumption⟩); go_simp; refine hK _ ?_; clear hK K)
  (refine Qr.walk_step fun K hK => ?_; refine if_yesC (yes_wC HR.out) ?_; refine Qr.one_rel (fun v => ∃ s, v = .bool s ∧ Hid (s = ltk .f32 (topF ns (cn .f32 x, cn .f32 y, cn .f32 z)) 0)) (fun w' hw' => ⟨_, w', by go_simp; rfl, ⟨_, rfl, by unfold Hid; rw [← HDA.out]; exact (ltk_of rfl).symm⟩, hw', Below.refl _ _⟩) (fun v hv => ?_); obtain ⟨sa, rfl, HSA⟩ := hv; go_simp; refine hK _ ?_; clear hK K)
  (refine Qr.walk_step fun K hK => ?_; refine if_yesC (yes_wC HR.out) ?_; apply Qr.one_det; (focus (intro w' hw'; have HK := keep hkept hw'; simp only [Kept, List.forall_mem_append, List.forall_mem_cons, List.not_mem_nil, false_implies, implies_true, and_true, true_and] at HK; go_simp; first | done | rfl)); go_simp; refine hK _ ?_; clear hK K)
  (refine Qr.walk_step fun K hK => ?_; refine if_yesC (yes_wC HR.out) ?_; apply Qr.one_call; (focus (intro w' hw'; go_simp; first | done | exact ⟨rfl, rfl⟩)); (focus (intro w' hw'; go_at_call 72; refine (hatW _ hw' _ _ _).mono ?_; rintro _ w2 ⟨r1, rfl, hr1, hb1⟩; exact ⟨_, rfl, PhiC.at_ _ _ _ _ _ hr1, hw'.trans (by exact Below.mono (by assumption) hw'.size), by assumption⟩)); intro v hv2; obtain ⟨db, rfl, HDB⟩ : ∃ db, v = F1 db ∧ Hid (cn .f32 db = topF ns (cn .f32 x', cn .f32 y', cn .f32 z')) := (by cases hv2; exact ⟨_, rfl, by assumption⟩); go_simp; refine hK _ ?_; clear hK K)
  (refine Qr.walk_step fun K hK => ?_; refine if_yesC (yes_wC HR.out) ?_; refine Qr.one_rel (fun v => ∃ s, v = .bool s ∧ Hid (s = ltk .f32 (topF ns (cn .f32 x', cn .f32 y', cn .f32 z')) 0)) (fun w' hw' => ⟨_, w', by go_simp; rfl, ⟨_, rfl, by unfold Hid; rw [← HDB.out]; exact (ltk_of rfl).symm⟩, hw', Below.refl _ _⟩) (fun v hv => ?_); obtain ⟨sb, rfl, HSB⟩ := hv; go_simp; refine hK _ ?_; clear hK K)
  (refine Qr.walk_step fun K hK => ?_; refine if_yesC (yes_wC HR.out) ?_; apply Qr.one_det; (focus (intro w' hw'; go_simp; first | done | rfl)); go_simp; refine hK _ ?_; clear hK K)
  (refine Qr.walk_plain rfl fun K hK => ?_; refine Qr.one_det (v := .bool (sa == sb)) (by intro w' hw'; have hb0 := HR.out; subst hb0; go_simp) ?_; go_simp; refine hK _ ?_; clear hK K)
  refine Qr.walk_nil fun w6 hw6 => ?_
  have W6b := below_step W1b hw6
  have hkept6 := keep hkept hw6
  have hokS : Hid (ok = !(sa == sb)) := by unfold Hid; rw [hOk2.out, HSA.out, HSB.out]
  clear hOk2 HDA HDB HSB hvc hin HB HR
  clear hatW hkept hw6 W1b
  cases hsS : (sa == sb)
  · have hno : Hid (ok = true) := by unfold Hid; rw [hokS.out, hsS]; rfl
    clear hokS hsS
    have hK := hkept6
    simp only [Kept, List.forall_mem_append, List.forall_mem_cons, List.not_mem_nil, false_implies, implies_true, and_true, true_and] at hK
    have e3 : ∀ r, cn .f32 r = topF ns (cn .f32 x, cn .f32 y, cn .f32 z) → (FloatKind.f32.format.order r 0 == some .lt) = sa := fun r h => by rw [HSA.out, ← h]; exact (ltk_of rfl).symm
    have hRR : Hid (crossGo (topF ns) (ltk .f32 (topF ns (cn .f32 x, cn .f32 y, cn .f32 z)) 0) k (cn .f32 x, cn .f32 y, cn .f32 z) (cn .f32 x', cn .f32 y', cn .f32 z') = R) := by unfold Hid; exact hR.out.symm
    rw [← HSA.out] at hR
    clear HSA
    have hkept := hkept6
    clear hkept6
    go_upto_region 4 with (go_at_call 72; refine (hat _ W6b hK.1.1 _ _ _).mono ?_; rintro _ w7 ⟨r3, rfl, hr3, hb1⟩; have e4 := e3 r3 hr3; have hkept := keepT hkept hb1 rfl; clear hK; have hK := hkept; simp only [Kept, List.forall_mem_append, List.forall_mem_cons, List.not_mem_nil, false_implies, implies_true, and_true, true_and] at hK)
    clear hr3 e3
    have W7b := below_step W6b hb1
    have hkL : Kept (crossL w.heap.size (.slice (some ⟨nb, no, none⟩) ns.length cap) x y z x' y' z') (crossW w.heap.size) w7 := by unfold crossL crossW; simp only [Kept, List.forall_mem_append, List.forall_mem_cons, List.not_mem_nil, false_implies, implies_true, and_true, true_and]; simp [hK]
    clear hK hkept W6b hb1 e4
    go_wp2_with fail
    go_loopw [36] (fun i wr => ∃ (j a b c a' b' c' : Nat), j ≤ k ∧ i = .int .i64 (j : Int) ∧ Kept (crossL w.heap.size (.slice (some ⟨nb, no, none⟩) ns.length cap) a b c a' b' c') (crossW w.heap.size) wr ∧ Hid (R = crossGo (topF ns) sa (k - j) (cn .f32 a, cn .f32 b, cn .f32 c) (cn .f32 a', cn .f32 b', cn .f32 c')) ∧ Below w.heap.size w wr) (fun i _ => k - (intOf i).toNat)
    case atStart => exact ⟨0, x, y, z, x', y', z', by omega, rfl, hkL, hR, W7b⟩
    case round =>
      obtain ⟨j, a, b, c, a', b', c', hjk, rfl, hkr, hgo, Wb⟩ := hrel
      clear hR hkL
      have hK := hkr
      unfold crossL crossW at hK
      simp only [Kept, List.forall_mem_append, List.forall_mem_cons, List.not_mem_nil, false_implies, implies_true, and_true, true_and] at hK
      by_cases hlt : j < k
      · have hlt' : (j : Int) < (k : Int) := by omega
        go_upto_region 7 with (go_at_call 73; refine (between_any _ _ _ _ _ _ _ _).mono ?_; rintro _ w8 ⟨m0, m1, m2, rfl, hm0, hm1, hm2, hb1⟩)
        have W8b : Below w.heap.size w (w8.alloc (.cells #[F1 m0, F1 m1, F1 m2] 35)) := (below_step Wb hb1).alloc (below_step Wb hb1).size _
        have hk8 := kept_app (keep (keep hkr hb1) ((Below.refl _ _).alloc (Nat.le_refl _) (.cells #[F1 m0, F1 m1, F1 m2] 35))) (show Kept [(⟨w8.heap.size, 0, none⟩, F1 m0), (⟨w8.heap.size, 1, none⟩, F1 m1), (⟨w8.heap.size, 2, none⟩, F1 m2)] [] (w8.alloc (.cells #[F1 m0, F1 m1, F1 m2] 35)) by simp only [Kept, List.forall_mem_append, List.forall_mem_cons, List.not_mem_nil, false_implies, implies_true, and_true, true_and]; simp)
        have hl8 : w.heap.size + 1 + 1 + 1 + 1 < w8.heap.size := by
          have h1 : w.heap.size + 1 + 1 + 1 + 1 < wr.heap.size := some_lt (a := ⟨w.heap.size + 1 + 1 + 1 + 1, 0, none⟩) (by simp [hK])
          exact Nat.lt_of_lt_of_le h1 hb1.size
        have hne1 : w8.heap.size ≠ w.heap.size + 1 := by omega
        have hne2 : w8.heap.size ≠ w.heap.size + 1 + 1 := by omega
        clear hK hkr hb1 Wb
        have hgo2 : Hid (R = if ltk .f32 (topF ns (cn .f32 m0, cn .f32 m1, cn .f32 m2)) 0 == sa then crossGo (topF ns) sa (k - (j + 1)) (cn .f32 m0, cn .f32 m1, cn .f32 m2) (cn .f32 a', cn .f32 b', cn .f32 c') else crossGo (topF ns) sa (k - (j + 1)) (cn .f32 a, cn .f32 b, cn .f32 c) (cn .f32 m0, cn .f32 m1, cn .f32 m2)) := by
          have := hgo.out
          rw [show k - j = (k - (j + 1)) + 1 by omega, crossGo] at this
          unfold Hid
          simp only [betV] at this
          simp only [hm0, hm1, hm2]
          exact this
        clear hgo hm0 hm1 hm2
        generalize w8.alloc (.cells #[F1 m0, F1 m1, F1 m2] 35) = W8 at *
        generalize w8.heap.size = g8 at *
        have hkept := hk8
        have hK := hk8
        unfold crossL crossW at hK
        simp only [Kept, List.forall_mem_append, List.forall_mem_cons, List.not_mem_nil, false_implies, implies_true, and_true, true_and] at hK
        go_wp2_with (go_at_call 72; refine (hat _ W8b (by simp [hK]) _ _ _).mono ?_; rintro _ w9 ⟨r4, rfl, hr4, hb1⟩; have hkept := keep hkept hb1; clear hK; have hK := hkept; unfold crossL crossW at hK; simp only [Kept, List.forall_mem_append, List.forall_mem_cons, List.not_mem_nil, false_implies, implies_true, and_true, true_and] at hK)
        all_goals
          rename_i hc
          have W9b := below_step W8b hb1
        · have hc2 : (ltk .f32 (topF ns (cn .f32 m0, cn .f32 m1, cn .f32 m2)) 0 == sa) = true := by rw [← hr4]; unfold ltk; rw [ord_r0]; exact hc
          exact ⟨⟨j + 1, m0, m1, m2, a', b', c', by omega, rfl, by unfold crossL crossW; simp only [Kept, List.forall_mem_append, List.forall_mem_cons, List.not_mem_nil, false_implies, implies_true, and_true, true_and]; simp [hK, World.cell?_setCell_other, World.cell?_setCell_same', World.frozen?_setCell], by unfold Hid; rw [hgo2.out, if_pos hc2], ((W9b.setCell (by show w.heap.size ≤ w.heap.size + 1; omega) _).setCell (by show w.heap.size ≤ w.heap.size + 1; omega) _).setCell (by show w.heap.size ≤ w.heap.size + 1; omega) _⟩, by simp [intOf]; omega⟩
        · have hc2 : ¬ (ltk .f32 (topF ns (cn .f32 m0, cn .f32 m1, cn .f32 m2)) 0 == sa) = true := by rw [← hr4]; unfold ltk; rw [ord_r0]; simpa using hc
          exact ⟨⟨j + 1, a, b, c, m0, m1, m2, by omega, rfl, by unfold crossL crossW; simp only [Kept, List.forall_mem_append, List.forall_mem_cons, List.not_mem_nil, false_implies, implies_true, and_true, true_and]; simp [hK, World.cell?_setCell_other, World.cell?_setCell_same', World.frozen?_setCell], by unfold Hid; rw [hgo2.out, if_neg hc2], ((W9b.setCell (by show w.heap.size ≤ w.heap.size + 1 + 1; omega) _).setCell (by show w.heap.size ≤ w.heap.size + 1 + 1; omega) _).setCell (by show w.heap.size ≤ w.heap.size + 1 + 1; omega) _⟩, by simp [intOf]; omega⟩
      · have hlt' : ¬ (j : Int) < (k : Int) := by omega
        obtain rfl : j = k := by omega
        have hRs : Hid (R = ((cn .f32 a, cn .f32 b, cn .f32 c), (cn .f32 a', cn .f32 b', cn .f32 c'))) := by have := hgo.out; rwa [Nat.sub_self, crossGo] at this
        go_wp2_with fail
        go_region
        all_goals
          go_wp2_with fail
          have hfin := hRR.out.trans hRs.out
          exact bodyPost_ret (v := .tuple #[V3 a b c, V3 a' b' c', .bool true]) (by simp [results, Tryz.results21, go_sem, hK, World.cell?_setCell_other, World.cell?_setCell_same']) rfl ⟨a, b, c, a', b', c', by rw [hno.out], by rw [hno.out]; exact (congrArg Prod.fst hfin).symm, by rw [hno.out]; exact (congrArg Prod.snd hfin).symm, Below.drew ((((((Wb.setCell (by show w.heap.size ≤ w.heap.size + 1 + 1 + 1; omega) _).setCell (by show w.heap.size ≤ w.heap.size + 1 + 1 + 1; omega) _).setCell (by show w.heap.size ≤ w.heap.size + 1 + 1 + 1; omega) _).setCell (by show w.heap.size ≤ w.heap.size + 1 + 1 + 1 + 1; omega) _).setCell (by show w.heap.size ≤ w.heap.size + 1 + 1 + 1 + 1; omega) _).setCell (by show w.heap.size ≤ w.heap.size + 1 + 1 + 1 + 1; omega) _)⟩
  · have hno : Hid (ok = false) := by unfold Hid; rw [hokS.out, hsS]; rfl
    have hK := hkept6
    simp only [Kept, List.forall_mem_append, List.forall_mem_cons, List.not_mem_nil, false_implies, implies_true, and_true, true_and] at hK
    clear hokS hsS hat
    go_wp2_with fail
    exact bodyPost_ret (v := .tuple #[V3 0 0 0, V3 0 0 0, .bool false]) (by simp [results, Tryz.results21, go_sem, hK, World.cell?_setCell_other, World.cell?_setCell_same']) rfl ⟨0, 0, 0, 0, 0, 0, by rw [hno.out], by rw [hno.out, cn_zero]; rfl, by rw [hno.out, cn_zero]; rfl, (((((W6b.setCell (by show w.heap.size ≤ w.heap.size + 1 + 1 + 1; omega) _).setCell (by show w.heap.size ≤ w.heap.size + 1 + 1 + 1; omega) _).setCell (by show w.heap.size ≤ w.heap.size + 1 + 1 + 1; omega) _).setCell (by show w.heap.size ≤ w.heap.size + 1 + 1 + 1 + 1; omega) _).setCell (by show w.heap.size ≤ w.heap.size + 1 + 1 + 1 + 1; omega) _).setCell (by show w.heap.size ≤ w.heap.size + 1 + 1 + 1 + 1; omega) _⟩
end Go.Proofs.YtdbpgblhnhdhoaaGreat
