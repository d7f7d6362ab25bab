/-
  Walks of the reference: a right node.
-/
import Derived.Test.YtdbpgblhnhdhoaaS6
import Derived.Lib.Hide
set_option linter.unusedVariables false
set_option linter.unusedSimpArgs false
namespace Go.Proofs.Ytdbpgblhnhdhoaa
open Go.RowKit Go.Fl

def inI (a lo hi : Int) : Bool := decide (lo ≤ a) && decide (a ≤ hi)
def numS (n : PN) : Bool := decide (n.nums.length = (ruleF n.kind).1) && !n.nums.any (badS (ruleF n.kind).2.2.2)
def nodeS (n : PN) (i : Int) : Bool :=
  inI n.kind 0 16 && numS n &&
    (if inI n.kind 0 4 then decide (n.a = 0) && decide (n.b = 0) else inI n.a 0 (i - 1) && (if inI n.kind 5 8 then inI n.b 0 (i - 1) else if inI n.kind 12 14 then inI n.b 0 2 else decide (n.b = 0)))

inductive PhiN (n : PN) : FuncId → Array Value → Value → Prop
  | inn (a b c : Int) : PhiN n 39 #[.int .i64 a, .int .i64 b, .int .i64 c] (.bool (inI a b c))
  | num (k : Int) (v : Value) : PhiN n 50 #[.int .i64 k, v] (.bool (numS n))

theorem if_no {c : Prop} [Decidable c] {p q : Prop} (h : ¬ c) (hq : q) : if c then p else q := by rw [if_neg h]; exact hq
theorem no_w {bv : Bool} (hb : bv = false) (h : (some (!bv) == some false) = true) : False := by subst hb; cases h

set_option maxRecDepth 100000 in
set_option maxHeartbeats 400000 in
theorem s_node_no {n : PN} {b o : Nat} {w : World} (hn : NodeIn n b o w) (hl : n.nums.length < 10000000) (i : Nat) (hi : i < 1000) (hk0 : inI n.kind 0 16 = false) :
    Calls Try.prog 27 #[.pointer (some ⟨b, o, none⟩), .int .i64 i] w (fun e w' => e = .returned (.bool (nodeS n i)) ∧ Below w.heap.size w w') := by
  have hK1 := hn.kind
  obtain ⟨nbp, nbv, nov, ncap, hK2, hK3, hK4⟩ := hn.nums
  have hkept : Kept [(⟨b, o, none⟩, .int .i64 n.kind), (⟨b, o + 3, none⟩, .slice nbp n.nums.length ncap)] [] w := by
    simp only [Kept, List.forall_mem_append, List.forall_mem_cons, List.not_mem_nil, false_implies, implies_true, and_true, true_and]
    exact ⟨hK1, hK2⟩
  have hb : b < w.heap.size := some_lt (a := ⟨b, o, none⟩) (by rw [hK1]; rfl)
  · have hv : Hid (nodeS n i = false) := by unfold Hid; simp only [nodeS, hk0, Bool.false_and]
    have HK0 : Hid (inI n.kind 0 16 = false) := Lib.hid hk0
    clear hk0
    go_enter Try.func27, Try.ntmps27
    go_wp2_with fail
    refine Qr.wp_below_all (by kernel_rfl) (by kernel_rfl) (PhiN n) ?_
    iterate 7 (first | (refine Qr.walk_plain rfl fun K hK => ?_; apply Qr.one_det; (focus (intro w' hw'; have HK := keep hkept hw'; simp only [Kept, List.forall_mem_append, List.forall_mem_cons, List.not_mem_nil, false_implies, implies_true, and_true, true_and] at HK; go_simp; first | done | rfl)); go_simp; refine hK _ ?_; clear hK K) | (refine Qr.walk_plain rfl fun K hK => ?_; apply Qr.one_call; (focus (intro w' hw'; go_simp; first | done | exact ⟨rfl, rfl⟩)); (focus (intro w' hw';  go_at_call 39; refine (s_in_any _ _ _ _).mono ?_; rintro _ w2 ⟨rfl, rfl⟩; exact ⟨_, rfl, by constructor, hw', Below.refl _ _⟩)); intro v hv2; obtain ⟨bv, rfl, HB⟩ : ∃ bv, v = .bool bv ∧ Hid (bv = false) := (by cases hv2; exact ⟨_, rfl, HK0⟩); go_simp; refine hK _ ?_; clear hK K))
    iterate 10 (refine Qr.walk_step fun K hK => ?_; refine if_no (fun h => no_w HB.out h) ?_; go_simp; refine hK _ ?_; clear hK K)
    refine Qr.walk_plain rfl fun K hK => ?_
    refine Qr.one_det (v := .bool true) (by intro w' hw'; have hb0 := HB.out; subst hb0; go_simp) ?_; go_simp; refine hK _ ?_; clear hK K
    refine Qr.walk_nil fun w6 hw6 => ?_
    go_wp2_with fail
    go_ret
    exact ⟨by rw [hv.out]; rfl, hw6⟩

set_option maxRecDepth 100000 in
set_option maxHeartbeats 4000000 in
theorem s_node_any {n : PN} {b o : Nat} {w : World} (hn : NodeIn n b o w) (hl : n.nums.length < 10000000) (i : Nat) (hi : i < 1000) :
    Calls Try.prog 27 #[.pointer (some ⟨b, o, none⟩), .int .i64 i] w (fun e w' => e = .returned (.bool (nodeS n i)) ∧ Below w.heap.size w w') := by
  have hK1 := hn.kind
  obtain ⟨nbp, nbv, nov, ncap, hK2, hK3, hK4⟩ := hn.nums
  have hkept : Kept [(⟨b, o, none⟩, .int .i64 n.kind), (⟨b, o + 3, none⟩, .slice nbp n.nums.length ncap)] [] w := by
    simp only [Kept, List.forall_mem_append, List.forall_mem_cons, List.not_mem_nil, false_implies, implies_true, and_true, true_and]
    exact ⟨hK1, hK2⟩
  have hb : b < w.heap.size := some_lt (a := ⟨b, o, none⟩) (by rw [hK1]; rfl)
  cases hk0 : inI n.kind 0 16
  · exact s_node_no hn hl i hi hk0
  have hnumc : ∀ w', Below w.heap.size w w' → Calls Try.prog 50 #[.int .i64 n.kind, .slice nbp n.nums.length ncap] w' (fun e w'' => e = .returned (.bool (numS n)) ∧ Below w'.heap.size w' w'') := fun w' h => s_numbers_any n.kind (by simpa [inI] using hk0) n.nums nbp nbv nov ncap w' hK3 (fun i hi => by rw [lift h _ (by rw [hK4 i hi]; rfl)]; exact hK4 i hi)
  go_enter Try.func27, Try.ntmps27
  go_wp2_with fail
  refine Qr.wp_below_all (by kernel_rfl) (by kernel_rfl) (PhiN n) ?_
  repeat (first | (refine Qr.walk_plain rfl fun K hK => ?_; apply Qr.one_det; (focus (intro w' hw'; have HK := keep hkept hw'; simp only [Kept, List.forall_mem_append, List.forall_mem_cons, List.not_mem_nil, false_implies, implies_true, and_true, true_and] at HK; go_simp; first | done | rfl)); go_simp; refine hK _ ?_; clear hK K) | (refine Qr.walk_plain rfl fun K hK => ?_; apply Qr.one_call; (focus (intro w' hw'; go_simp; first | done | exact ⟨rfl, rfl⟩)); (focus (intro w' hw';  go_at_call 39; refine (s_in_any _ _ _ _).mono ?_; rintro _ w2 ⟨rfl, rfl⟩; exact ⟨_, rfl, by constructor, hw', Below.refl _ _⟩)); intro v hv; cases hv; go_simp; refine hK _ ?_; clear hK K))
  repeat (first | (refine Qr.walk_step fun K hK => ?_; rw [if_pos (by rfl)]; apply Qr.one_det; (focus (intro w' hw'; have HK := keep hkept hw'; simp only [Kept, List.forall_mem_append, List.forall_mem_cons, List.not_mem_nil, false_implies, implies_true, and_true, true_and] at HK; go_simp; first | done | rfl)); go_simp; refine hK _ ?_; clear hK K) | (refine Qr.walk_step fun K hK => ?_; rw [if_pos (by rfl)]; apply Qr.one_call; (focus (intro w' hw'; go_simp; first | done | exact ⟨rfl, rfl⟩)); (focus (intro w' hw';  go_at_call 50; refine (hnumc _ hw').mono ?_; rintro _ w2 ⟨rfl, hb1⟩; exact ⟨_, rfl, by constructor, hw'.trans (by exact Below.mono (by assumption) hw'.size), by assumption⟩)); intro v hv; cases hv; go_simp; refine hK _ ?_; clear hK K))
  refine Qr.walk_nil fun w6 hw6 => ?_
  have hA := (hn.keep hw6).a
  have hB := (hn.keep hw6).b
  have hK := (hn.keep hw6).kind
  clear hkept hnumc hK1 hK2 hK3 hK4 hn
  have hi1 : (0 : Int) ≤ (i : Int) := by omega
  have hi2 : (i : Int) < 1000 := by omega
  have hv : Hid (nodeS n i = (numS n && (if inI n.kind 0 4 then decide (n.a = 0) && decide (n.b = 0) else inI n.a 0 (i - 1) && (if inI n.kind 5 8 then inI n.b 0 (i - 1) else if inI n.kind 12 14 then inI n.b 0 2 else decide (n.b = 0))))) := by
    unfold Hid; simp only [nodeS, hk0, Bool.true_and]
  cases hns : numS n
  · go_wp2_with fail
    go_ret
    exact ⟨by rw [hv.out, hns]; rfl, hw6⟩
  have hin : ∀ (a c d : Int) (w : World), Calls Try.prog 39 #[.int .i64 a, .int .i64 c, .int .i64 d] w (fun e w' => e = .returned (.bool (inI a c d)) ∧ w = w') := fun a c d w => s_in_any a c d w
  have hleaf : ∀ (a : Int) (w : World), Calls Try.prog 21 #[.int .i64 a] w (fun e w' => e = .returned (.bool (inI a 0 4)) ∧ w = w') := fun a w => s_leaf_any a w
  have htwo : ∀ (a : Int) (w : World), Calls Try.prog 28 #[.int .i64 a] w (fun e w' => e = .returned (.bool (inI a 5 8)) ∧ w = w') := fun a w => s_two_any a w
  have haxis : ∀ (a : Int) (w : World), Calls Try.prog 51 #[.int .i64 a] w (fun e w' => e = .returned (.bool (inI a 12 14)) ∧ w = w') := fun a w => s_axis_any a w
  cases hlf : inI n.kind 0 4
  · cases hia : inI n.a 0 ((i : Int) - 1) <;> cases htw : inI n.kind 5 8 <;> cases hax : inI n.kind 12 14 <;> by_cases hb' : n.b = 0
    all_goals
      go_wp2_with (first
        | (go_at_call 21; refine (hleaf _ _).mono ?_; rintro _ w2 ⟨rfl, rfl⟩; rw [hlf])
        | (go_at_call 28; refine (htwo _ _).mono ?_; rintro _ w2 ⟨rfl, rfl⟩; rw [htw])
        | (go_at_call 51; refine (haxis _ _).mono ?_; rintro _ w2 ⟨rfl, rfl⟩; rw [hax])
        | (go_at_call 39; refine (hin _ _ _ _).mono ?_; rintro _ w2 ⟨rfl, rfl⟩; (try rw [hia])))
      go_ret
      exact ⟨by rw [hv.out, hns, hlf, hia, htw, hax]; first | rfl | simp [hb'], hw6⟩
  · by_cases ha : n.a = 0 <;> by_cases hb' : n.b = 0
    all_goals
      go_wp2_with (go_at_call 21; refine (hleaf _ _).mono ?_; rintro _ w2 ⟨rfl, rfl⟩; rw [hlf])
      go_ret
      exact ⟨by rw [hv.out, hns, hlf]; simp [ha, hb'], hw6⟩
end Go.Proofs.Ytdbpgblhnhdhoaa
