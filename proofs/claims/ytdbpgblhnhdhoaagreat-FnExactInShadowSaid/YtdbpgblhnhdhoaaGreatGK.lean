/-
  Walks of the reference: a right node.
  Walks of the reference: a right shape.
-/
import Derived.Test.YtdbpgblhnhdhoaaGreatS6
import Derived.Lib.Hide
import Derived.Test.YtdbpgblhnhdhoaaGreatGH
set_option linter.unusedVariables false
set_option linter.unusedSimpArgs false
namespace Go.Proofs.YtdbpgblhnhdhoaaGreat
open Go.RowKit Go.Fl

def inI (a lo hi : Int) : Bool := decide (lo ≤ a) && decide (a ≤ hi)
def numS (n : PN) : Bool := decide (n.nums.length = (ruleF n.kind).1) && !n.nums.any (badS (ruleF n.kind).2.2.2)
def nodeS (n : PN) (i : Int) : Bool :=
  inI n.kind 0 16 && numS n &&
    (if inI n.kind 0 4 then decide (n.a = 0) && decide (n.b = 0) else inI n.a 0 (i - 1) && (if inI n.kind 5 8 then inI n.b 0 (i - 1) else if inI n.kind 12 14 then inI n.b 0 2 else decide (n.b = 0)))

inductive PhiN (n : PN) : FuncId → Array Value → Value → Prop
  | inn (a b c : Int) : PhiN n 62 #[.int .i64 a, .int .i64 b, .int .i64 c] (.bool (inI a b c))
  | num (k : Int) (v : Value) : PhiN n 151 #[.int .i64 k, v] (.bool (numS n))

theorem if_no {c : Prop} [Decidable c] {p q : Prop} (h : ¬ c) (hq : q) : if c then p else q := by rw [if_neg h]; exact hq
theorem no_w {bv : Bool} (hb : bv = false) (h : (some (!bv) == some false) = true) : False := by subst hb; cases h

set_option maxRecDepth 100000 in
set_option maxHeartbeats 400000 in
theorem s_node_no {n : PN} {b o : Nat} {w : World} (hn : NodeIn n b o w) (hl : n.nums.length < 10000000) (i : Nat) (hi : i < 1000) (hk0 : inI n.kind 0 16 = false) :
    Calls Tryz.prog 106 #[.pointer (some ⟨b, o, none⟩), .int .i64 i] w (fun e w' => e = .returned (.bool (nodeS n i)) ∧ Below w.heap.size w w') := by
  have hK1 := hn.kind
  obtain ⟨nbp, nbv, nov, ncap, hK2, hK3, hK4⟩ := hn.nums
  have hkept : Kept [(⟨b, o, none⟩, .int .i64 n.kind), (⟨b, o + 3, none⟩, .slice nbp n.nums.length ncap)] [] w := by
    simp only [Kept, List.forall_mem_append, List.forall_mem_cons, List.not_mem_nil, false_implies, implies_true, and_true, true_and]
    exact ⟨hK1, hK2⟩
  have hb : b < w.heap.size := some_lt (a := ⟨b, o, none⟩) (by rw [hK1]; rfl)
  · have hv : Hid (nodeS n i = false) := by unfold Hid; simp only [nodeS, hk0, Bool.false_and]
    have HK0 : Hid (inI n.kind 0 16 = false) := Lib.hid hk0
    clear hk0
    go_enter Tryz.func106, Tryz.ntmps106
    go_wp2_with fail
    refine Qr.wp_below_all (by kernel_rfl) (by kernel_rfl) (PhiN n) ?_
    iterate 7 (first | (refine Qr.walk_plain rfl fun K hK => ?_; apply Qr.one_det; (focus (intro w' hw'; have HK := keep hkept hw'; simp only [Kept, List.forall_mem_append, List.forall_mem_cons, List.not_mem_nil, false_implies, implies_true, and_true, true_and] at HK; go_simp; first | done | rfl)); go_simp; refine hK _ ?_; clear hK K) | (refine Qr.walk_plain rfl fun K hK => ?_; apply Qr.one_call; (focus (intro w' hw'; go_simp; first | done | exact ⟨rfl, rfl⟩)); (focus (intro w' hw';  go_at_call 62; refine (s_in_any _ _ _ _).mono ?_; rintro _ w2 ⟨rfl, rfl⟩; exact ⟨_, rfl, by constructor, hw', Below.refl _ _⟩)); intro v hv2; obtain ⟨bv, rfl, HB⟩ : ∃ bv, v = .bool bv ∧ Hid (bv = false) := (by cases hv2; exact ⟨_, rfl, HK0⟩); go_simp; refine hK _ ?_; clear hK K))
    iterate 10 (refine Qr.walk_step fun K hK => ?_; refine if_no (fun h => no_w HB.out h) ?_; go_simp; refine hK _ ?_; clear hK K)
    refine Qr.walk_plain rfl fun K hK => ?_
    refine Qr.one_det (v := .bool true) (by intro w' hw'; have hb0 := HB.out; subst hb0; go_simp) ?_; go_simp; refine hK _ ?_; clear hK K
    refine Qr.walk_nil fun w6 hw6 => ?_
    go_wp2_with fail
    go_ret
    exact ⟨by rw [hv.out]; rfl, hw6⟩

set_option maxRecDepth 100000 in
set_option maxHeartbeats 4000000 in
theorem s_node_any {n : PN} {b o : Nat} {w : World} (hn : NodeIn n b o w) (hl : n.nums.length < 10000000) (i : Nat) (hi : i < 1000) :
    Calls Tryz.prog 106 #[.pointer (some ⟨b, o, none⟩), .int .i64 i] w (fun e w' => e = .returned (.bool (nodeS n i)) ∧ Below w.heap.size w w') := by
  have hK1 := hn.kind
  obtain ⟨nbp, nbv, nov, ncap, hK2, hK3, hK4⟩ := hn.nums
  have hkept : Kept [(⟨b, o, none⟩, .int .i64 n.kind), (⟨b, o + 3, none⟩, .slice nbp n.nums.length ncap)] [] w := by
    simp only [Kept, List.forall_mem_append, List.forall_mem_cons, List.not_mem_nil, false_implies, implies_true, and_true, true_and]
    exact ⟨hK1, hK2⟩
  have hb : b < w.heap.size := some_lt (a := ⟨b, o, none⟩) (by rw [hK1]; rfl)
  cases hk0 : inI n.kind 0 16
  · exact s_node_no hn hl i hi hk0
  have hnumc : ∀ w', Below w.heap.size w w' → Calls Tryz.prog 151 #[.int .i64 n.kind, .slice nbp n.nums.length ncap] w' (fun e w'' => e = .returned (.bool (numS n)) ∧ Below w'.heap.size w' w'') := fun w' h => s_numbers_any n.kind (by simpa [inI] using hk0) n.nums nbp nbv nov ncap w' hK3 (fun i hi => by rw [lift h _ (by rw [hK4 i hi]; rfl)]; exact hK4 i hi)
  go_enter Tryz.func106, Tryz.ntmps106
  go_wp2_with fail
  refine Qr.wp_below_all (by kernel_rfl) (by kernel_rfl) (PhiN n) ?_
  repeat (first | (refine Qr.walk_plain rfl fun K hK => ?_; apply Qr.one_det; (focus (intro w' hw'; have HK := keep hkept hw'; simp only [Kept, List.forall_mem_append, List.forall_mem_cons, List.not_mem_nil, false_implies, implies_true, and_true, true_and] at HK; go_simp; first | done | rfl)); go_simp; refine hK _ ?_; clear hK K) | (refine Qr.walk_plain rfl fun K hK => ?_; apply Qr.one_call; (focus (intro w' hw'; go_simp; first | done | exact ⟨rfl, rfl⟩)); (focus (intro w' hw';  go_at_call 62; refine (s_in_any _ _ _ _).mono ?_; rintro _ w2 ⟨rfl, rfl⟩; exact ⟨_, rfl, by constructor, hw', Below.refl _ _⟩)); intro v hv; cases hv; go_simp; refine hK _ ?_; clear hK K))
  repeat (first | (refine Qr.walk_step fun K hK => ?_; rw [if_pos (by rfl)]; apply Qr.one_det; (focus (intro w' hw'; have HK := keep hkept hw'; simp only [Kept, List.forall_mem_append, List.forall_mem_cons, List.not_mem_nil, false_implies, implies_true, and_true, true_and] at HK; go_simp; first | done | rfl)); go_simp; refine hK _ ?_; clear hK K) | (refine Qr.walk_step fun K hK => ?_; rw [if_pos (by rfl)]; apply Qr.one_call; (focus (intro w' hw'; go_simp; first | done | exact ⟨rfl, rfl⟩)); (focus (intro w' hw';  go_at_call 151; refine (hnumc _ hw').mono ?_; rintro _ w2 ⟨rfl, hb1⟩; exact ⟨_, rfl, by constructor, hw'.trans (by exact Below.mono (by assumption) hw'.size), by assumption⟩)); intro v hv; cases hv; go_simp; refine hK _ ?_; clear hK K))
  refine Qr.walk_nil fun w6 hw6 => ?_
  have hA := (hn.keep hw6).a
  have hB := (hn.keep hw6).b
  have hK := (hn.keep hw6).kind
  clear hkept hnumc hK1 hK2 hK3 hK4 hn
  have hi1 : (0 : Int) ≤ (i : Int) := by omega
  have hi2 : (i : Int) < 1000 := by omega
  have hv : Hid (nodeS n i = (numS n && (if inI n.kind 0 4 then decide (n.a = 0) && decide (n.b = 0) else inI n.a 0 (i - 1) && (if inI n.kind 5 8 then inI n.b 0 (i - 1) else if inI n.kind 12 14 then inI n.b 0 2 else decide (n.b = 0))))) := by
    unfold Hid; simp only [nodeS, hk0, Bool.true_and]
  cases hns : numS n
  · go_wp2_with fail
    go_ret
    exact ⟨by rw [hv.out, hns]; rfl, hw6⟩
  have hin : ∀ (a c d : Int) (w : World), Calls Tryz.prog 62 #[.int .i64 a, .int .i64 c, .int .i64 d] w (fun e w' => e = .returned (.bool (inI a c d)) ∧ w = w') := fun a c d w => s_in_any a c d w
  have hleaf : ∀ (a : Int) (w : World), Calls Tryz.prog 107 #[.int .i64 a] w (fun e w' => e = .returned (.bool (inI a 0 4)) ∧ w = w') := fun a w => s_leaf_any a w
  have htwo : ∀ (a : Int) (w : World), Calls Tryz.prog 108 #[.int .i64 a] w (fun e w' => e = .returned (.bool (inI a 5 8)) ∧ w = w') := fun a w => s_two_any a w
  have haxis : ∀ (a : Int) (w : World), Calls Tryz.prog 152 #[.int .i64 a] w (fun e w' => e = .returned (.bool (inI a 12 14)) ∧ w = w') := fun a w => s_axis_any a w
  cases hlf : inI n.kind 0 4
  · cases hia : inI n.a 0 ((i : Int) - 1) <;> cases htw : inI n.kind 5 8 <;> cases hax : inI n.kind 12 14 <;> by_cases hb' : n.b = 0
    all_goals
      go_wp2_with (first
        | (go_at_call 107; refine (hleaf _ _).mono ?_; rintro _ w2 ⟨rfl, rfl⟩; rw [hlf])
        | (go_at_call 108; refine (htwo _ _).mono ?_; rintro _ w2 ⟨rfl, rfl⟩; rw [htw])
        | (go_at_call 152; refine (haxis _ _).mono ?_; rintro _ w2 ⟨rfl, rfl⟩; rw [hax])
        | (go_at_call 62; refine (hin _ _ _ _).mono ?_; rintro _ w2 ⟨rfl, rfl⟩; (try rw [hia])))
      go_ret
      exact ⟨by rw [hv.out, hns, hlf, hia, htw, hax]; first | rfl | simp [hb'], hw6⟩
  · by_cases ha : n.a = 0 <;> by_cases hb' : n.b = 0
    all_goals
      go_wp2_with (go_at_call 107; refine (hleaf _ _).mono ?_; rintro _ w2 ⟨rfl, rfl⟩; rw [hlf])
      go_ret
      exact ⟨by rw [hv.out, hns, hlf]; simp [ha, hb'], hw6⟩
end Go.Proofs.YtdbpgblhnhdhoaaGreat

namespace Go.Proofs.YtdbpgblhnhdhoaaGreat
open Go.RowKit Go.Fl

def bump (us : List Nat) (c : Int) : List Nat := us.set c.toNat (us.getD c.toNat 0 + 1)
def useA (us : List Nat) (n : PN) : List Nat := if inI n.kind 0 4 then us else bump us n.a
def useB (us : List Nat) (n : PN) : List Nat := if inI n.kind 5 8 then bump us n.b else us
def usesS : List PN → Nat → List Nat → Option (List Nat)
  | [], _, us => some us
  | n :: rest, i, us => if nodeS n i then usesS rest (i + 1) (useB (useA us n) n) else none
def endS (l : Nat) : Option (List Nat) → Bool
  | none => false
  | some us => !(us.take (l - 1)).any (· != 1)
def validS (ns : List PN) : Bool := decide (1 ≤ ns.length) && decide (ns.length ≤ 16) && endS ns.length (usesS ns 0 (List.replicate ns.length 0))

theorem bump_len (us : List Nat) (c : Int) : (bump us c).length = us.length := by unfold bump; simp
theorem useA_len (us : List Nat) (n : PN) : (useA us n).length = us.length := by unfold useA; split; rfl; exact bump_len _ _
theorem useB_len (us : List Nat) (n : PN) : (useB us n).length = us.length := by unfold useB; split; exact bump_len _ _; rfl
theorem bump_le {us : List Nat} {c : Int} {k : Nat} (h : ∀ x ∈ us, x ≤ k) : ∀ x ∈ bump us c, x ≤ k + 1 := by
  intro x hx
  unfold bump at hx
  rcases List.mem_or_eq_of_mem_set hx with h' | h'
  · have := h x h'; omega
  · have : us.getD c.toNat 0 ≤ k := by
      rw [List.getD_eq_getElem?_getD]
      cases hg : us[c.toNat]? with
      | none => simp
      | some y => exact h y (List.mem_of_getElem? hg)
    omega
theorem useA_le {us : List Nat} {n : PN} {k : Nat} (h : ∀ x ∈ us, x ≤ k) : ∀ x ∈ useA us n, x ≤ k + 1 := by
  intro x hx
  unfold useA at hx
  split at hx
  · have := h x hx; omega
  · exact bump_le h x hx
theorem useB_le {us : List Nat} {n : PN} {k : Nat} (h : ∀ x ∈ us, x ≤ k) : ∀ x ∈ useB us n, x ≤ k + 1 := by
  intro x hx
  unfold useB at hx
  split at hx
  · exact bump_le h x hx
  · have := h x hx; omega

theorem nodeS_kids {n : PN} {i : Int} (h : nodeS n i = true) : (inI n.kind 0 4 = false → 0 ≤ n.a ∧ n.a < i) ∧ (inI n.kind 5 8 = true → 0 ≤ n.b ∧ n.b < i) := by
  unfold nodeS at h
  simp only [Bool.and_eq_true] at h
  refine ⟨fun h1 => ?_, fun h1 => ?_⟩
  · rw [h1] at h
    simp only [Bool.false_eq_true, if_false, Bool.and_eq_true] at h
    have := h.2.1
    simp only [inI, Bool.and_eq_true, decide_eq_true_eq] at this
    omega
  · have h0 : inI n.kind 0 4 = false := by
      simp only [inI, Bool.and_eq_true, decide_eq_true_eq, Bool.and_eq_false_iff, decide_eq_false_iff_not] at h1 ⊢
      omega
    rw [h0, h1] at h
    simp only [Bool.false_eq_true, if_false, if_true, Bool.and_eq_true] at h
    have := h.2.2
    simp only [inI, Bool.and_eq_true, decide_eq_true_eq] at this
    omega

set_option maxRecDepth 100000 in
theorem make_int64s (n : Nat) (hn : n ≤ 16) (w : World) : (Instr.makeSlice 47 (.int .i64 (n : Int)) (.int .i64 (n : Int))).run Tryz.prog w = .ok (.slice (some ⟨w.heap.size, 0, none⟩) n n) (w.alloc (.cells (ints (List.replicate n 0)) 2)) := by
  have : n = 0 ∨ n = 1 ∨ n = 2 ∨ n = 3 ∨ n = 4 ∨ n = 5 ∨ n = 6 ∨ n = 7 ∨ n = 8 ∨ n = 9 ∨ n = 10 ∨ n = 11 ∨ n = 12 ∨ n = 13 ∨ n = 14 ∨ n = 15 ∨ n = 16 := by omega
  rcases this with h | h | h | h | h | h | h | h | h | h | h | h | h | h | h | h | h  <;> subst h <;> (first | rfl | (show _ = _; kernel_rfl))

set_option maxRecDepth 100000 in
set_option maxHeartbeats 4000000 in
theorem s_is_any (ns : List PN) (hnum : ∀ n ∈ ns, n.nums.length < 10000000) (sb so nb no cap : Nat) (bp : Option Addr) (w : World) (hS : w.cell? ⟨sb, so, none⟩ = some (.slice bp ns.length cap)) (hbp : ns ≠ [] → bp = some ⟨nb, no, none⟩) (hsh : ∀ i (h : i < ns.length), NodeIn ns[i] nb (no + i * 4) w) (hlen : ns.length < 10000000) :
    Calls Tryz.prog 60 #[.pointer (some ⟨sb, so, none⟩)] w (fun e w' => e = .returned (.bool (validS ns)) ∧ Below w.heap.size w w') := by
  have hsb : sb < w.heap.size := some_lt (a := ⟨sb, so, none⟩) (by rw [hS]; rfl)
  by_cases hr : 1 ≤ ns.length ∧ ns.length ≤ 16
  · have hne : ns ≠ [] := by intro h; rw [h] at hr; simp at hr
    have hb := hbp hne
    subst hb
    have hr1 : (1 : Int) ≤ (ns.length : Int) := by omega
    have hr2 : (ns.length : Int) ≤ 16 := by omega
    go_enter Tryz.func60, Tryz.ntmps60
    go_wp2_with fail
    rw [make_int64s _ hr.2]
    generalize hZ : ints (List.replicate ns.length 0) = Z
    have W1b : Below w.heap.size w (w.alloc (.cells Z 2)) := (by repeat' (first | exact Below.refl _ _ | exact Nat.le_refl _ | refine below_drewN ?_ _ | refine Below.alloc ?_ (by first | (simp; done) | (simp; omega)) _ | refine Below.setCell ?_ (by first | (simp; done) | (simp; omega)) _ | refine below_step ?_ (by assumption)))

    have hbox : (w.alloc (.cells Z 2)).cell? ⟨sb, so, none⟩ = some (.slice (some ⟨nb, no, none⟩) ns.length cap) := by rw [lift W1b _ (by rw [hS]; rfl)]; exact hS
    have hpar := heap_alloc_at w (.cells Z 2)
    generalize w.alloc (.cells Z 2) = W1 at *
    subst hZ
    have hS0 := Lib.hid hS
    go_wp2_with fail
    go_loopw [5] (fun i wr => ∃ (m : Nat) (us : List Nat), m ≤ ns.length ∧ i = .int .i64 (m : Int) ∧ us.length = ns.length ∧ (∀ x ∈ us, x ≤ 2 * m) ∧ usesS (ns.drop m) m us = usesS ns 0 (List.replicate ns.length 0) ∧ wr.heap[w.heap.size]? = some (.cells (ints us) 2 (0, 0)) ∧ Below w.heap.size w wr) (fun i _ => ns.length - (intOf i).toNat)
    case atStart => exact ⟨0, _, by omega, rfl, by simp, by simp, rfl, hpar, W1b⟩
    case round =>
      obtain ⟨m, us, hm, rfl, hus, hle, hrun, hpar, Wb⟩ := hrel
      clear W1b hbox hS
      by_cases hlt : m < ns.length
      · have hlt' : (m : Int) < (ns.length : Int) := by omega
        have h0 : (0 : Int) ≤ (m : Int) := by omega
        have hn0 := hsh m hlt
        have hnb : nb < w.heap.size := some_lt (a := ⟨nb, no + m * 4, none⟩) (by rw [hn0.kind]; rfl)
        have hn := hn0.keep Wb
        have hSr : wr.cell? ⟨sb, so, none⟩ = some (.slice (some ⟨nb, no, none⟩) ns.length cap) := by rw [lift Wb _ (by rw [hS0.out]; rfl)]; exact hS0.out
        have hdrop : ns.drop m = ns[m] :: ns.drop (m + 1) := List.drop_eq_getElem_cons hlt
        rw [hdrop, usesS] at hrun
        have hnl : ns[m].nums.length < 10000000 := hnum _ (List.getElem_mem _)
        clear hn0
        generalize ns[m] = n at *
        have hbad : nodeS n m = false → Hid (validS ns = false) := fun h => by
          unfold Hid
          rw [if_neg (by rw [h]; decide)] at hrun
          simp only [validS, ← hrun]
          simp [endS]
        go_wp2_with fail
        refine (s_node_any hn hnl m (by omega)).mono ?_
        rintro _ w2 ⟨rfl, hb2⟩
        have W2b := below_step Wb hb2
        have hn2 := hn.keep hb2
        have hpar2 : w2.heap[w.heap.size]? = some (.cells (ints us) 2 (0, 0)) := by
          have := hb2.block (w.heap.size) (by have := (Array.getElem?_eq_some_iff.1 hpar).1; omega)
          rw [this]; exact hpar
        cases hns : nodeS n m
        · have hv := hbad hns
          clear hbad
          go_wp2_with fail
          go_ret
          exact ⟨by rw [hv.out]; rfl, W2b⟩
        · rw [if_pos hns] at hrun
          obtain ⟨hka, hkb⟩ := nodeS_kids hns
          have hleA := useA_le (n := n) hle
          have hleB := useB_le (n := n) hleA
          have hfz : ∀ o, w2.frozen? ⟨w.heap.size, o, none⟩ = false := fun o => by simp [World.frozen?, hpar2]
          have hk2 := hn2.kind
          have ha2 := hn2.a
          have hb2' := hn2.b
          clear hbad hns hSr hn hb2 hpar Wb hn2 hdrop
          have hleaf : ∀ (w : World), Calls Tryz.prog 107 #[.int .i64 n.kind] w (fun e w' => e = .returned (.bool (inI n.kind 0 4)) ∧ w = w') := fun w => s_leaf_any _ w
          have htwo : ∀ (w : World), Calls Tryz.prog 108 #[.int .i64 n.kind] w (fun e w' => e = .returned (.bool (inI n.kind 5 8)) ∧ w = w') := fun w => s_two_any _ w
          cases hlf : inI n.kind 0 4
          · obtain ⟨ca, hca⟩ := Int.eq_ofNat_of_zero_le (hka hlf).1
            have hcl : ca < us.length := by have := (hka hlf).2; omega
            have hua : useA us n = us.set ca (us[ca] + 1) := by
              unfold useA bump
              rw [hlf, hca]
              simp [List.getElem?_eq_getElem hcl]
            have hv1 : us[ca] ≤ 2 * m := hle _ (List.getElem_mem hcl)
            have hpa := par_cell hpar2 ca hcl
            have hset := set_ints hpar2 ca (us[ca] + 1)
            rw [← hua] at hset
            have hclI : (ca : Int) < (ns.length : Int) := by omega
            rw [hca] at ha2
            have hkB := hkb
            clear hkb hka
            have huaH := Lib.hid hua
            clear hua
            generalize us[ca] = va at *
            have hva : (va : Int) < 1000 := by omega
            have hfar : ∀ o v, (w2.setCell ⟨w.heap.size, ca, none⟩ v).cell? ⟨nb, o, none⟩ = w2.cell? ⟨nb, o, none⟩ := fun o v => World.cell?_setCell_far _ _ _ _ (by show w.heap.size ≠ nb; omega)
            have hset' : (w2.setCell ⟨w.heap.size, ca, none⟩ (.int .i64 ((va : Int) + 1))).heap[w.heap.size]? = some (.cells (ints (useA us n)) 2 (0, 0)) := hset
            have hfz2 : ∀ o, (w2.setCell ⟨w.heap.size, ca, none⟩ (.int .i64 ((va : Int) + 1))).frozen? ⟨w.heap.size, o, none⟩ = false := fun o => by simp [World.frozen?, hset']
            have hb3 := W2b.setCell (p := ⟨w.heap.size, ca, none⟩) (Nat.le_refl _) (Value.int .i64 ((va : Int) + 1))
            cases htw : inI n.kind 5 8
            · have hub : useB (useA us n) n = useA us n := by unfold useB; rw [htw]; rfl
              rw [hub] at hrun hleB
              have hrunH := Lib.hid hrun
              have hsetH := Lib.hid hset'
              have hleH := Lib.hid hleA
              clear hrun hset hset' hleA hleB hub hle hkB hpar2
              go_wp2_with (first
                | (go_at_call 107; refine (hleaf _).mono ?_; rintro _ w4 ⟨rfl, rfl⟩; rw [hlf])
                | (go_at_call 108; refine (htwo _).mono ?_; rintro _ w4 ⟨rfl, rfl⟩; rw [htw]))
              exact ⟨⟨m + 1, useA us n, by omega, by simp, by rw [useA_len]; exact hus, fun x hx => by have := hleH.out x hx; omega, hrunH.out, hsetH.out, hb3⟩, by simp [intOf]; omega⟩
            · obtain ⟨cb, hcb⟩ := Int.eq_ofNat_of_zero_le (hkB htw).1
              have hcl2 : cb < (useA us n).length := by rw [useA_len]; have := (hkB htw).2; omega
              have hub : useB (useA us n) n = (useA us n).set cb ((useA us n)[cb] + 1) := by
                unfold useB bump
                rw [htw, hcb]
                simp [List.getElem?_eq_getElem hcl2]
              have hv2 : (useA us n)[cb] ≤ 2 * m + 1 := hleA _ (List.getElem_mem hcl2)
              have hpb := par_cell hset' cb hcl2
              have hset2 := set_ints hset' cb ((useA us n)[cb] + 1)
              rw [← hub] at hset2
              have hclI2 : (cb : Int) < (ns.length : Int) := by rw [useA_len] at hcl2; omega
              rw [hcb] at hb2'
              generalize (useA us n)[cb] = vb at *
              have hvb : (vb : Int) < 1000 := by omega
              have hset2' : ((w2.setCell ⟨w.heap.size, ca, none⟩ (.int .i64 ((va : Int) + 1))).setCell ⟨w.heap.size, cb, none⟩ (.int .i64 ((vb : Int) + 1))).heap[w.heap.size]? = some (.cells (ints (useB (useA us n) n)) 2 (0, 0)) := hset2
              have hb4 := hb3.setCell (p := ⟨w.heap.size, cb, none⟩) (Nat.le_refl _) (Value.int .i64 ((vb : Int) + 1))
              have hrunH := Lib.hid hrun
              have hsetH := Lib.hid hset2'
              have hleH := Lib.hid hleB
              have hlenH : Hid ((useB (useA us n) n).length = ns.length) := by unfold Hid; rw [useB_len, useA_len]; exact hus
              clear hrun hset hset' hset2 hset2' hleA hleB hub hle hkB hpar2 hcl2 hcl hca hcb huaH
              go_wp2_with (first
                | (go_at_call 107; refine (hleaf _).mono ?_; rintro _ w4 ⟨rfl, rfl⟩; rw [hlf])
                | (go_at_call 108; refine (htwo _).mono ?_; rintro _ w4 ⟨rfl, rfl⟩; rw [htw]))
              exact ⟨⟨m + 1, useB (useA us n) n, by omega, by simp, hlenH.out, fun x hx => by have := hleH.out x hx; omega, hrunH.out, hsetH.out, hb4⟩, by simp [intOf]; omega⟩
          · have htw : inI n.kind 5 8 = false := by
              simp only [inI, Bool.and_eq_true, decide_eq_true_eq, Bool.and_eq_false_iff, decide_eq_false_iff_not] at hlf ⊢
              omega
            have hua : useA us n = us := by unfold useA; rw [hlf]; rfl
            have hub : useB us n = us := by unfold useB; rw [htw]; rfl
            rw [hua, hub] at hrun
            have hrunH := Lib.hid hrun
            have hsetH := Lib.hid hpar2
            have hleH := Lib.hid hle
            clear hrun hpar2 hleA hleB hub hua hle hka hkb hfz
            go_wp2_with (first
              | (go_at_call 107; refine (hleaf _).mono ?_; rintro _ w4 ⟨rfl, rfl⟩; rw [hlf])
              | (go_at_call 108; refine (htwo _).mono ?_; rintro _ w4 ⟨rfl, rfl⟩; rw [htw]))
            exact ⟨⟨m + 1, us, by omega, by simp, hus, fun x hx => by have := hleH.out x hx; omega, hrunH.out, hsetH.out, W2b⟩, by simp [intOf]; omega⟩
      · obtain rfl : m = ns.length := by omega
        have hval : Hid (validS ns = !(us.take (ns.length - 1)).any (· != 1)) := by
          unfold Hid
          rw [List.drop_length] at hrun
          simp only [validS, ← hrun, usesS, endS]
          simp [hr.1, hr.2]
        clear hrun hsh hnum hle
        go_wp2_with fail
        go_loopw [7] (fun i wr' => ∃ (k : Nat), k ≤ ns.length - 1 ∧ i = .int .i64 (k : Int) ∧ (us.take k).any (· != 1) = false ∧ wr' = wr) (fun i _ => ns.length - (intOf i).toNat)
        case atStart => exact ⟨0, by omega, rfl, rfl, rfl⟩
        case round =>
          obtain ⟨k, hk, rfl, hany, rfl⟩ := hrel
          by_cases hlt2 : k < ns.length - 1
          · have hlt2' : (k : Int) < (ns.length : Int) - 1 := by omega
            have hk0 : (0 : Int) ≤ (k : Int) := by omega
            have hkl : (k : Int) < (ns.length : Int) := by omega
            have hku : k < us.length := by omega
            have hpk := par_cell hpar k hku
            have hyes : Hid (us[k] ≠ 1 → (us.take (ns.length - 1)).any (· != 1) = true) := fun h => List.any_eq_true.2 ⟨us[k], List.mem_take_iff_getElem.2 ⟨k, by omega, rfl⟩, by simpa using h⟩
            have hno : Hid (us[k] = 1 → (us.take (k + 1)).any (· != 1) = false) := fun h => any_take_succ _ us k hku hany (by rw [h]; rfl)
            clear hpar hany
            generalize us[k] = v at *
            by_cases hv1 : v = 1
            · subst hv1
              go_wp2_with fail
              exact ⟨⟨k + 1, by omega, by simp, hno.out rfl, by first | rfl | trivial⟩, by simp [intOf]; omega⟩
            · have hv2 : ((v : Int) != 1) = true := by simp; omega
              have hv3 : (v : Int) ≠ 1 := by omega
              go_wp2_with fail
              go_ret
              exact ⟨by rw [hval.out, hyes.out hv1]; rfl, Wb⟩
          · obtain rfl : k = ns.length - 1 := by omega
            have hcast : ((ns.length - 1 : Nat) : Int) = (ns.length : Int) - 1 := by omega
            have hH := Lib.hid hany
            clear hany hpar
            rw [hcast]
            go_wp2_with fail
            go_ret
            exact ⟨by rw [hval.out, hH.out]; rfl, Wb⟩
  · have hv : validS ns = false := by
      simp only [validS, Bool.and_eq_false_iff, decide_eq_false_iff_not]
      omega
    rw [hv]
    clear hbp hsh hnum hv
    by_cases h1 : ns.length < 1
    · have h1' : (ns.length : Int) < 1 := by omega
      go_enter Tryz.func60, Tryz.ntmps60
      go_wp2_with fail
      go_ret
      exact ⟨rfl, (by repeat' (first | exact Below.refl _ _ | exact Nat.le_refl _ | refine below_drewN ?_ _ | refine Below.alloc ?_ (by first | (simp; done) | (simp; omega)) _ | refine Below.setCell ?_ (by first | (simp; done) | (simp; omega)) _ | refine below_step ?_ (by assumption)))⟩
    · have h1' : (1 : Int) ≤ (ns.length : Int) := by omega
      have h2' : (16 : Int) < (ns.length : Int) := by omega
      go_enter Tryz.func60, Tryz.ntmps60
      go_wp2_with fail
      go_ret
      exact ⟨rfl, (by repeat' (first | exact Below.refl _ _ | exact Nat.le_refl _ | refine below_drewN ?_ _ | refine Below.alloc ?_ (by first | (simp; done) | (simp; omega)) _ | refine Below.setCell ?_ (by first | (simp; done) | (simp; omega)) _ | refine below_step ?_ (by assumption)))⟩
end Go.Proofs.YtdbpgblhnhdhoaaGreat
