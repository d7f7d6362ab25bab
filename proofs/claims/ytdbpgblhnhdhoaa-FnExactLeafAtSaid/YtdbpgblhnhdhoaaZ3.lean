/-
  Plain law: both ways to tell a right shape agree; each node but the last has one parent.
-/
import Derived.Test.YtdbpgblhnhdhoaaS16
set_option linter.unusedVariables false
set_option linter.unusedSimpArgs false
namespace Go.Proofs.Ytdbpgblhnhdhoaa
open Go.RowKit Go.Fl

theorem any_or {α : Type} (p q : α → Bool) : ∀ l : List α, l.any (fun x => p x || q x) = (l.any p || l.any q)
  | [] => rfl
  | x :: l => by
    simp only [List.any_cons, any_or p q l]
    cases p x <;> cases q x <;> cases l.any p <;> cases l.any q <;> rfl

theorem num_same {n : PN} (h : inI n.kind 0 16 = true) : numOk n.kind n.nums = numS n := by
  have hk : kindOk n.kind = true := h
  unfold numOk numS
  rw [hk, show (badS (ruleF n.kind).2.2.2) = fun x => (!finP x) || signBad (ruleF n.kind).2.2.2 x from rfl, any_or]
  cases decide (n.nums.length = (ruleF n.kind).1) <;> cases n.nums.any (fun x => !finP x) <;> cases n.nums.any (signBad (ruleF n.kind).2.2.2) <;> rfl

theorem axis_in {k : Int} (h : 0 ≤ k ∧ k ≤ 16) : inI k 12 14 = (ruleF k).2.2.1 := by
  have : k = 0 ∨ k = 1 ∨ k = 2 ∨ k = 3 ∨ k = 4 ∨ k = 5 ∨ k = 6 ∨ k = 7 ∨ k = 8 ∨ k = 9 ∨ k = 10 ∨ k = 11 ∨ k = 12 ∨ k = 13 ∨ k = 14 ∨ k = 15 ∨ k = 16 := by omega
  rcases this with h | h | h | h | h | h | h | h | h | h | h | h | h | h | h | h | h <;> subst h <;> decide
theorem axis_kids {k : Int} (h : 0 ≤ k ∧ k ≤ 16) (ha : (ruleF k).2.2.1 = true) : (ruleF k).2.1 = 1 := by
  have : k = 0 ∨ k = 1 ∨ k = 2 ∨ k = 3 ∨ k = 4 ∨ k = 5 ∨ k = 6 ∨ k = 7 ∨ k = 8 ∨ k = 9 ∨ k = 10 ∨ k = 11 ∨ k = 12 ∨ k = 13 ∨ k = 14 ∨ k = 15 ∨ k = 16 := by omega
  rcases this with h | h | h | h | h | h | h | h | h | h | h | h | h | h | h | h | h <;> subst h <;> first | rfl | exact absurd ha (by decide)

theorem add_bump (i : Nat) (c : Int) (cs : List Int) (ps : List Nat) : addKids i (c :: cs) ps = if inI c 0 ((i : Int) - 1) then addKids i cs (bump ps c) else none := by
  rw [addKids]
  by_cases h : 0 ≤ c ∧ c < (i : Int)
  · have : inI c 0 ((i : Int) - 1) = true := by simp only [inI, Bool.and_eq_true, decide_eq_true_eq]; omega
    rw [if_pos h, this]; rfl
  · have : inI c 0 ((i : Int) - 1) = false := by simp only [inI, Bool.and_eq_false_iff, decide_eq_false_iff_not]; omega
    rw [if_neg h, this]; rfl

theorem step_same (n : PN) (i : Nat) (ps : List Nat) : (if nodeOk n then addKids i (kidsOf n) ps else none) = if nodeS n i then some (useB (useA ps n) n) else none := by
  cases hk : inI n.kind 0 16
  · have h1 : nodeOk n = false := by
      have : kindOk n.kind = false := hk
      simp [nodeOk, numOk, this]
    have h2 : nodeS n i = false := by simp [nodeS, hk]
    rw [h1, h2]; rfl
  · have hkk : 0 ≤ n.kind ∧ n.kind ≤ 16 := by simpa [inI] using hk
    obtain ⟨k1, k2⟩ := kids_in hkk
    have k3 := axis_in hkk
    have k4 := axis_kids hkk
    have hnum := num_same hk
    unfold nodeOk nodeS
    rw [hk, hnum]
    cases hn : numS n
    · simp
    · have hkc := kids_cases n.kind
      unfold axOk kidsOf useB useA
      rw [k1, k2, k3]
      rcases hkc with h | h | h
      · have h3 : (ruleF n.kind).2.2.1 = false := by
          cases h4 : (ruleF n.kind).2.2.1
          · rfl
          · have := k4 h4; omega
        rw [h, h3]
        by_cases ha : n.a = 0 <;> by_cases hb : n.b = 0 <;> simp [ha, hb, addKids]
      · rw [h]
        simp only [List.take_succ_cons, List.take_zero]
        rw [add_bump, addKids]
        cases h3 : (ruleF n.kind).2.2.1
        · cases hia : inI n.a 0 ((i : Int) - 1) <;> by_cases hb : n.b = 0 <;> simp [hb]
        · cases hia : inI n.a 0 ((i : Int) - 1) <;> by_cases hb : n.b = 0
          all_goals simp [hb, inI]
      · have h3 : (ruleF n.kind).2.2.1 = false := by
          cases h4 : (ruleF n.kind).2.2.1
          · rfl
          · have := k4 h4; omega
        rw [h, h3]
        simp only [List.take_succ_cons, List.take_zero]
        rw [add_bump, add_bump, addKids]
        cases hia : inI n.a 0 ((i : Int) - 1) <;> cases hib : inI n.b 0 ((i : Int) - 1) <;> simp

theorem run_same : ∀ (l : List PN) (i : Nat) (ps : List Nat), runNodes l i ps = usesS l i ps
  | [], _, _ => rfl
  | n :: rest, i, ps => by
    rw [runNodes, usesS]
    have h := step_same n i ps
    cases hn : nodeOk n
    · rw [hn] at h
      cases hs : nodeS n i
      · rfl
      · rw [hs] at h; cases h
    · rw [hn] at h
      simp only [if_true] at h ⊢
      rw [h]
      cases hs : nodeS n i
      · rfl
      · simp only [if_true]; exact run_same rest (i + 1) _

/-- How often a node is another one's child. -/
def refs (c : Nat) (n : PN) : Nat := (if inI n.kind 0 4 then 0 else if n.a.toNat = c then 1 else 0) + (if inI n.kind 5 8 then (if n.b.toNat = c then 1 else 0) else 0)

theorem bump_get (us : List Nat) (c : Int) (j : Nat) (hc : c.toNat < us.length) : (bump us c).getD j 0 = us.getD j 0 + if c.toNat = j then 1 else 0 := by
  unfold bump
  rw [List.getD_eq_getElem?_getD, List.getD_eq_getElem?_getD, List.getElem?_set]
  by_cases h : c.toNat = j
  · subst h
    rw [if_pos rfl, if_pos hc, if_pos rfl, List.getD_eq_getElem?_getD]; rfl
  · rw [if_neg h, if_neg h]; rfl

theorem uses_get : ∀ (l : List PN) (i : Nat) (us r : List Nat), i + l.length ≤ us.length → usesS l i us = some r → r.length = us.length ∧ ∀ c, r.getD c 0 = us.getD c 0 + (l.map (refs c)).sum
  | [], _, us, r, _, h => by
    rw [usesS] at h
    cases h
    exact ⟨rfl, fun c => by simp⟩
  | n :: rest, i, us, r, hl, h => by
    rw [usesS] at h
    cases hn : nodeS n i
    · rw [hn] at h; cases h
    · rw [hn, if_pos rfl] at h
      obtain ⟨ka, kb⟩ := nodeS_kids hn
      obtain ⟨h1, h2⟩ := uses_get rest (i + 1) _ r (by rw [useB_len, useA_len]; simp at hl; omega) h
      rw [useB_len, useA_len] at h1
      refine ⟨h1, fun c => ?_⟩
      rw [h2 c, List.map_cons, List.sum_cons]
      simp at hl
      have e1 : (useA us n).getD c 0 = us.getD c 0 + if inI n.kind 0 4 then 0 else if n.a.toNat = c then 1 else 0 := by
        unfold useA
        cases hk : inI n.kind 0 4
        · simp only [Bool.false_eq_true, if_false]
          exact bump_get us n.a c (by have := ka hk; omega)
        · simp
      have e2 : (useB (useA us n) n).getD c 0 = (useA us n).getD c 0 + if inI n.kind 5 8 then (if n.b.toNat = c then 1 else 0) else 0 := by
        unfold useB
        cases hk : inI n.kind 5 8
        · simp
        · simp only [if_true]
          exact bump_get _ n.b c (by rw [useA_len]; have := kb hk; omega)
      rw [e2, e1]
      unfold refs
      omega

theorem uses_ok : ∀ (l : List PN) (i : Nat) (us r : List Nat), usesS l i us = some r → ∀ j (h : j < l.length), nodeS l[j] ((i + j : Nat) : Int) = true
  | [], _, _, _, _, j, h => by simp at h
  | n :: rest, i, us, r, h, j, hj => by
    rw [usesS] at h
    cases hn : nodeS n i
    · rw [hn] at h; cases h
    · rw [hn, if_pos rfl] at h
      cases j with
      | zero => exact hn
      | succ j =>
        have := uses_ok rest (i + 1) _ r h j (by simpa using hj)
        rw [show i + 1 + j = i + (j + 1) by omega] at this
        exact this

theorem sum_zero {α : Type} (f : α → Nat) : ∀ (l : List α), (∀ j (h : j < l.length), f l[j] = 0) → (l.map f).sum = 0
  | [], _ => rfl
  | x :: l, h => by
    have h0 : f x = 0 := h 0 (by simp)
    rw [List.map_cons, List.sum_cons, h0, sum_zero f l (fun j hj => h (j + 1) (by simpa using hj))]
theorem le_sum {α : Type} (f : α → Nat) : ∀ (l : List α) (j : Nat) (h : j < l.length), f l[j] ≤ (l.map f).sum
  | x :: l, 0, _ => by rw [List.map_cons, List.sum_cons]; exact Nat.le_add_right _ _
  | x :: l, j + 1, h => by
    rw [List.map_cons, List.sum_cons]
    exact Nat.le_trans (le_sum f l j (by simpa using h)) (Nat.le_add_left _ _)
theorem le_sum2 {α : Type} (f : α → Nat) : ∀ (l : List α) (j k : Nat) (hj : j < k) (hk : k < l.length), f (l[j]'(by omega)) + f l[k] ≤ (l.map f).sum
  | x :: l, 0, k + 1, _, hk => by
    rw [List.map_cons, List.sum_cons]
    exact Nat.add_le_add_left (le_sum f l k (by simpa using hk)) _
  | x :: l, j + 1, k + 1, hj, hk => by
    rw [List.map_cons, List.sum_cons]
    exact Nat.le_trans (le_sum2 f l j k (by omega) (by simpa using hk)) (Nat.le_add_left _ _)

/-- Both ways to tell a right shape agree. -/
theorem valid_same (ns : List PN) : validS ns = validF ns := by
  unfold validS validF
  rw [run_same]
  by_cases hl : 1 ≤ ns.length ∧ ns.length ≤ 16
  · cases hr : usesS ns 0 (List.replicate ns.length 0) with
    | none => rfl
    | some r =>
      obtain ⟨h1, h2⟩ := uses_get ns 0 _ r (by simp) hr
      have hok := uses_ok ns 0 _ r hr
      have hlast : r.getD (ns.length - 1) 0 = 0 := by
        rw [h2]
        have e1 : (List.replicate ns.length 0).getD (ns.length - 1) 0 = 0 := by
          rw [List.getD_eq_getElem?_getD, List.getElem?_replicate]
          split <;> rfl
        rw [e1, sum_zero]
        intro j hj
        have hn := hok j hj
        rw [Nat.zero_add] at hn
        obtain ⟨ka, kb⟩ := nodeS_kids hn
        unfold refs
        cases hk : inI ns[j].kind 0 4
        · have := ka hk
          cases hk2 : inI ns[j].kind 5 8
          · have e : ¬ ns[j].a.toNat = ns.length - 1 := by omega
            simp [e]
          · have := kb hk2
            have e : ¬ ns[j].a.toNat = ns.length - 1 := by omega
            have e2 : ¬ ns[j].b.toNat = ns.length - 1 := by omega
            simp [e, e2]
        · cases hk2 : inI ns[j].kind 5 8
          · simp
          · exfalso
            simp only [inI, Bool.and_eq_true, decide_eq_true_eq] at hk hk2
            omega
      simp only [endS, endOk, hlast]
      rfl
  · have : (decide (1 ≤ ns.length) && decide (ns.length ≤ 16)) = false := by
      simp only [Bool.and_eq_false_iff, decide_eq_false_iff_not]; omega
    rw [this]; rfl

/-- What is known of a right shape. -/
structure Tree (ns : List PN) : Prop where
  len : 1 ≤ ns.length ∧ ns.length ≤ 16
  ok : OkAll ns
  one : ∀ c, c < ns.length - 1 → (ns.map (refs c)).sum = 1

theorem tree_of {ns : List PN} (h : validF ns = true) : Tree ns := by
  obtain ⟨hl, hok⟩ := valid_ok h
  refine ⟨hl, hok, fun c hc => ?_⟩
  rw [← valid_same] at h
  unfold validS at h
  cases hr : usesS ns 0 (List.replicate ns.length 0) with
  | none => rw [hr] at h; simp [endS] at h
  | some r =>
    rw [hr] at h
    simp only [Bool.and_eq_true, endS, Bool.not_eq_true'] at h
    obtain ⟨h1, h2⟩ := uses_get ns 0 _ r (by simp) hr
    have h3 := h2 c
    have e1 : (List.replicate ns.length 0).getD c 0 = 0 := by
      rw [List.getD_eq_getElem?_getD, List.getElem?_replicate]
      split <;> rfl
    rw [e1, Nat.zero_add] at h3
    rw [← h3]
    have hcl : c < r.length := by rw [h1]; simp; omega
    have hm : r[c] ∈ r.take (ns.length - 1) := List.mem_take_iff_getElem.2 ⟨c, by omega, rfl⟩
    have := List.any_eq_false.1 h.2 _ hm
    rw [List.getD_eq_getElem?_getD, List.getElem?_eq_getElem hcl]
    simpa using this
end Go.Proofs.Ytdbpgblhnhdhoaa
