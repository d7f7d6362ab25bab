/-
  Walks: IsInside of the program.
-/
import Derived.Test.YtdbpgblhnhdhoaaW17
set_option linter.unusedVariables false
set_option linter.unusedSimpArgs false
namespace Go.Proofs.Ytdbpgblhnhdhoaa
open Go.RowKit Go.Fl

theorem addKids_some (i : Nat) : ∀ (cs : List Int) (ps r : List Nat), addKids i cs ps = some r → ∀ c ∈ cs, 0 ≤ c ∧ c < (i : Int)
  | [], _, _, _, c, hc => by cases hc
  | c :: cs, ps, r, h, x, hx => by
    rw [addKids] at h
    by_cases hc : 0 ≤ c ∧ c < (i : Int)
    · rw [if_pos hc] at h
      rcases List.mem_cons.1 hx with e | e
      · rw [e]; exact hc
      · exact addKids_some i cs _ r h x e
    · rw [if_neg hc] at h; cases h

theorem runNodes_some : ∀ (l : List PN) (i : Nat) (ps r : List Nat), runNodes l i ps = some r → ∀ j (h : j < l.length), nodeOk l[j] = true ∧ ∀ c ∈ kidsOf l[j], 0 ≤ c ∧ c < ((i + j : Nat) : Int)
  | [], _, _, _, _, j, h => by simp at h
  | n :: rest, i, ps, r, h, j, hj => by
    rw [runNodes] at h
    by_cases hn : nodeOk n = true
    · rw [if_pos hn] at h
      cases ha : addKids i (kidsOf n) ps with
      | none => rw [ha] at h; cases h
      | some ps' =>
        rw [ha] at h
        cases j with
        | zero => exact ⟨hn, fun c hc => addKids_some i _ _ _ ha c hc⟩
        | succ j =>
          have := runNodes_some rest (i + 1) ps' r h j (by simpa using hj)
          refine ⟨this.1, fun c hc => ?_⟩
          have := this.2 c hc
          omega
    · rw [if_neg hn] at h; cases h

theorem node_ok {n : PN} (h : nodeOk n = true) : n.ok := by
  simp only [nodeOk, numOk, axOk, kindOk, Bool.and_eq_true, Bool.or_eq_true, decide_eq_true_eq] at h
  obtain ⟨⟨⟨⟨hk, hl⟩, _⟩, _⟩, _, ha⟩ := h
  refine ⟨hk, hl, ?_⟩
  rcases ha with (h | h) | h
  · exact Or.inl h
  · exact Or.inr (Or.inl h)
  · exact Or.inr (Or.inr h)

theorem valid_ok {ns : List PN} (h : validF ns = true) : (1 ≤ ns.length ∧ ns.length ≤ 16) ∧ OkAll ns := by
  simp only [validF, Bool.and_eq_true, decide_eq_true_eq] at h
  obtain ⟨hl, hr⟩ := h
  refine ⟨hl, ?_⟩
  cases hc : runNodes ns 0 (List.replicate ns.length 0) with
  | none => rw [hc] at hr; cases hr
  | some r =>
    intro i hi
    obtain ⟨h1, h2⟩ := runNodes_some ns 0 _ r hc i hi
    have hk := kids_cases ns[i].kind
    refine ⟨node_ok h1, fun hne => ?_, fun h2k => ?_⟩
    · have := h2 ns[i].a (by
        unfold kidsOf
        rcases hk with h | h | h
        · exact absurd h hne
        · rw [h]; simp
        · rw [h]; simp)
      omega
    · have := h2 ns[i].b (by unfold kidsOf; rw [h2k]; simp)
      omega

set_option maxRecDepth 100000 in
set_option maxHeartbeats 4000000 in
theorem inside_any (ns : List PN) (hnum : ∀ n ∈ ns, n.nums.length < 10000000) (nb no cap x y z : Nat) (bp : Option Addr) (w : World) (hbp : ns ≠ [] → bp = some ⟨nb, no, none⟩) (hsh : ∀ i (h : i < ns.length), NodeIn ns[i] nb (no + i * 4) w) (hlen : ns.length < 10000000) :
    Calls Try.prog 9 #[.agg #[.slice bp ns.length cap], V3 x y z] w (fun e w' => e = .returned (.bool (validF ns && ltk .f32 (topF ns (cn .f32 x, cn .f32 y, cn .f32 z)) 0)) ∧ Below w.heap.size w w') := by
  go_enter Try.func9, Try.ntmps9
  go_wp2_with fail
  have W1b : Below w.heap.size w ((w.alloc (.cells #[.slice bp ns.length cap] 32)).alloc (.cells #[.float .f32 x, .float .f32 y, .float .f32 z] 34)) := (by repeat' (first | exact Below.refl _ _ | exact Nat.le_refl _ | refine below_drewN ?_ _ | refine Below.alloc ?_ (by first | (simp; done) | (simp; omega)) _ | refine Below.setCell ?_ (by first | (simp; done) | (simp; omega)) _ | refine below_step ?_ (by assumption)))

  have hkept : Kept [(⟨w.heap.size, 0, none⟩, .slice bp ns.length cap), (⟨w.heap.size + 1, 0, none⟩, .float .f32 x), (⟨w.heap.size + 1, 1, none⟩, .float .f32 y), (⟨w.heap.size + 1, 2, none⟩, .float .f32 z)] [] ((w.alloc (.cells #[.slice bp ns.length cap] 32)).alloc (.cells #[.float .f32 x, .float .f32 y, .float .f32 z] 34)) := by
    simp only [Kept, List.forall_mem_append, List.forall_mem_cons, List.not_mem_nil, false_implies, implies_true, and_true, true_and]
    simp
  generalize (w.alloc (.cells #[.slice bp ns.length cap] 32)).alloc (.cells #[.float .f32 x, .float .f32 y, .float .f32 z] 34) = W1 at *
  have hv := valid_any ns hnum nb no cap bp W1 hbp (fun i h => (hsh i h).keep W1b) hlen
  refine hv.mono ?_
  rintro _ w2 ⟨rfl, hb2⟩
  have W2b := below_step W1b hb2
  have hkept2 := keep hkept hb2
  have hK := hkept2
  simp only [Kept, List.forall_mem_append, List.forall_mem_cons, List.not_mem_nil, false_implies, implies_true, and_true, true_and] at hK
  clear hv hkept hb2 W1b
  cases hval : validF ns
  · go_wp2_with fail
    go_ret
    exact ⟨by rw [hval]; rfl, W2b⟩
  · obtain ⟨hl, hok⟩ := valid_ok hval
    have hne : ns ≠ [] := by intro h; rw [h] at hl; simp at hl
    have hb := hbp hne
    subst hb
    have hat := at_any ns hok ⟨hl.1, by omega⟩ w.heap.size 0 nb no cap x y z w2 ⟨hK.1, fun i h => (hsh i h).keep W2b⟩
    clear hsh hbp
    go_wp2_with fail
    refine hat.mono ?_
    rintro _ w5 ⟨r, rfl, hr, hb5⟩
    go_wp2_with fail
    go_ret
    exact ⟨by rw [← hr, ltk, ord_r0, hval]; rfl, below_step W2b hb5⟩
end Go.Proofs.Ytdbpgblhnhdhoaa
