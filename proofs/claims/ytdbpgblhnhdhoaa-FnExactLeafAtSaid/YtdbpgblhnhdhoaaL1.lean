/-
  Walks of the statement's own functions: how much an argument holds.
-/
import Derived.Test.YtdbpgblhnhdhoaaS16
set_option linter.unusedVariables false
set_option linter.unusedSimpArgs false
namespace Go.Proofs.Ytdbpgblhnhdhoaa
open Go.RowKit Go.Fl

def takeL (n : Nat) (l : Int) : Int := if l - n < 0 then -1 else l - n
def szL : List PN → Int → Int
  | [], l => l
  | n :: r, l => if takeL n.nums.length l < 0 then -1 else szL r (takeL n.nums.length l)
def szS (ns : List PN) (l : Int) : Int := if takeL ns.length l < 0 then -1 else szL ns (takeL ns.length l)

set_option maxHeartbeats 400000 in
theorem sz_float (bp : Option Addr) (n cap : Nat) (l : Int) (w : World) (hn : n ≤ maxLen) (hl : 0 ≤ l ∧ l ≤ 1048576) :
    Calls Try.prog 49 #[.slice bp n cap, .int .i64 l] w (fun e w' => e = .returned (.int .i64 (takeL n l)) ∧ Below w.heap.size w w') := by
  unfold maxLen at hn
  obtain ⟨hl0, hl1⟩ := hl
  have hnI : (n : Int) ≤ 9223372036854775807 := by omega
  by_cases h : l - n < 0
  · have hv : takeL n l = -1 := by unfold takeL; rw [if_pos h]
    rw [hv]
    go_enter Try.func49, Try.ntmps49
    go_wp2_with fail
    go_ret
    exact ⟨rfl, Below.refl _ _⟩
  · have hv : takeL n l = l - n := by unfold takeL; rw [if_neg h]
    have hv2 : 0 ≤ l - (n : Int) := by omega
    rw [hv]
    go_enter Try.func49, Try.ntmps49
    go_wp2_with fail
    go_ret
    exact ⟨rfl, Below.refl _ _⟩

theorem takeL_le {n : Nat} {l : Int} (hl : 0 ≤ l ∧ l ≤ 1048576) (h : ¬ takeL n l < 0) : 0 ≤ takeL n l ∧ takeL n l ≤ 1048576 ∧ (n : Int) ≤ 1048576 := by
  unfold takeL at *
  split at h
  · omega
  · rename_i h'; rw [if_neg h']; omega

set_option maxHeartbeats 400000 in
theorem sz_node (k a b : Int) (bp : Option Addr) (n cap : Nat) (l : Int) (w : World) (hn : n ≤ maxLen) (hl : 0 ≤ l ∧ l ≤ 1048576) :
    Calls Try.prog 26 #[.agg #[.int .i64 k, .int .i64 a, .int .i64 b, .slice bp n cap], .int .i64 l] w (fun e w' => e = .returned (.int .i64 (takeL n l)) ∧ Below w.heap.size w w') := by
  have hc := fun w => sz_float bp n cap l w hn hl
  by_cases h : takeL n l < 0
  · have hm : takeL n l = -1 := by
      unfold takeL at h ⊢
      split
      · rfl
      · rename_i h'; rw [if_neg h'] at h; omega
    rw [hm] at hc ⊢
    clear hm h
    go_enter Try.func26, Try.ntmps26
    go_wp2_with (go_at_call 49; refine (hc _).mono ?_; rintro _ w2 ⟨rfl, hb2⟩)
    go_ret
    exact ⟨rfl, (by repeat' (first | exact Below.refl _ _ | exact Nat.le_refl _ | refine below_drewN ?_ _ | refine Below.alloc ?_ (by first | (simp; done) | (simp; omega)) _ | refine Below.setCell ?_ (by first | (simp; done) | (simp; omega)) _ | refine below_step ?_ (by assumption)))⟩
  · have h2 := (takeL_le hl h).1
    generalize takeL n l = t at *
    go_enter Try.func26, Try.ntmps26
    go_wp2_with (go_at_call 49; refine (hc _).mono ?_; rintro _ w2 ⟨rfl, hb2⟩)
    go_ret
    exact ⟨rfl, (by repeat' (first | exact Below.refl _ _ | exact Nat.le_refl _ | refine below_drewN ?_ _ | refine Below.alloc ?_ (by first | (simp; done) | (simp; omega)) _ | refine Below.setCell ?_ (by first | (simp; done) | (simp; omega)) _ | refine below_step ?_ (by assumption)))⟩

/-- A list of nodes lies from a place on; the lists of numbers are not too long. -/
structure NodesIn (ns : List PN) (bp : Option Addr) (nb no : Nat) (w : World) : Prop where
  ptr : ns ≠ [] → bp = some ⟨nb, no, none⟩
  node : ∀ i (h : i < ns.length), NodeIn ns[i] nb (no + i * 4) w
  long : ns.length ≤ maxLen ∧ ∀ n ∈ ns, n.nums.length ≤ maxLen

theorem NodesIn.keep {ns : List PN} {bp : Option Addr} {nb no : Nat} {w w' : World} (h : NodesIn ns bp nb no w) (hb : Below w.heap.size w w') : NodesIn ns bp nb no w' :=
  ⟨h.ptr, fun i hi => (h.node i hi).keep hb, h.long⟩

set_option maxRecDepth 100000 in
set_option maxHeartbeats 2000000 in
theorem sz_nodes (ns : List PN) (bp : Option Addr) (nb no cap : Nat) (l : Int) (w : World) (hns : NodesIn ns bp nb no w) (hl : 0 ≤ l ∧ l ≤ 1048576) :
    Calls Try.prog 13 #[.slice bp ns.length cap, .int .i64 l] w (fun e w' => e = .returned (.int .i64 (szS ns l)) ∧ Below w.heap.size w w') := by
  have hlong := hns.long.1
  unfold maxLen at hlong
  have hlongI : (ns.length : Int) ≤ 9223372036854775807 := by omega
  obtain ⟨hl0, hl1⟩ := hl
  by_cases h : l - ns.length < 0
  · have hv : szS ns l = -1 := by unfold szS takeL; rw [if_pos h]; rfl
    rw [hv]
    clear hns
    go_enter Try.func13, Try.ntmps13
    go_wp2_with fail
    go_ret
    exact ⟨rfl, Below.refl _ _⟩
  · have hv2 : 0 ≤ l - (ns.length : Int) := by omega
    have hv : Hid (szS ns l = szL ns (l - ns.length)) := by
      unfold Hid szS takeL; rw [if_neg h, if_neg h]
    have hlenI : (ns.length : Int) ≤ 1048576 := by omega
    have hlim : l - (ns.length : Int) ≤ 1048576 := by omega
    go_enter Try.func13, Try.ntmps13
    go_wp2_with fail
    go_loopw [1, 5] (fun lv i wr => ∃ (m : Nat) (lx : Int), m ≤ ns.length ∧ i = .int .i64 (m : Int) ∧ lv = .int .i64 lx ∧ 0 ≤ lx ∧ lx ≤ 1048576 ∧ szL (ns.drop m) lx = szL ns (l - ns.length) ∧ Below w.heap.size w wr) (fun _ i _ => ns.length - (intOf i).toNat)
    case atStart => exact ⟨0, _, by omega, rfl, rfl, hv2, hlim, rfl, Below.refl _ _⟩
    case round =>
      obtain ⟨m, lx, hm, rfl, rfl, hx0, hx1, hrun, Wb⟩ := hrel
      by_cases hlt : m < ns.length
      · have hlt' : (m : Int) < (ns.length : Int) := by omega
        have h0 : (0 : Int) ≤ (m : Int) := by omega
        have hn := (hns.node m hlt).keep Wb
        have hne : ns ≠ [] := by intro h; rw [h] at hlt; simp at hlt
        have hbp := hns.ptr hne
        subst hbp
        have hdrop : ns.drop m = ns[m] :: ns.drop (m + 1) := List.drop_eq_getElem_cons hlt
        rw [hdrop, szL] at hrun
        have hnl := hns.long.2 ns[m] (List.getElem_mem _)
        generalize ns[m] = n at *
        obtain ⟨np, nv, nvo, ncap, hn4, -, -⟩ := hn.nums
        have hn1 := hn.kind
        have hn2 := hn.a
        have hn3 := hn.b
        have hc := fun w => sz_node n.kind n.a n.b np n.nums.length ncap lx w hnl ⟨hx0, hx1⟩
        have hrH := Lib.hid hrun
        clear hns hn hdrop hnl hrun
        by_cases ht : takeL n.nums.length lx < 0
        · have hvv : Hid (szS ns l = -1) := by unfold Hid; rw [hv.out, ← hrH.out, if_pos ht]
          go_wp2_with (go_at_call 26; refine (hc _).mono ?_; rintro _ w2 ⟨rfl, hb2⟩)
          go_ret
          exact ⟨by rw [hvv.out]; rfl, below_step Wb hb2⟩
        · have h2 := takeL_le ⟨hx0, hx1⟩ ht
          have hrr : Hid (szL (ns.drop (m + 1)) (takeL n.nums.length lx) = szL ns (l - ns.length)) := by
            unfold Hid; rw [← hrH.out, if_neg ht]
          obtain ⟨h2a, h2b, -⟩ := h2
          generalize takeL n.nums.length lx = t at *
          clear hrH
          go_wp2_with (go_at_call 26; refine (hc _).mono ?_; rintro _ w2 ⟨rfl, hb2⟩)
          exact ⟨⟨m + 1, t, by omega, by simp, rfl, h2a, h2b, hrr.out, below_step Wb hb2⟩, by simp [intOf]; omega⟩
      · obtain rfl : m = ns.length := by omega
        rw [List.drop_length, szL] at hrun
        have hrH := Lib.hid hrun
        clear hrun hns
        go_wp2_with fail
        go_ret
        exact ⟨by rw [hv.out, ← hrH.out]; rfl, Wb⟩

theorem szL_neg {ns : List PN} : ∀ {l : Int}, 0 ≤ l → szL ns l < 0 → szL ns l = -1 := by
  induction ns with
  | nil => intro l h0 h; unfold szL at h; omega
  | cons n r ih =>
    intro l h0 h
    unfold szL at h ⊢
    split
    · rfl
    · rename_i ht
      rw [if_neg ht] at h
      exact ih (by omega) h
theorem szS_neg {ns : List PN} {l : Int} (h : szS ns l < 0) : szS ns l = -1 := by
  unfold szS at *
  split
  · rfl
  · rename_i ht
    rw [if_neg ht] at h
    exact szL_neg (by omega) h

set_option maxHeartbeats 400000 in
theorem sz_shape (ns : List PN) (bp : Option Addr) (nb no cap : Nat) (l : Int) (w : World) (hns : NodesIn ns bp nb no w) (hl : 0 ≤ l ∧ l ≤ 1048576) :
    Calls Try.prog 5 #[.agg #[.slice bp ns.length cap], .int .i64 l] w (fun e w' => e = .returned (.int .i64 (szS ns l)) ∧ Below w.heap.size w w') := by
  have hc := fun w' (h : Below w.heap.size w w') => sz_nodes ns bp nb no cap l w' (hns.keep h) hl
  by_cases h : szS ns l < 0
  · have hm := szS_neg h
    rw [hm] at hc ⊢
    clear hm h hns
    go_enter Try.func5, Try.ntmps5
    go_wp2_with (go_at_call 13; refine (hc _ (by repeat' (first | exact Below.refl _ _ | exact Nat.le_refl _ | refine below_drewN ?_ _ | refine Below.alloc ?_ (by first | (simp; done) | (simp; omega)) _ | refine Below.setCell ?_ (by first | (simp; done) | (simp; omega)) _ | refine below_step ?_ (by assumption)))).mono ?_; rintro _ w2 ⟨rfl, hb2⟩)
    go_ret
    exact ⟨rfl, (by repeat' (first | exact Below.refl _ _ | exact Nat.le_refl _ | refine below_drewN ?_ _ | refine Below.alloc ?_ (by first | (simp; done) | (simp; omega)) _ | refine Below.setCell ?_ (by first | (simp; done) | (simp; omega)) _ | refine below_step ?_ (by assumption)))⟩
  · have h2 : 0 ≤ szS ns l := by omega
    clear hns
    generalize szS ns l = t at *
    go_enter Try.func5, Try.ntmps5
    go_wp2_with (go_at_call 13; refine (hc _ (by repeat' (first | exact Below.refl _ _ | exact Nat.le_refl _ | refine below_drewN ?_ _ | refine Below.alloc ?_ (by first | (simp; done) | (simp; omega)) _ | refine Below.setCell ?_ (by first | (simp; done) | (simp; omega)) _ | refine below_step ?_ (by assumption)))).mono ?_; rintro _ w2 ⟨rfl, hb2⟩)
    go_ret
    exact ⟨rfl, (by repeat' (first | exact Below.refl _ _ | exact Nat.le_refl _ | refine below_drewN ?_ _ | refine Below.alloc ?_ (by first | (simp; done) | (simp; omega)) _ | refine Below.setCell ?_ (by first | (simp; done) | (simp; omega)) _ | refine below_step ?_ (by assumption)))⟩

theorem szL_small : ∀ {ns : List PN} {l : Int}, 0 ≤ l → l ≤ 1048576 → 0 ≤ szL ns l → ∀ n ∈ ns, (n.nums.length : Int) ≤ 1048576
  | [], _, _, _, _, n, h => by cases h
  | x :: r, l, h0, h1, hs, n, h => by
    unfold szL at hs
    by_cases ht : takeL x.nums.length l < 0
    · rw [if_pos ht] at hs; omega
    · rw [if_neg ht] at hs
      have := takeL_le ⟨h0, h1⟩ ht
      rcases List.mem_cons.1 h with h | h
      · subst h; exact this.2.2
      · exact szL_small this.1 this.2.1 hs n h
theorem szS_small {ns : List PN} {l : Int} (h0 : 0 ≤ l) (h1 : l ≤ 1048576) (hs : ¬ szS ns l < 0) : (ns.length : Int) ≤ 1048576 ∧ ∀ n ∈ ns, (n.nums.length : Int) ≤ 1048576 := by
  unfold szS at hs
  by_cases ht : takeL ns.length l < 0
  · rw [if_pos ht] at hs; omega
  · rw [if_neg ht] at hs
    have := takeL_le ⟨h0, h1⟩ ht
    exact ⟨this.2.2, szL_small this.1 this.2.1 (by omega)⟩
end Go.Proofs.Ytdbpgblhnhdhoaa
