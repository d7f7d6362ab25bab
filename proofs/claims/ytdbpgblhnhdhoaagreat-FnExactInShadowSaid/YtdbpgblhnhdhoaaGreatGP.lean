/-
  Walks of the statement's own functions: how much an argument holds.
  Walks of the statement's own functions: arguments made anew.
  Walks of the statement's own functions: nodes made anew.
-/
import Derived.Test.YtdbpgblhnhdhoaaGreatGH
import Derived.Test.YtdbpgblhnhdhoaaGreatGN
import Derived.Laws.MakeOwn
set_option linter.unusedVariables false
set_option linter.unusedSimpArgs false
namespace Go.Proofs.YtdbpgblhnhdhoaaGreat
open Go.RowKit Go.Fl

def takeL (n : Nat) (l : Int) : Int := if l - n < 0 then -1 else l - n
def szL : List PN → Int → Int
  | [], l => l
  | n :: r, l => if takeL n.nums.length l < 0 then -1 else szL r (takeL n.nums.length l)
def szS (ns : List PN) (l : Int) : Int := if takeL ns.length l < 0 then -1 else szL ns (takeL ns.length l)

set_option maxHeartbeats 400000 in
theorem sz_float (bp : Option Addr) (n cap : Nat) (l : Int) (w : World) (hn : n ≤ maxLen) (hl : 0 ≤ l ∧ l ≤ 1048576) :
    Calls Tryz.prog 150 #[.slice bp n cap, .int .i64 l] w (fun e w' => e = .returned (.int .i64 (takeL n l)) ∧ Below w.heap.size w w') := by
  unfold maxLen at hn
  obtain ⟨hl0, hl1⟩ := hl
  have hnI : (n : Int) ≤ 9223372036854775807 := by omega
  by_cases h : l - n < 0
  · have hv : takeL n l = -1 := by unfold takeL; rw [if_pos h]
    rw [hv]
    go_enter Tryz.func150, Tryz.ntmps150
    go_wp2_with fail
    go_ret
    exact ⟨rfl, Below.refl _ _⟩
  · have hv : takeL n l = l - n := by unfold takeL; rw [if_neg h]
    have hv2 : 0 ≤ l - (n : Int) := by omega
    rw [hv]
    go_enter Tryz.func150, Tryz.ntmps150
    go_wp2_with fail
    go_ret
    exact ⟨rfl, Below.refl _ _⟩

theorem takeL_le {n : Nat} {l : Int} (hl : 0 ≤ l ∧ l ≤ 1048576) (h : ¬ takeL n l < 0) : 0 ≤ takeL n l ∧ takeL n l ≤ 1048576 ∧ (n : Int) ≤ 1048576 := by
  unfold takeL at *
  split at h
  · omega
  · rename_i h'; rw [if_neg h']; omega

set_option maxHeartbeats 400000 in
theorem sz_node (k a b : Int) (bp : Option Addr) (n cap : Nat) (l : Int) (w : World) (hn : n ≤ maxLen) (hl : 0 ≤ l ∧ l ≤ 1048576) :
    Calls Tryz.prog 105 #[.agg #[.int .i64 k, .int .i64 a, .int .i64 b, .slice bp n cap], .int .i64 l] w (fun e w' => e = .returned (.int .i64 (takeL n l)) ∧ Below w.heap.size w w') := by
  have hc := fun w => sz_float bp n cap l w hn hl
  by_cases h : takeL n l < 0
  · have hm : takeL n l = -1 := by
      unfold takeL at h ⊢
      split
      · rfl
      · rename_i h'; rw [if_neg h'] at h; omega
    rw [hm] at hc ⊢
    clear hm h
    go_enter Tryz.func105, Tryz.ntmps105
    go_wp2_with (go_at_call 150; refine (hc _).mono ?_; rintro _ w2 ⟨rfl, hb2⟩)
    go_ret
    exact ⟨rfl, (by repeat' (first | exact Below.refl _ _ | exact Nat.le_refl _ | refine below_drewN ?_ _ | refine Below.alloc ?_ (by first | (simp; done) | (simp; omega)) _ | refine Below.setCell ?_ (by first | (simp; done) | (simp; omega)) _ | refine below_step ?_ (by assumption)))⟩
  · have h2 := (takeL_le hl h).1
    generalize takeL n l = t at *
    go_enter Tryz.func105, Tryz.ntmps105
    go_wp2_with (go_at_call 150; refine (hc _).mono ?_; rintro _ w2 ⟨rfl, hb2⟩)
    go_ret
    exact ⟨rfl, (by repeat' (first | exact Below.refl _ _ | exact Nat.le_refl _ | refine below_drewN ?_ _ | refine Below.alloc ?_ (by first | (simp; done) | (simp; omega)) _ | refine Below.setCell ?_ (by first | (simp; done) | (simp; omega)) _ | refine below_step ?_ (by assumption)))⟩

/-- A list of nodes lies from a place on; the lists of numbers are not too long. -/
structure NodesIn (ns : List PN) (bp : Option Addr) (nb no : Nat) (w : World) : Prop where
  ptr : ns ≠ [] → bp = some ⟨nb, no, none⟩
  node : ∀ i (h : i < ns.length), NodeIn ns[i] nb (no + i * 4) w
  long : ns.length ≤ maxLen ∧ ∀ n ∈ ns, n.nums.length ≤ maxLen

theorem NodesIn.keep {ns : List PN} {bp : Option Addr} {nb no : Nat} {w w' : World} (h : NodesIn ns bp nb no w) (hb : Below w.heap.size w w') : NodesIn ns bp nb no w' :=
  ⟨h.ptr, fun i hi => (h.node i hi).keep hb, h.long⟩

set_option maxRecDepth 100000 in
set_option maxHeartbeats 2000000 in
theorem sz_nodes (ns : List PN) (bp : Option Addr) (nb no cap : Nat) (l : Int) (w : World) (hns : NodesIn ns bp nb no w) (hl : 0 ≤ l ∧ l ≤ 1048576) :
    Calls Tryz.prog 59 #[.slice bp ns.length cap, .int .i64 l] w (fun e w' => e = .returned (.int .i64 (szS ns l)) ∧ Below w.heap.size w w') := by
  have hlong := hns.long.1
  unfold maxLen at hlong
  have hlongI : (ns.length : Int) ≤ 9223372036854775807 := by omega
  obtain ⟨hl0, hl1⟩ := hl
  by_cases h : l - ns.length < 0
  · have hv : szS ns l = -1 := by unfold szS takeL; rw [if_pos h]; rfl
    rw [hv]
    clear hns
    go_enter Tryz.func59, Tryz.ntmps59
    go_wp2_with fail
    go_ret
    exact ⟨rfl, Below.refl _ _⟩
  · have hv2 : 0 ≤ l - (ns.length : Int) := by omega
    have hv : Hid (szS ns l = szL ns (l - ns.length)) := by
      unfold Hid szS takeL; rw [if_neg h, if_neg h]
    have hlenI : (ns.length : Int) ≤ 1048576 := by omega
    have hlim : l - (ns.length : Int) ≤ 1048576 := by omega
    go_enter Tryz.func59, Tryz.ntmps59
    go_wp2_with fail
    go_loopw [1, 5] (fun lv i wr => ∃ (m : Nat) (lx : Int), m ≤ ns.length ∧ i = .int .i64 (m : Int) ∧ lv = .int .i64 lx ∧ 0 ≤ lx ∧ lx ≤ 1048576 ∧ szL (ns.drop m) lx = szL ns (l - ns.length) ∧ Below w.heap.size w wr) (fun _ i _ => ns.length - (intOf i).toNat)
    case atStart => exact ⟨0, _, by omega, rfl, rfl, hv2, hlim, rfl, Below.refl _ _⟩
    case round =>
      obtain ⟨m, lx, hm, rfl, rfl, hx0, hx1, hrun, Wb⟩ := hrel
      by_cases hlt : m < ns.length
      · have hlt' : (m : Int) < (ns.length : Int) := by omega
        have h0 : (0 : Int) ≤ (m : Int) := by omega
        have hn := (hns.node m hlt).keep Wb
        have hne : ns ≠ [] := by intro h; rw [h] at hlt; simp at hlt
        have hbp := hns.ptr hne
        subst hbp
        have hdrop : ns.drop m = ns[m] :: ns.drop (m + 1) := List.drop_eq_getElem_cons hlt
        rw [hdrop, szL] at hrun
        have hnl := hns.long.2 ns[m] (List.getElem_mem _)
        generalize ns[m] = n at *
        obtain ⟨np, nv, nvo, ncap, hn4, -, -⟩ := hn.nums
        have hn1 := hn.kind
        have hn2 := hn.a
        have hn3 := hn.b
        have hc := fun w => sz_node n.kind n.a n.b np n.nums.length ncap lx w hnl ⟨hx0, hx1⟩
        have hrH := Lib.hid hrun
        clear hns hn hdrop hnl hrun
        by_cases ht : takeL n.nums.length lx < 0
        · have hvv : Hid (szS ns l = -1) := by unfold Hid; rw [hv.out, ← hrH.out, if_pos ht]
          go_wp2_with (go_at_call 105; refine (hc _).mono ?_; rintro _ w2 ⟨rfl, hb2⟩)
          go_ret
          exact ⟨by rw [hvv.out]; rfl, below_step Wb hb2⟩
        · have h2 := takeL_le ⟨hx0, hx1⟩ ht
          have hrr : Hid (szL (ns.drop (m + 1)) (takeL n.nums.length lx) = szL ns (l - ns.length)) := by
            unfold Hid; rw [← hrH.out, if_neg ht]
          obtain ⟨h2a, h2b, -⟩ := h2
          generalize takeL n.nums.length lx = t at *
          clear hrH
          go_wp2_with (go_at_call 105; refine (hc _).mono ?_; rintro _ w2 ⟨rfl, hb2⟩)
          exact ⟨⟨m + 1, t, by omega, by simp, rfl, h2a, h2b, hrr.out, below_step Wb hb2⟩, by simp [intOf]; omega⟩
      · obtain rfl : m = ns.length := by omega
        rw [List.drop_length, szL] at hrun
        have hrH := Lib.hid hrun
        clear hrun hns
        go_wp2_with fail
        go_ret
        exact ⟨by rw [hv.out, ← hrH.out]; rfl, Wb⟩

theorem szL_neg {ns : List PN} : ∀ {l : Int}, 0 ≤ l → szL ns l < 0 → szL ns l = -1 := by
  induction ns with
  | nil => intro l h0 h; unfold szL at h; omega
  | cons n r ih =>
    intro l h0 h
    unfold szL at h ⊢
    split
    · rfl
    · rename_i ht
      rw [if_neg ht] at h
      exact ih (by omega) h
theorem szS_neg {ns : List PN} {l : Int} (h : szS ns l < 0) : szS ns l = -1 := by
  unfold szS at *
  split
  · rfl
  · rename_i ht
    rw [if_neg ht] at h
    exact szL_neg (by omega) h

set_option maxHeartbeats 400000 in
theorem sz_shape (ns : List PN) (bp : Option Addr) (nb no cap : Nat) (l : Int) (w : World) (hns : NodesIn ns bp nb no w) (hl : 0 ≤ l ∧ l ≤ 1048576) :
    Calls Tryz.prog 13 #[.agg #[.slice bp ns.length cap], .int .i64 l] w (fun e w' => e = .returned (.int .i64 (szS ns l)) ∧ Below w.heap.size w w') := by
  have hc := fun w' (h : Below w.heap.size w w') => sz_nodes ns bp nb no cap l w' (hns.keep h) hl
  by_cases h : szS ns l < 0
  · have hm := szS_neg h
    rw [hm] at hc ⊢
    clear hm h hns
    go_enter Tryz.func13, Tryz.ntmps13
    go_wp2_with (go_at_call 59; refine (hc _ (by repeat' (first | exact Below.refl _ _ | exact Nat.le_refl _ | refine below_drewN ?_ _ | refine Below.alloc ?_ (by first | (simp; done) | (simp; omega)) _ | refine Below.setCell ?_ (by first | (simp; done) | (simp; omega)) _ | refine below_step ?_ (by assumption)))).mono ?_; rintro _ w2 ⟨rfl, hb2⟩)
    go_ret
    exact ⟨rfl, (by repeat' (first | exact Below.refl _ _ | exact Nat.le_refl _ | refine below_drewN ?_ _ | refine Below.alloc ?_ (by first | (simp; done) | (simp; omega)) _ | refine Below.setCell ?_ (by first | (simp; done) | (simp; omega)) _ | refine below_step ?_ (by assumption)))⟩
  · have h2 : 0 ≤ szS ns l := by omega
    clear hns
    generalize szS ns l = t at *
    go_enter Tryz.func13, Tryz.ntmps13
    go_wp2_with (go_at_call 59; refine (hc _ (by repeat' (first | exact Below.refl _ _ | exact Nat.le_refl _ | refine below_drewN ?_ _ | refine Below.alloc ?_ (by first | (simp; done) | (simp; omega)) _ | refine Below.setCell ?_ (by first | (simp; done) | (simp; omega)) _ | refine below_step ?_ (by assumption)))).mono ?_; rintro _ w2 ⟨rfl, hb2⟩)
    go_ret
    exact ⟨rfl, (by repeat' (first | exact Below.refl _ _ | exact Nat.le_refl _ | refine below_drewN ?_ _ | refine Below.alloc ?_ (by first | (simp; done) | (simp; omega)) _ | refine Below.setCell ?_ (by first | (simp; done) | (simp; omega)) _ | refine below_step ?_ (by assumption)))⟩

theorem szL_small : ∀ {ns : List PN} {l : Int}, 0 ≤ l → l ≤ 1048576 → 0 ≤ szL ns l → ∀ n ∈ ns, (n.nums.length : Int) ≤ 1048576
  | [], _, _, _, _, n, h => by cases h
  | x :: r, l, h0, h1, hs, n, h => by
    unfold szL at hs
    by_cases ht : takeL x.nums.length l < 0
    · rw [if_pos ht] at hs; omega
    · rw [if_neg ht] at hs
      have := takeL_le ⟨h0, h1⟩ ht
      rcases List.mem_cons.1 h with h | h
      · subst h; exact this.2.2
      · exact szL_small this.1 this.2.1 hs n h
theorem szS_small {ns : List PN} {l : Int} (h0 : 0 ≤ l) (h1 : l ≤ 1048576) (hs : ¬ szS ns l < 0) : (ns.length : Int) ≤ 1048576 ∧ ∀ n ∈ ns, (n.nums.length : Int) ≤ 1048576 := by
  unfold szS at hs
  by_cases ht : takeL ns.length l < 0
  · rw [if_pos ht] at hs; omega
  · rw [if_neg ht] at hs
    have := takeL_le ⟨h0, h1⟩ ht
    exact ⟨this.2.2, szL_small this.1 this.2.1 (by omega)⟩
end Go.Proofs.YtdbpgblhnhdhoaaGreat

namespace Go.Proofs.YtdbpgblhnhdhoaaGreat
open Go.RowKit Go.Fl

theorem arr_set {w : World} {g : Nat} {A : Array Value} {T : TypeId} (h : w.heap[g]? = some (.cells A T (0, 0))) (k : Nat) (v : Value) : (w.setCell ⟨g, k, none⟩ v).heap[g]? = some (.cells (A.setIfInBounds k v) T (0, 0)) := by
  simp only [World.setCell, Array.getElem?_modify, if_true, h, Option.map_some]
  rfl
theorem arr_cell {w : World} {g : Nat} {A : Array Value} {T : TypeId} (h : w.heap[g]? = some (.cells A T (0, 0))) (k : Nat) : w.cell? ⟨g, k, none⟩ = A[k]? := by
  simp [World.cell?, h]
theorem arr_frozen {w : World} {g : Nat} {A : Array Value} {T : TypeId} (h : w.heap[g]? = some (.cells A T (0, 0))) (k : Nat) : w.frozen? ⟨g, k, none⟩ = false := by
  simp [World.frozen?, h]

theorem make_floats (n : Nat) (hn : (n : Int) ≤ 1048576) (w : World) : ∃ A : Array Value, A.size = n ∧ (Instr.makeSlice 151 (.int .i64 (n : Int)) (.int .i64 (n : Int))).run Tryz.prog w = .ok (.slice (some ⟨w.heap.size, 0, none⟩) n n) (w.alloc (.cells A 25)) := by
  obtain ⟨i0, hi, hz0, hz1, hz2⟩ := info_parts float_info
  have h := run_make (P := Tryz.prog) w 151 25 i0 (.float .f32 0) Tryz.underlying151 hi hz0 .i64 .i64 n n (by omega) (by omega) (by rw [hz2]; omega) (by omega)
  rw [hz1] at h
  refine ⟨_, ?_, h⟩
  simp [madeCells]

set_option maxRecDepth 100000 in
set_option maxHeartbeats 2000000 in
theorem to_floats (xs : List Nat) (hlen : (xs.length : Int) ≤ 1048576) (bp : Option Addr) (bv ov cap : Nat) (w : World) (h1 : xs ≠ [] → bp = some ⟨bv, ov, none⟩) (h2 : ∀ i (h : i < xs.length), w.cell? ⟨bv, ov + i, none⟩ = some (.float .f32 xs[i])) :
    Calls Tryz.prog 153 #[.slice bp xs.length cap] w (fun e w' => ∃ g, e = .returned (.slice (some ⟨g, 0, none⟩) xs.length xs.length) ∧ (∀ i (h : i < xs.length), w'.cell? ⟨g, 0 + i, none⟩ = some (.float .f32 xs[i])) ∧ w.heap.size ≤ g ∧ Below w.heap.size w w') := by
  obtain ⟨A, hA, hmk⟩ := make_floats xs.length hlen w
  go_enter Tryz.func153, Tryz.ntmps153
  go_wp2_with fail
  have W1b : Below w.heap.size w (w.alloc (.cells A 25)) := (by repeat' (first | exact Below.refl _ _ | exact Nat.le_refl _ | refine below_drewN ?_ _ | refine Below.alloc ?_ (by first | (simp; done) | (simp; omega)) _ | refine Below.setCell ?_ (by first | (simp; done) | (simp; omega)) _ | refine below_step ?_ (by assumption)))

  have hpar := heap_alloc_at w (.cells A 25)
  generalize w.alloc (.cells A 25) = W1 at *
  clear hmk
  go_loopw [4] (fun i wr => ∃ (m : Nat) (A : Array Value), m ≤ xs.length ∧ i = .int .i64 (m : Int) ∧ A.size = xs.length ∧ wr.heap[w.heap.size]? = some (.cells A 25 (0, 0)) ∧ (∀ k (h : k < xs.length), k < m → A[k]? = some (.float .f32 xs[k])) ∧ Below w.heap.size w wr) (fun i _ => xs.length - (intOf i).toNat)
  case atStart => exact ⟨0, A, by omega, rfl, hA, hpar, fun k _ h => by omega, W1b⟩
  case round =>
    obtain ⟨m, A', hm, rfl, hA', hpar', hk, Wb⟩ := hrel
    clear hpar W1b
    by_cases hlt : m < xs.length
    · have hlt' : (m : Int) < (xs.length : Int) := by omega
      have h0 : (0 : Int) ≤ (m : Int) := by omega
      have hne : xs ≠ [] := by intro h; rw [h] at hlt; simp at hlt
      have hbp := h1 hne
      subst hbp
      have hc : wr.cell? ⟨bv, ov + m, none⟩ = some (.float .f32 xs[m]) := by rw [lift Wb _ (by rw [h2 m hlt]; rfl)]; exact h2 m hlt
      have hold : wr.cell? ⟨w.heap.size, m, none⟩ = some (A'[m]'(by omega)) := by rw [arr_cell hpar', Array.getElem?_eq_getElem (by omega)]
      have hfz := arr_frozen hpar'
      have hset := arr_set hpar' m (.float .f32 xs[m])
      have hb3 := Wb.setCell (p := ⟨w.heap.size, m, none⟩) (Nat.le_refl _) (Value.float .f32 xs[m])
      have hnew : Hid (∀ k (h : k < xs.length), k < m + 1 → (A'.setIfInBounds m (.float .f32 xs[m]))[k]? = some (.float .f32 xs[k])) := fun k h hkm => by
        by_cases hkm' : k = m
        · subst hkm'
          rw [Array.getElem?_setIfInBounds_self_of_lt (by omega)]
        · rw [Array.getElem?_setIfInBounds_ne (by omega)]
          exact hk k h (by omega)
      have hH := Lib.hid hset
      clear hk hset hpar' h2 h1
      generalize xs[m] = xv at hc hb3 hH hnew
      go_wp2_with fail
      exact ⟨⟨m + 1, _, by omega, by simp, by simpa using hA', hH.out, hnew.out, hb3⟩, by simp [intOf]; omega⟩
    · obtain rfl : m = xs.length := by omega
      have hH := Lib.hid hk
      have hP := Lib.hid hpar'
      clear hk hpar' h1 h2
      go_wp2_with fail
      go_ret
      exact ⟨w.heap.size, rfl, fun i hi => by rw [Nat.zero_add, arr_cell hP.out]; exact hH.out i hi hi, Nat.le_refl _, Wb⟩
end Go.Proofs.YtdbpgblhnhdhoaaGreat

namespace Go.Proofs.YtdbpgblhnhdhoaaGreat
open Go.RowKit Go.Fl

/-- A node made anew comes back. -/
def RetN (n : PN) (w : World) (e : Ending) (w' : World) : Prop :=
  ∃ g, e = .returned (.agg #[.int .i64 n.kind, .int .i64 n.a, .int .i64 n.b, .slice (some ⟨g, 0, none⟩) n.nums.length n.nums.length]) ∧ (∀ i (h : i < n.nums.length), w'.cell? ⟨g, 0 + i, none⟩ = some (.float .f32 n.nums[i])) ∧ w.heap.size ≤ g ∧ Below w.heap.size w w'

set_option maxRecDepth 100000 in
set_option maxHeartbeats 2000000 in
theorem to_node (n : PN) (hlen : (n.nums.length : Int) ≤ 1048576) (bp : Option Addr) (bv ov cap : Nat) (w : World) (h1 : n.nums ≠ [] → bp = some ⟨bv, ov, none⟩) (h2 : ∀ i (h : i < n.nums.length), w.cell? ⟨bv, ov + i, none⟩ = some (.float .f32 n.nums[i])) :
    Calls Tryz.prog 112 #[.agg #[.int .i64 n.kind, .int .i64 n.a, .int .i64 n.b, .slice bp n.nums.length cap]] w (RetN n w) := by
  have hc : ∀ w', Below w.heap.size w w' → Calls Tryz.prog 153 #[.slice bp n.nums.length cap] w' (fun e w'' => ∃ g, e = .returned (.slice (some ⟨g, 0, none⟩) n.nums.length n.nums.length) ∧ (∀ i (h : i < n.nums.length), w''.cell? ⟨g, 0 + i, none⟩ = some (.float .f32 n.nums[i])) ∧ w'.heap.size ≤ g ∧ Below w'.heap.size w' w'') :=
    fun w' hb => to_floats n.nums hlen bp bv ov cap w' h1 (fun i h => by rw [lift hb _ (by rw [h2 i h]; rfl)]; exact h2 i h)
  clear h1 h2
  go_enter Tryz.func112, Tryz.ntmps112
  go_wp2_with fail
  have Wb : Below w.heap.size w (((w.alloc (.cells #[.int .i64 n.kind, .int .i64 n.a, .int .i64 n.b, .slice bp n.nums.length cap] 153)).alloc (.cells #[.int .i64 0, .int .i64 0, .int .i64 0, .slice none 0 0] 155)).alloc (.cells #[.int .i64 n.kind, .int .i64 n.a, .int .i64 n.b, .slice none 0 0] 155)) := (by repeat' (first | exact Below.refl _ _ | exact Nat.le_refl _ | refine below_drewN ?_ _ | refine Below.alloc ?_ (by first | (simp; done) | (simp; omega)) _ | refine Below.setCell ?_ (by first | (simp; done) | (simp; omega)) _ | refine below_step ?_ (by assumption)))

  have hkept : Kept [(⟨w.heap.size + 1, 0, none⟩, .int .i64 0), (⟨w.heap.size + 1, 1, none⟩, .int .i64 0), (⟨w.heap.size + 1, 2, none⟩, .int .i64 0), (⟨w.heap.size + 1, 3, none⟩, .slice none 0 0), (⟨w.heap.size + 1 + 1, 0, none⟩, .int .i64 n.kind), (⟨w.heap.size + 1 + 1, 1, none⟩, .int .i64 n.a), (⟨w.heap.size + 1 + 1, 2, none⟩, .int .i64 n.b), (⟨w.heap.size + 1 + 1, 3, none⟩, .slice none 0 0)] [⟨w.heap.size + 1, 0, none⟩, ⟨w.heap.size + 1, 1, none⟩, ⟨w.heap.size + 1, 2, none⟩, ⟨w.heap.size + 1, 3, none⟩, ⟨w.heap.size + 1 + 1, 3, none⟩] (((w.alloc (.cells #[.int .i64 n.kind, .int .i64 n.a, .int .i64 n.b, .slice bp n.nums.length cap] 153)).alloc (.cells #[.int .i64 0, .int .i64 0, .int .i64 0, .slice none 0 0] 155)).alloc (.cells #[.int .i64 n.kind, .int .i64 n.a, .int .i64 n.b, .slice none 0 0] 155)) := by
    simp only [Kept, List.forall_mem_append, List.forall_mem_cons, List.not_mem_nil, false_implies, implies_true, and_true, true_and]; (first | (go_simp; done) | (simp [World.cell?, World.frozen?, World.alloc, Array.getElem?_push]; done))
  have hWs : (((w.alloc (.cells #[.int .i64 n.kind, .int .i64 n.a, .int .i64 n.b, .slice bp n.nums.length cap] 153)).alloc (.cells #[.int .i64 0, .int .i64 0, .int .i64 0, .slice none 0 0] 155)).alloc (.cells #[.int .i64 n.kind, .int .i64 n.a, .int .i64 n.b, .slice none 0 0] 155)).heap.size = w.heap.size + 1 + 1 + 1 := by simp
  generalize (((w.alloc (.cells #[.int .i64 n.kind, .int .i64 n.a, .int .i64 n.b, .slice bp n.nums.length cap] 153)).alloc (.cells #[.int .i64 0, .int .i64 0, .int .i64 0, .slice none 0 0] 155)).alloc (.cells #[.int .i64 n.kind, .int .i64 n.a, .int .i64 n.b, .slice none 0 0] 155)) = W at *
  refine (hc _ Wb).mono ?_
  rintro _ w2 ⟨g, rfl, hnum, hg, hb2⟩
  have W2b := below_step Wb hb2
  have hkept2 := keep hkept hb2
  have hK := hkept2
  simp only [Kept, List.forall_mem_append, List.forall_mem_cons, List.not_mem_nil, false_implies, implies_true, and_true, true_and] at hK
  have hgs : w.heap.size + 1 + 1 < g := by omega
  have hH := Lib.hid hnum
  clear hc hkept hb2 Wb hnum hkept2 hg hWs
  obtain ⟨hK1, hK2⟩ := hK
  go_wp2_with fail
  obtain ⟨hK1a, hK1b⟩ := hK1
  refine bodyPost_ret (v := .agg #[.int .i64 n.kind, .int .i64 n.a, .int .i64 n.b, .slice (some ⟨g, 0, none⟩) n.nums.length n.nums.length]) (by simp [results, Tryz.results112, go_sem, hK1a, hK1b, hK2]) rfl ⟨g, rfl, fun i hi => ?_, by omega, ?_⟩
  · rw [World.cell?_setCell_far _ _ _ _ (by show w.heap.size + 1 ≠ g; omega), World.cell?_setCell_far _ _ _ _ (by show w.heap.size + 1 ≠ g; omega), World.cell?_setCell_far _ _ _ _ (by show w.heap.size + 1 ≠ g; omega), World.cell?_setCell_far _ _ _ _ (by show w.heap.size + 1 ≠ g; omega), World.cell?_setCell_far _ _ _ _ (by show w.heap.size + 1 + 1 ≠ g; omega)]
    exact hH.out i hi
  · exact ((((W2b.setCell (by show w.heap.size ≤ w.heap.size + 1 + 1; omega) _).setCell (by exact Nat.le_succ _) _).setCell (by exact Nat.le_succ _) _).setCell (by exact Nat.le_succ _) _).setCell (by exact Nat.le_succ _) _

/-- A node in a new list. -/
structure NodeNew (n : PN) (G o : Nat) (w : World) : Prop where
  kind : w.cell? ⟨G, o, none⟩ = some (.int .i64 n.kind)
  a : w.cell? ⟨G, o + 1, none⟩ = some (.int .i64 n.a)
  b : w.cell? ⟨G, o + 2, none⟩ = some (.int .i64 n.b)
  nums : ∃ g, G < g ∧ w.cell? ⟨G, o + 3, none⟩ = some (.slice (some ⟨g, 0, none⟩) n.nums.length n.nums.length) ∧ ∀ i (h : i < n.nums.length), w.cell? ⟨g, 0 + i, none⟩ = some (.float .f32 n.nums[i])

theorem NodeNew.into {n : PN} {G o : Nat} {w : World} (h : NodeNew n G o w) : NodeIn n G o w := by
  obtain ⟨g, -, h1, h2⟩ := h.nums
  exact ⟨h.kind, h.a, h.b, some ⟨g, 0, none⟩, g, 0, _, h1, fun _ => rfl, h2⟩

theorem NodeNew.keep {n : PN} {G o : Nat} {w w' : World} (h : NodeNew n G o w) (hb : Below w.heap.size w w') : NodeNew n G o w' := by
  have l := fun a v (h : w.cell? a = some v) => (show w'.cell? a = some v by rw [lift hb a (by rw [h]; rfl)]; exact h)
  obtain ⟨g, h0, h1, h2⟩ := h.nums
  exact ⟨l _ _ h.kind, l _ _ h.a, l _ _ h.b, g, h0, l _ _ h1, fun i hi => l _ _ (h2 i hi)⟩

theorem NodeNew.far {n : PN} {G o : Nat} {w : World} (h : NodeNew n G o w) (p : Addr) (hp : p.block < G) (v : Value) : NodeNew n G o (w.setCell p v) := by
  obtain ⟨g, h0, h1, h2⟩ := h.nums
  have l : ∀ b k, p.block ≠ b → (w.setCell p v).cell? ⟨b, k, none⟩ = w.cell? ⟨b, k, none⟩ := fun b k hb => World.cell?_setCell_far _ _ _ _ hb
  exact ⟨by rw [l _ _ (by omega)]; exact h.kind, by rw [l _ _ (by omega)]; exact h.a, by rw [l _ _ (by omega)]; exact h.b, g, h0, by rw [l _ _ (by omega)]; exact h1, fun i hi => by rw [l _ _ (by omega)]; exact h2 i hi⟩

theorem NodeNew.set {n : PN} {G o : Nat} {w : World} (h : NodeNew n G o w) (j : Nat) (hj : j < o ∨ o + 4 ≤ j) (v : Value) : NodeNew n G o (w.setCell ⟨G, j, none⟩ v) := by
  have l := fun k u (hk : o ≤ k ∧ k < o + 4) (h : w.cell? ⟨G, k, none⟩ = some u) => (show (w.setCell ⟨G, j, none⟩ v).cell? ⟨G, k, none⟩ = some u by
    exact (World.cell?_setCell_other (w := w) (a := ⟨G, j, none⟩) (b := ⟨G, k, none⟩) (v := v) (by intro e; injection e with _ e; omega)).trans h)
  obtain ⟨g, h0, h1, h2⟩ := h.nums
  exact ⟨l _ _ (by omega) h.kind, l _ _ (by omega) h.a, l _ _ (by omega) h.b, g, h0, l _ _ (by omega) h1, fun i hi => by rw [World.cell?_setCell_far _ _ _ _ (by show G ≠ g; omega)]; exact h2 i hi⟩

theorem NodeNew.made {n : PN} {G o g : Nat} {w : World} {A : Array Value} {T : TypeId} (hA : w.heap[G]? = some (.cells A T (0, 0))) (hs : o + 4 ≤ A.size) (hg : G < g) (h2 : ∀ i (h : i < n.nums.length), w.cell? ⟨g, 0 + i, none⟩ = some (.float .f32 n.nums[i])) :
    NodeNew n G o ((((w.setCell ⟨G, o, none⟩ (.int .i64 n.kind)).setCell ⟨G, o + 1, none⟩ (.int .i64 n.a)).setCell ⟨G, o + 2, none⟩ (.int .i64 n.b)).setCell ⟨G, o + 3, none⟩ (.slice (some ⟨g, 0, none⟩) n.nums.length n.nums.length)) := by
  have h4 := arr_set (arr_set (arr_set (arr_set hA o (.int .i64 n.kind)) (o + 1) (.int .i64 n.a)) (o + 2) (.int .i64 n.b)) (o + 3) (.slice (some ⟨g, 0, none⟩) n.nums.length n.nums.length)
  have hf : ∀ i, ((((w.setCell ⟨G, o, none⟩ (.int .i64 n.kind)).setCell ⟨G, o + 1, none⟩ (.int .i64 n.a)).setCell ⟨G, o + 2, none⟩ (.int .i64 n.b)).setCell ⟨G, o + 3, none⟩ (.slice (some ⟨g, 0, none⟩) n.nums.length n.nums.length)).cell? ⟨g, i, none⟩ = w.cell? ⟨g, i, none⟩ := fun i => by
    rw [World.cell?_setCell_far _ _ _ _ (by show G ≠ g; omega), World.cell?_setCell_far _ _ _ _ (by show G ≠ g; omega), World.cell?_setCell_far _ _ _ _ (by show G ≠ g; omega), World.cell?_setCell_far _ _ _ _ (by show G ≠ g; omega)]
  have e0 : o < A.size := by omega
  have e1 : o + 1 < A.size := by omega
  have e2 : o + 2 < A.size := by omega
  have e3 : o + 3 < A.size := by omega
  refine ⟨?_, ?_, ?_, g, hg, ?_, fun i hi => by rw [hf]; exact h2 i hi⟩
  all_goals rw [arr_cell h4]
  · rw [Array.getElem?_setIfInBounds_ne (by omega), Array.getElem?_setIfInBounds_ne (by omega), Array.getElem?_setIfInBounds_ne (by omega), Array.getElem?_setIfInBounds_self_of_lt e0]
  · rw [Array.getElem?_setIfInBounds_ne (by omega), Array.getElem?_setIfInBounds_ne (by omega), Array.getElem?_setIfInBounds_self_of_lt (by simpa using e1)]
  · rw [Array.getElem?_setIfInBounds_ne (by omega), Array.getElem?_setIfInBounds_self_of_lt (by simpa using e2)]
  · rw [Array.getElem?_setIfInBounds_self_of_lt (by simpa using e3)]

theorem node_info : (Tryz.prog.info? 155).map (fun i => (i.zero, i.size, i.bytes)) = some (some (.agg #[.int .i64 0, .int .i64 0, .int .i64 0, .slice none 0 0]), 4, 48) := by kernel_rfl

theorem make_nodes (n : Nat) (hn : (n : Int) ≤ 1048576) (w : World) : ∃ A : Array Value, A.size = n * 4 ∧ (Instr.makeSlice 31 (.int .i64 (n : Int)) (.int .i64 (n : Int))).run Tryz.prog w = .ok (.slice (some ⟨w.heap.size, 0, none⟩) n n) (w.alloc (.cells A 155)) := by
  obtain ⟨i0, hi, hz0, hz1, hz2⟩ := info_parts node_info
  have h := run_make (P := Tryz.prog) w 31 155 i0 _ Tryz.underlying31 hi hz0 .i64 .i64 n n (by omega) (by omega) (by rw [hz2]; omega) (by omega)
  rw [hz1] at h
  refine ⟨_, ?_, h⟩
  simp [madeCells]

set_option maxRecDepth 100000 in
set_option maxHeartbeats 4000000 in
theorem to_nodes (ns : List PN) (hlen : (ns.length : Int) ≤ 1048576) (hnum : ∀ n ∈ ns, (n.nums.length : Int) ≤ 1048576) (bp : Option Addr) (nb no cap : Nat) (w : World) (hns : NodesIn ns bp nb no w) :
    Calls Tryz.prog 64 #[.slice bp ns.length cap] w (fun e w' => ∃ G, e = .returned (.slice (some ⟨G, 0, none⟩) ns.length ns.length) ∧ (∀ i (h : i < ns.length), NodeNew ns[i] G (0 + i * 4) w') ∧ w.heap.size ≤ G ∧ Below w.heap.size w w') := by
  obtain ⟨A, hA, hmk⟩ := make_nodes ns.length hlen w
  go_enter Tryz.func64, Tryz.ntmps64
  go_wp2_with fail
  have W1b : Below w.heap.size w (w.alloc (.cells A 155)) := (by repeat' (first | exact Below.refl _ _ | exact Nat.le_refl _ | refine below_drewN ?_ _ | refine Below.alloc ?_ (by first | (simp; done) | (simp; omega)) _ | refine Below.setCell ?_ (by first | (simp; done) | (simp; omega)) _ | refine below_step ?_ (by assumption)))

  have hpar := heap_alloc_at w (.cells A 155)
  generalize w.alloc (.cells A 155) = W1 at *
  clear hmk
  go_loopw [4] (fun i wr => ∃ (m : Nat) (A : Array Value), m ≤ ns.length ∧ i = .int .i64 (m : Int) ∧ A.size = ns.length * 4 ∧ wr.heap[w.heap.size]? = some (.cells A 155 (0, 0)) ∧ (∀ k (h : k < ns.length), k < m → NodeNew ns[k] w.heap.size (k * 4) wr) ∧ Below w.heap.size w wr) (fun i _ => ns.length - (intOf i).toNat)
  case atStart => exact ⟨0, A, by omega, rfl, hA, hpar, fun k _ h => by omega, W1b⟩
  case round =>
    obtain ⟨m, A', hm, rfl, hA', hpar', hk, Wb⟩ := hrel
    clear hpar W1b
    by_cases hlt : m < ns.length
    · have hlt' : (m : Int) < (ns.length : Int) := by omega
      have h0 : (0 : Int) ≤ (m : Int) := by omega
      have hne : ns ≠ [] := by intro h; rw [h] at hlt; simp at hlt
      have hbp := hns.ptr hne
      subst hbp
      have hn := (hns.node m hlt).keep Wb
      have hnl := hnum ns[m] (List.getElem_mem _)
      obtain ⟨np, nv, nvo, ncap, hn4, hn5, hn6⟩ := hn.nums
      have hn1 := hn.kind
      have hn2 := hn.a
      have hn3 := hn.b
      have hGs : w.heap.size < wr.heap.size := (Array.getElem?_eq_some_iff.1 hpar').1
      have hc := to_node ns[m] hnl np nv nvo ncap wr hn5 hn6
      have hkeep : ∀ w2, Below wr.heap.size wr w2 → ∀ k (h : k < ns.length), k < m → NodeNew ns[k] w.heap.size (k * 4) w2 := fun w2 hb k h hkm => (hk k h hkm).keep hb
      have hHk := Lib.hid hkeep
      have hHp := Lib.hid hpar'
      have hHns := Lib.hid hns
      have hHnum := Lib.hid hnum
      have hnm : ns[m] = ns[m] := rfl
      clear hn hn5 hn6 hnl hk hkeep hpar' hns hnum hnm
      have hold : Hid (ns[m] = ns[m]) := rfl
      generalize hgn : ns[m] = n at hn1 hn2 hn3 hn4 hc
      have hHgn := Lib.hid hgn
      clear hgn hold
      go_wp2_with fail
      refine hc.mono ?_
      rintro _ w2 ⟨g, rfl, hg2, hgs, hb2⟩
      have hpar2 : w2.heap[w.heap.size]? = some (.cells A' 155 (0, 0)) := by rw [hb2.block _ hGs]; exact hHp.out
      have hcell : ∀ j (hj : j < 4), w2.cell? ⟨w.heap.size, m * 4 + j, none⟩ = some (A'[m * 4 + j]'(by omega)) := fun j hj => by rw [arr_cell hpar2, Array.getElem?_eq_getElem (by omega)]
      have hc0 : w2.cell? ⟨w.heap.size, m * 4, none⟩ = some (A'[m * 4]'(by omega)) := by rw [arr_cell hpar2, Array.getElem?_eq_getElem (by omega)]
      have hc1 := hcell 1 (by omega)
      have hc2 := hcell 2 (by omega)
      have hc3 := hcell 3 (by omega)
      have hfz := arr_frozen hpar2
      have hmade := NodeNew.made (n := n) (o := m * 4) hpar2 (by omega) (show w.heap.size < g by omega) hg2
      have h4 := arr_set (arr_set (arr_set (arr_set hpar2 (m * 4) (.int .i64 n.kind)) (m * 4 + 1) (.int .i64 n.a)) (m * 4 + 2) (.int .i64 n.b)) (m * 4 + 3) (.slice (some ⟨g, 0, none⟩) n.nums.length n.nums.length)
      have hb4 := ((((below_step Wb hb2).setCell (p := ⟨w.heap.size, m * 4, none⟩) (Nat.le_refl _) (.int .i64 n.kind)).setCell (p := ⟨w.heap.size, m * 4 + 1, none⟩) (Nat.le_refl _) (.int .i64 n.a)).setCell (p := ⟨w.heap.size, m * 4 + 2, none⟩) (Nat.le_refl _) (.int .i64 n.b)).setCell (p := ⟨w.heap.size, m * 4 + 3, none⟩) (Nat.le_refl _) (.slice (some ⟨g, 0, none⟩) n.nums.length n.nums.length)
      have hall : Hid (∀ k (h : k < ns.length), k < m + 1 → NodeNew ns[k] w.heap.size (k * 4) ((((w2.setCell ⟨w.heap.size, m * 4, none⟩ (.int .i64 n.kind)).setCell ⟨w.heap.size, m * 4 + 1, none⟩ (.int .i64 n.a)).setCell ⟨w.heap.size, m * 4 + 2, none⟩ (.int .i64 n.b)).setCell ⟨w.heap.size, m * 4 + 3, none⟩ (.slice (some ⟨g, 0, none⟩) n.nums.length n.nums.length))) := fun k h hkm => by
        by_cases hkm' : k = m
        · subst hkm'
          rw [hHgn.out]; exact hmade
        · exact (((((hHk.out w2 hb2 k h (by omega)).set _ (by omega) _).set _ (by omega) _).set _ (by omega) _).set _ (by omega) _)
      have hH4 := Lib.hid h4
      clear hcell hmade h4 hpar2 hg2 hc hb2
      go_wp2_with fail
      exact ⟨⟨m + 1, _, by omega, by simp, by simpa using hA', hH4.out, hall.out, hb4⟩, by simp [intOf]; omega⟩
    · obtain rfl : m = ns.length := by omega
      have hH := Lib.hid hk
      clear hk hpar' hns hnum
      go_wp2_with fail
      go_ret
      exact ⟨w.heap.size, rfl, fun i hi => by rw [Nat.zero_add]; exact hH.out i hi hi, Nat.le_refl _, Wb⟩
end Go.Proofs.YtdbpgblhnhdhoaaGreat
