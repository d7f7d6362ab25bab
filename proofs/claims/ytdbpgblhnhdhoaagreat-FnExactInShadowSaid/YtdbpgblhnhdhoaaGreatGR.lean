/-
  Walks of the statement's own functions: shapes and vectors made anew, and compared.
  What is kept where only the count of draws has turned.
-/
import Derived.Test.YtdbpgblhnhdhoaaGreatGP
import Derived.RegionTactic
set_option linter.unusedVariables false
set_option linter.unusedSimpArgs false
namespace Go.Proofs.YtdbpgblhnhdhoaaGreat
open Go.RowKit Go.Fl

/-- A shape made anew comes back. -/
def RetSh (ns : List PN) (w : World) (e : Ending) (w' : World) : Prop :=
  ∃ G, e = .returned (.agg #[.slice (some ⟨G, 0, none⟩) ns.length ns.length]) ∧ (∀ i (h : i < ns.length), NodeNew ns[i] G (0 + i * 4) w') ∧ w.heap.size ≤ G ∧ Below w.heap.size w w'

set_option maxRecDepth 100000 in
set_option maxHeartbeats 2000000 in
theorem to_shape (ns : List PN) (hlen : (ns.length : Int) ≤ 1048576) (hnum : ∀ n ∈ ns, (n.nums.length : Int) ≤ 1048576) (bp : Option Addr) (nb no cap : Nat) (w : World) (hns : NodesIn ns bp nb no w) :
    Calls Tryz.prog 15 #[.agg #[.slice bp ns.length cap]] w (RetSh ns w) := by
  have hc := fun w' (h : Below w.heap.size w w') => to_nodes ns hlen hnum bp nb no cap w' (hns.keep h)
  clear hns hnum
  go_enter Tryz.func15, Tryz.ntmps15
  go_wp2_with fail
  have Wb : Below w.heap.size w (((w.alloc (.cells #[.slice bp ns.length cap] 24)).alloc (.cells #[.slice none 0 0] 33)).alloc (.cells #[.slice none 0 0] 33)) := (by repeat' (first | exact Below.refl _ _ | exact Nat.le_refl _ | refine below_drewN ?_ _ | refine Below.alloc ?_ (by first | (simp; done) | (simp; omega)) _ | refine Below.setCell ?_ (by first | (simp; done) | (simp; omega)) _ | refine below_step ?_ (by assumption)))

  have hkept : Kept [(⟨w.heap.size + 1, 0, none⟩, .slice none 0 0), (⟨w.heap.size + 1 + 1, 0, none⟩, .slice none 0 0)] [⟨w.heap.size + 1, 0, none⟩, ⟨w.heap.size + 1 + 1, 0, none⟩] (((w.alloc (.cells #[.slice bp ns.length cap] 24)).alloc (.cells #[.slice none 0 0] 33)).alloc (.cells #[.slice none 0 0] 33)) := by
    simp only [Kept, List.forall_mem_append, List.forall_mem_cons, List.not_mem_nil, false_implies, implies_true, and_true, true_and]; (first | (go_simp; done) | (simp [World.cell?, World.frozen?, World.alloc, Array.getElem?_push]; done))
  have hWs : (((w.alloc (.cells #[.slice bp ns.length cap] 24)).alloc (.cells #[.slice none 0 0] 33)).alloc (.cells #[.slice none 0 0] 33)).heap.size = w.heap.size + 1 + 1 + 1 := by simp
  generalize ((w.alloc (.cells #[.slice bp ns.length cap] 24)).alloc (.cells #[.slice none 0 0] 33)).alloc (.cells #[.slice none 0 0] 33) = W at *
  refine (hc _ Wb).mono ?_
  rintro _ w2 ⟨G, rfl, hnew, hG, hb2⟩
  have W2b := below_step Wb hb2
  have hkept2 := keep hkept hb2
  have hK := hkept2
  simp only [Kept, List.forall_mem_append, List.forall_mem_cons, List.not_mem_nil, false_implies, implies_true, and_true, true_and] at hK
  have hGs : w.heap.size + 1 + 1 < G := by omega
  have hH := Lib.hid hnew
  clear hc hkept hb2 Wb hnew hkept2 hG hWs
  obtain ⟨hK1, hK2⟩ := hK
  go_wp2_with fail
  refine bodyPost_ret (v := .agg #[.slice (some ⟨G, 0, none⟩) ns.length ns.length]) (by simp [results, Tryz.results15, go_sem, hK1, hK2]) rfl ⟨G, rfl, fun i hi => ?_, by omega, ?_⟩
  · exact ((hH.out i hi).far _ (by show w.heap.size + 1 + 1 < G; omega) _).far _ (by show w.heap.size + 1 < G; omega) _
  · exact (W2b.setCell (by show w.heap.size ≤ w.heap.size + 1 + 1; omega) _).setCell (by exact Nat.le_succ _) _

set_option maxRecDepth 100000 in
set_option maxHeartbeats 1000000 in
theorem to_vector (x y z : Nat) (w : World) :
    Calls Tryz.prog 16 #[V3 x y z] w (fun e w' => e = .returned (V3 x y z) ∧ Below w.heap.size w w') := by
  go_enter Tryz.func16, Tryz.ntmps16
  go_wp2_with fail
  exact bodyPost_ret (v := .agg #[.float .f32 _, .float .f32 _, .float .f32 _]) (by simp [results, Tryz.results16, go_sem]; first | done | exact ⟨rfl, rfl, rfl⟩) rfl ⟨rfl, (by repeat' (first | exact Below.refl _ _ | exact Nat.le_refl _ | refine below_drewN ?_ _ | refine Below.alloc ?_ (by first | (simp; done) | (simp; omega)) _ | refine Below.setCell ?_ (by first | (simp; done) | (simp; omega)) _ | refine below_step ?_ (by assumption)))⟩

theorem order_self {k : FloatKind} {x : Nat} (h : (k.decode x).isNaN = false) : k.format.order x x = some .eq := by
  show (k.decode x).order (k.decode x) = _
  cases hd : k.decode x with
  | nan s t => rw [hd] at h; cases h
  | infinity s => cases s <;> rfl
  | number s m e =>
    show some (compare _ _) = _
    rw [Ft.cmp_eq.2 rfl]

theorem gt_same {a b : Nat} (h : cn .f64 a = cn .f64 b) : ((FloatKind.f64.format.order a 0 == some .gt) == (FloatKind.f64.format.order b 0 == some .gt)) = true := by
  rw [← ord_r0 .f64 a, ← ord_r0 .f64 b, h]; simp

set_option maxRecDepth 100000 in
set_option maxHeartbeats 1000000 in
theorem same_float (u v : Nat) (h : cn .f64 u = cn .f64 v) (w : World) :
    Calls Tryz.prog 18 #[.float .f64 u, .float .f64 v] w (fun e w' => e = .returned (.bool true) ∧ Below w.heap.size w w') := by
  cases hu : (FloatKind.f64.decode u).isNaN
  · have hv : (FloatKind.f64.decode v).isNaN = false := by rw [← isNaN_cn, ← h, isNaN_cn]; exact hu
    rw [cn_of_not hu, cn_of_not hv] at h
    subst h
    have h1 : (FloatKind.f64.format.order u u != some .eq) = false := by rw [order_self hu]; rfl
    have h2 : (FloatKind.f64.format.order u u == some .eq) = true := by rw [order_self hu]; rfl
    clear hu hv
    cases hz : (FloatKind.f64.format.order u 0 == some .eq)
    · go_enter Tryz.func18, Tryz.ntmps18
      go_wp2_with (refine wp_bin rfl _ _ _ _ _ rfl _ _ _ rfl rfl rfl ?_; intro r n hr)
      go_ret
      exact ⟨by first | rfl | (rw [h2]; rfl) | simp, (by repeat' (first | exact Below.refl _ _ | exact Nat.le_refl _ | refine below_drewN ?_ _ | refine Below.alloc ?_ (by first | (simp; done) | (simp; omega)) _ | refine Below.setCell ?_ (by first | (simp; done) | (simp; omega)) _ | refine below_step ?_ (by assumption)))⟩
    · go_enter Tryz.func18, Tryz.ntmps18
      go_wp2_with (refine wp_bin rfl _ _ _ _ _ rfl _ _ _ rfl rfl rfl ?_; intro r n hr)
      go_ret
      exact ⟨congrArg Ending.returned (congrArg Value.bool (gt_same (by simp only [*]))), (by repeat' (first | exact Below.refl _ _ | exact Nat.le_refl _ | refine below_drewN ?_ _ | refine Below.alloc ?_ (by first | (simp; done) | (simp; omega)) _ | refine Below.setCell ?_ (by first | (simp; done) | (simp; omega)) _ | refine below_step ?_ (by assumption)))⟩
  · have hv : (FloatKind.f64.decode v).isNaN = true := by rw [← isNaN_cn, ← h, isNaN_cn]; exact hu
    have h1 : (FloatKind.f64.format.order u u != some .eq) = true := by
      show ((FloatKind.f64.decode u).order (FloatKind.f64.decode u) != some .eq) = true
      rw [order_nan_l hu]; rfl
    have h2 : (FloatKind.f64.format.order v v != some .eq) = true := by
      show ((FloatKind.f64.decode v).order (FloatKind.f64.decode v) != some .eq) = true
      rw [order_nan_l hv]; rfl
    clear hu hv h
    go_enter Tryz.func18, Tryz.ntmps18
    go_wp2_with fail
    go_ret
    exact ⟨rfl, (by repeat' (first | exact Below.refl _ _ | exact Nat.le_refl _ | refine below_drewN ?_ _ | refine Below.alloc ?_ (by first | (simp; done) | (simp; omega)) _ | refine Below.setCell ?_ (by first | (simp; done) | (simp; omega)) _ | refine below_step ?_ (by assumption)))⟩

open Go.RowKit Go.Fl

/-- float64(x) in a region that draws its order. -/
theorem one_wid {P : Program} {W : World} {Phi : FuncId → Array Value → Value → Prop} {o : Oper} {a : Act} {K : Act → Prop} (s d : TypeId) (x : Operand)
    (ho : o.op = .convert s d x) (u : Nat) (hx : a.eval x = .float .f32 u) (hs : (P.underlying s).isSome = true) (hd : P.underlying d = some (.float .f64))
    (h : ∀ r, cn .f64 r = wid (cn .f32 u) → K (a.put o.dst (.float .f64 r))) : Qr.one P (fun w' => Below W.heap.size W w') Phi o a K := by
  refine Qr.one_rel (fun x => ∃ r, x = .float .f64 r ∧ cn .f64 r = wid (cn .f32 u)) (fun w' hw' => ?_) ?_
  · obtain ⟨r, n, hr, hc⟩ := run_conv (P := P) w' s d .f32 .f64 (by decide) hs hd u (fitsW_all u)
    refine ⟨_, w'.drewN n, exec_convert o a s d x ho w' _ _ (by rw [hx]; exact hr), ⟨r, rfl, ?_⟩, ⟨hw'.os, hw'.tape, hw'.output, hw'.size, hw'.block⟩, rfl, rfl, rfl, Nat.le_refl _, fun _ _ => rfl⟩
    rw [hc]; exact (cn_pick .f32 .f64 u).symm
  · rintro _ ⟨r, rfl, hr⟩
    exact h r hr

inductive PhiE : FuncId → Array Value → Value → Prop
  | yes (f : FuncId) (args : Array Value) : PhiE f args (.bool true)


set_option maxRecDepth 100000 in
set_option maxHeartbeats 2000000 in
theorem eq_floats (xs : List Nat) (hlen : (xs.length : Int) ≤ 1048576) (p q : Nat) (pc qc : Nat) (w : World) (h1 : ∀ i (h : i < xs.length), w.cell? ⟨p, 0 + i, none⟩ = some (.float .f32 xs[i])) (h2 : ∀ i (h : i < xs.length), w.cell? ⟨q, 0 + i, none⟩ = some (.float .f32 xs[i])) :
    Calls Tryz.prog 159 #[.slice (some ⟨p, 0, none⟩) xs.length pc, .slice (some ⟨q, 0, none⟩) xs.length qc] w (fun e w' => e = .returned (.bool true) ∧ Below w.heap.size w w') := by
  go_enter Tryz.func159, Tryz.ntmps159
  go_wp2_with fail
  go_loopw [5] (fun i wr => ∃ (m : Nat), m ≤ xs.length ∧ i = .int .i64 (m : Int) ∧ Below w.heap.size w wr) (fun i _ => xs.length - (intOf i).toNat)
  case atStart => exact ⟨0, by omega, rfl, Below.refl _ _⟩
  case round =>
    obtain ⟨m, hm, rfl, Wb⟩ := hrel
    by_cases hlt : m < xs.length
    · have hlt' : (m : Int) < (xs.length : Int) := by omega
      have h0 : (0 : Int) ≤ (m : Int) := by omega
      have hc1 : wr.cell? ⟨p, m, none⟩ = some (.float .f32 xs[m]) := by have := h1 m hlt; rw [Nat.zero_add] at this; rw [lift Wb _ (by rw [this]; rfl)]; exact this
      have hc2 : wr.cell? ⟨q, m, none⟩ = some (.float .f32 xs[m]) := by have := h2 m hlt; rw [Nat.zero_add] at this; rw [lift Wb _ (by rw [this]; rfl)]; exact this
      generalize xs[m] = x at hc1 hc2
      have hkept : Kept [(⟨p, m, none⟩, .float .f32 x), (⟨q, m, none⟩, .float .f32 x)] [] wr := by
        simp only [Kept, List.forall_mem_append, List.forall_mem_cons, List.not_mem_nil, false_implies, implies_true, and_true, true_and]
        exact ⟨hc1, hc2⟩
      clear h1 h2 hc1 hc2
      go_upto_region 6 with fail
      refine Qr.wp_below_all (by kernel_rfl) (by kernel_rfl) PhiE ?_
      repeat (first | (refine Qr.walk_plain rfl fun K hK => ?_; apply Qr.one_det; (focus (intro w' hw'; have HK := keep hkept hw'; simp only [Kept, List.forall_mem_append, List.forall_mem_cons, List.not_mem_nil, false_implies, implies_true, and_true, true_and] at HK; go_simp; first | done | rfl)); go_simp; refine hK _ ?_; clear hK K) | (refine Qr.walk_plain rfl fun K hK => ?_; refine one_wid _ _ _ rfl _ rfl some_f32 Tryz.underlying38 (fun r hr => ?_); go_simp; refine hK _ ?_; clear hK K) | (refine Qr.walk_plain rfl fun K hK => ?_; apply Qr.one_call; (focus (intro w' hw'; go_simp; first | done | exact ⟨rfl, rfl⟩)); (focus (intro w' hw';  go_at_call 18; refine (same_float _ _ (by simp only [*]) _).mono ?_; rintro _ w2 ⟨rfl, hb1⟩; exact ⟨_, rfl, PhiE.yes _ _, hw'.trans (by exact Below.mono (by assumption) hw'.size), by assumption⟩)); intro v hv; cases hv; go_simp; refine hK _ ?_; clear hK K))
      refine Qr.walk_nil fun w6 hw6 => ?_
      go_wp2_with fail
      exact ⟨⟨m + 1, by omega, by simp, below_step Wb hw6⟩, by simp [intOf]; omega⟩
    · obtain rfl : m = xs.length := by omega
      clear h1 h2
      go_wp2_with fail
      go_ret
      exact ⟨rfl, Wb⟩

set_option maxRecDepth 100000 in
set_option maxHeartbeats 2000000 in
theorem eq_node (n : PN) (hlen : (n.nums.length : Int) ≤ 1048576) (p q pc qc : Nat) (w : World) (h1 : ∀ i (h : i < n.nums.length), w.cell? ⟨p, 0 + i, none⟩ = some (.float .f32 n.nums[i])) (h2 : ∀ i (h : i < n.nums.length), w.cell? ⟨q, 0 + i, none⟩ = some (.float .f32 n.nums[i])) :
    Calls Tryz.prog 119 #[.agg #[.int .i64 n.kind, .int .i64 n.a, .int .i64 n.b, .slice (some ⟨p, 0, none⟩) n.nums.length pc], .agg #[.int .i64 n.kind, .int .i64 n.a, .int .i64 n.b, .slice (some ⟨q, 0, none⟩) n.nums.length qc]] w (fun e w' => e = .returned (.bool true) ∧ Below w.heap.size w w') := by
  have hc : ∀ w', Below w.heap.size w w' → Calls Tryz.prog 159 #[.slice (some ⟨p, 0, none⟩) n.nums.length pc, .slice (some ⟨q, 0, none⟩) n.nums.length qc] w' (fun e w'' => e = .returned (.bool true) ∧ Below w'.heap.size w' w'') :=
    fun w' hb => eq_floats n.nums hlen p q pc qc w' (fun i h => by rw [lift hb _ (by rw [h1 i h]; rfl)]; exact h1 i h) (fun i h => by rw [lift hb _ (by rw [h2 i h]; rfl)]; exact h2 i h)
  clear h1 h2
  go_enter Tryz.func119, Tryz.ntmps119
  go_wp2_with (go_at_call 159; refine (hc _ (by repeat' (first | exact Below.refl _ _ | exact Nat.le_refl _ | refine below_drewN ?_ _ | refine Below.alloc ?_ (by first | (simp; done) | (simp; omega)) _ | refine Below.setCell ?_ (by first | (simp; done) | (simp; omega)) _ | refine below_step ?_ (by assumption)))).mono ?_; rintro _ w2 ⟨rfl, hb2⟩)
  go_ret
  exact ⟨rfl, (by repeat' (first | exact Below.refl _ _ | exact Nat.le_refl _ | refine below_drewN ?_ _ | refine Below.alloc ?_ (by first | (simp; done) | (simp; omega)) _ | refine Below.setCell ?_ (by first | (simp; done) | (simp; omega)) _ | refine below_step ?_ (by assumption)))⟩

set_option maxRecDepth 100000 in
set_option maxHeartbeats 2000000 in
theorem eq_nodes (ns : List PN) (hlen : (ns.length : Int) ≤ 1048576) (hnum : ∀ n ∈ ns, (n.nums.length : Int) ≤ 1048576) (G H gc hc : Nat) (w : World) (h1 : ∀ i (h : i < ns.length), NodeNew ns[i] G (0 + i * 4) w) (h2 : ∀ i (h : i < ns.length), NodeNew ns[i] H (0 + i * 4) w) :
    Calls Tryz.prog 69 #[.slice (some ⟨G, 0, none⟩) ns.length gc, .slice (some ⟨H, 0, none⟩) ns.length hc] w (fun e w' => e = .returned (.bool true) ∧ Below w.heap.size w w') := by
  go_enter Tryz.func69, Tryz.ntmps69
  go_wp2_with fail
  go_loopw [5] (fun i wr => ∃ (m : Nat), m ≤ ns.length ∧ i = .int .i64 (m : Int) ∧ Below w.heap.size w wr) (fun i _ => ns.length - (intOf i).toNat)
  case atStart => exact ⟨0, by omega, rfl, Below.refl _ _⟩
  case round =>
    obtain ⟨m, hm, rfl, Wb⟩ := hrel
    by_cases hlt : m < ns.length
    · have hlt' : (m : Int) < (ns.length : Int) := by omega
      have h0 : (0 : Int) ≤ (m : Int) := by omega
      have hA := (h1 m hlt).keep Wb
      have hB := (h2 m hlt).keep Wb
      have hnl := hnum ns[m] (List.getElem_mem _)
      rw [Nat.zero_add] at hA hB
      generalize ns[m] = n at hA hB hnl
      obtain ⟨p, -, hA3, hA4⟩ := hA.nums
      obtain ⟨q, -, hB3, hB4⟩ := hB.nums
      have hkept : Kept [(⟨G, m * 4, none⟩, .int .i64 n.kind), (⟨G, m * 4 + 1, none⟩, .int .i64 n.a), (⟨G, m * 4 + 2, none⟩, .int .i64 n.b), (⟨G, m * 4 + 3, none⟩, .slice (some ⟨p, 0, none⟩) n.nums.length n.nums.length), (⟨H, m * 4, none⟩, .int .i64 n.kind), (⟨H, m * 4 + 1, none⟩, .int .i64 n.a), (⟨H, m * 4 + 2, none⟩, .int .i64 n.b), (⟨H, m * 4 + 3, none⟩, .slice (some ⟨q, 0, none⟩) n.nums.length n.nums.length)] [] wr := by
        simp only [Kept, List.forall_mem_append, List.forall_mem_cons, List.not_mem_nil, false_implies, implies_true, and_true, true_and]
        exact ⟨hA.kind, hA.a, hA.b, hA3, hB.kind, hB.a, hB.b, hB3⟩
      have hcall : ∀ w', Below wr.heap.size wr w' → Calls Tryz.prog 119 #[.agg #[.int .i64 n.kind, .int .i64 n.a, .int .i64 n.b, .slice (some ⟨p, 0, none⟩) n.nums.length n.nums.length], .agg #[.int .i64 n.kind, .int .i64 n.a, .int .i64 n.b, .slice (some ⟨q, 0, none⟩) n.nums.length n.nums.length]] w' (fun e w'' => e = .returned (.bool true) ∧ Below w'.heap.size w' w'') :=
        fun w' hb => eq_node n hnl p q _ _ w' (fun i h => by rw [lift hb _ (by rw [hA4 i h]; rfl)]; exact hA4 i h) (fun i h => by rw [lift hb _ (by rw [hB4 i h]; rfl)]; exact hB4 i h)
      clear h1 h2 hA hB hA3 hA4 hB3 hB4 hnum
      go_upto_region 6 with fail
      refine Qr.wp_below_all (by kernel_rfl) (by kernel_rfl) PhiE ?_
      repeat (first | (refine Qr.walk_plain rfl fun K hK => ?_; apply Qr.one_det; (focus (intro w' hw'; have HK := keep hkept hw'; simp only [Kept, List.forall_mem_append, List.forall_mem_cons, List.not_mem_nil, false_implies, implies_true, and_true, true_and] at HK; go_simp; first | done | rfl)); go_simp; refine hK _ ?_; clear hK K) | (refine Qr.walk_plain rfl fun K hK => ?_; apply Qr.one_call; (focus (intro w' hw'; go_simp; first | done | exact ⟨rfl, rfl⟩)); (focus (intro w' hw';  go_at_call 119; refine (hcall _ hw').mono ?_; rintro _ w2 ⟨rfl, hb1⟩; exact ⟨_, rfl, PhiE.yes _ _, hw'.trans (by exact Below.mono (by assumption) hw'.size), by assumption⟩)); intro v hv; cases hv; go_simp; refine hK _ ?_; clear hK K))
      refine Qr.walk_nil fun w6 hw6 => ?_
      go_wp2_with fail
      exact ⟨⟨m + 1, by omega, by simp, below_step Wb hw6⟩, by simp [intOf]; omega⟩
    · obtain rfl : m = ns.length := by omega
      clear h1 h2 hnum
      go_wp2_with fail
      go_ret
      exact ⟨rfl, Wb⟩

set_option maxRecDepth 100000 in
set_option maxHeartbeats 2000000 in
theorem eq_shape (ns : List PN) (hlen : (ns.length : Int) ≤ 1048576) (hnum : ∀ n ∈ ns, (n.nums.length : Int) ≤ 1048576) (G H gc hc : Nat) (w : World) (h1 : ∀ i (h : i < ns.length), NodeNew ns[i] G (0 + i * 4) w) (h2 : ∀ i (h : i < ns.length), NodeNew ns[i] H (0 + i * 4) w) :
    Calls Tryz.prog 19 #[.agg #[.slice (some ⟨G, 0, none⟩) ns.length gc], .agg #[.slice (some ⟨H, 0, none⟩) ns.length hc]] w (fun e w' => e = .returned (.bool true) ∧ Below w.heap.size w w') := by
  have hcall := fun w' (hb : Below w.heap.size w w') => eq_nodes ns hlen hnum G H gc hc w' (fun i h => (h1 i h).keep hb) (fun i h => (h2 i h).keep hb)
  clear h1 h2 hnum
  go_enter Tryz.func19, Tryz.ntmps19
  go_wp2_with (go_at_call 69; refine (hcall _ (by repeat' (first | exact Below.refl _ _ | exact Nat.le_refl _ | refine below_drewN ?_ _ | refine Below.alloc ?_ (by first | (simp; done) | (simp; omega)) _ | refine Below.setCell ?_ (by first | (simp; done) | (simp; omega)) _ | refine below_step ?_ (by assumption)))).mono ?_; rintro _ w2 ⟨rfl, hb2⟩)
  go_ret
  exact ⟨rfl, (by repeat' (first | exact Below.refl _ _ | exact Nat.le_refl _ | refine below_drewN ?_ _ | refine Below.alloc ?_ (by first | (simp; done) | (simp; omega)) _ | refine Below.setCell ?_ (by first | (simp; done) | (simp; omega)) _ | refine below_step ?_ (by assumption)))⟩
end Go.Proofs.YtdbpgblhnhdhoaaGreat

namespace Go.Proofs.YtdbpgblhnhdhoaaGreat
open Go.RowKit Go.Fl

theorem kept_same {cs : List (Addr × Value)} {fs : List Addr} {W W' : World} (h : Kept cs fs W) (e : W'.heap = W.heap) : Kept cs fs W' := by
  have h1 : ∀ a, W'.cell? a = W.cell? a := fun a => by simp [World.cell?, e]
  have h2 : ∀ a, W'.frozen? a = W.frozen? a := fun a => by simp [World.frozen?, e]
  exact ⟨fun p hp => by rw [h1]; exact h.1 p hp, fun a ha => by rw [h1, h2]; exact h.2 a ha⟩

theorem keepS {cs : List (Addr × Value)} {fs : List Addr} {W X w : World} (h : Kept cs fs W) (hb : Below X.heap.size X w) (e : X.heap = W.heap) : Kept cs fs w := keep (kept_same h e) hb

end Go.Proofs.YtdbpgblhnhdhoaaGreat
