/-
  Walks: LeafAt of the program.
  Walks: LeafAt of the reference.
  Plain law: the leaf told twice.
  Walk of the statement: LeafAt.
  LeafAt: the statement holds.
-/
import Derived.Test.YtdbpgblhnhdhoaaW18
import Derived.Test.YtdbpgblhnhdhoaaS16
import Derived.Test.YtdbpgblhnhdhoaaZ4
import Derived.Test.YtdbpgblhnhdhoaaL6
import Derived.Test.YtdbpgblhnhdhoaaR2
set_option linter.unusedVariables false
set_option linter.unusedSimpArgs false
namespace Go.Proofs.Ytdbpgblhnhdhoaa
open Go.RowKit Go.Fl

/-- Is the second child told? -/
def secF (k : Int) (a b : Nat) : Bool := if k = 6 then gtk .f32 b a else if k = 7 then gtk .f32 (negc .f32 b) a else ltk .f32 b a

theorem sec_5 {a b : Nat} {v : Bool} (h : (FloatKind.f32.format.order b a == some .lt) = v) : Hid (secF 5 (cn .f32 a) (cn .f32 b) = v) := (ltk_cn .f32 b a).trans h
theorem sec_8 {a b : Nat} {v : Bool} (h : (FloatKind.f32.format.order b a == some .lt) = v) : Hid (secF 8 (cn .f32 a) (cn .f32 b) = v) := (ltk_cn .f32 b a).trans h
theorem sec_6 {a b : Nat} {v : Bool} (h : (FloatKind.f32.format.order b a == some .gt) = v) : Hid (secF 6 (cn .f32 a) (cn .f32 b) = v) := (gtk_cn .f32 b a).trans h
theorem sec_7 {a b : Nat} {v : Bool} (h : (FloatKind.f32.format.order (Op.negFloat .f32 b) a == some .gt) = v) : Hid (secF 7 (cn .f32 a) (cn .f32 b) = v) := by
  show gtk .f32 (negc .f32 (cn .f32 b)) (cn .f32 a) = v
  rw [negc_cn, gtk_cn]; exact h

def leafGo (ns : List PN) : Nat → Nat → Nat × Nat × Nat → Nat
  | 0, i, _ => i
  | f + 1, i, q =>
    match ns[i]? with
    | none => i
    | some n =>
      match (ruleF n.kind).2.1 with
      | 0 => i
      | 1 => leafGo ns f n.a.toNat (pointF n q)
      | _ => if secF n.kind (distF ns ns.length n.a.toNat q) (distF ns ns.length n.b.toNat q) then leafGo ns f n.b.toNat q else leafGo ns f n.a.toNat q

def leafF2 (ns : List PN) (p : Nat × Nat × Nat) : Nat := leafGo ns ns.length (ns.length - 1) p

inductive PhiA (ns : List PN) (n : PN) : FuncId → Array Value → Value → Prop
  | dist (sa : Addr) (i : Int) (x y z r : Nat) (h : cn .f32 r = distF ns ns.length i.toNat (cn .f32 x, cn .f32 y, cn .f32 z)) : PhiA ns n 25 #[.pointer (some sa), .int .i64 i, V3 x y z] (F1 r)
  | point (pa : Addr) (x y z a b c : Nat) (h1 : cn .f32 a = (pointF n (cn .f32 x, cn .f32 y, cn .f32 z)).1) (h2 : cn .f32 b = (pointF n (cn .f32 x, cn .f32 y, cn .f32 z)).2.1) (h3 : cn .f32 c = (pointF n (cn .f32 x, cn .f32 y, cn .f32 z)).2.2) : PhiA ns n 24 #[.pointer (some pa), V3 x y z] (V3 a b c)

theorem two_kind {k : Int} (h : 0 ≤ k ∧ k ≤ 16) : (ruleF k).2.1 = 2 → k = 5 ∨ k = 6 ∨ k = 7 ∨ k = 8 := by
  have : k = 0 ∨ k = 1 ∨ k = 2 ∨ k = 3 ∨ k = 4 ∨ k = 5 ∨ k = 6 ∨ k = 7 ∨ k = 8 ∨ k = 9 ∨ k = 10 ∨ k = 11 ∨ k = 12 ∨ k = 13 ∨ k = 14 ∨ k = 15 ∨ k = 16 := by omega
  rcases this with h | h | h | h | h | h | h | h | h | h | h | h | h | h | h | h | h <;> subst h <;> decide

set_option maxRecDepth 100000 in
set_option maxHeartbeats 4000000 in
theorem leaf_any (ns : List PN) (hnum : ∀ n ∈ ns, n.nums.length < 10000000) (nb no cap x y z : Nat) (bp : Option Addr) (w : World) (hbp : ns ≠ [] → bp = some ⟨nb, no, none⟩) (hsh : ∀ i (h : i < ns.length), NodeIn ns[i] nb (no + i * 4) w) (hlen : ns.length < 10000000) :
    Calls Try.prog 12 #[.agg #[.slice bp ns.length cap], V3 x y z] w (fun e w' => e = .returned (.tuple #[.int .i64 (if validF ns then (leafF2 ns (cn .f32 x, cn .f32 y, cn .f32 z) : Int) else 0), .bool (validF ns)]) ∧ Below w.heap.size w w') := by
  obtain ⟨R, hR⟩ : ∃ R, Hid (R = leafF2 ns (cn .f32 x, cn .f32 y, cn .f32 z)) := ⟨_, rfl⟩
  rw [← hR.out]
  obtain ⟨RV, hRV⟩ : ∃ RV, Hid (RV = if validF ns then (R : Int) else 0) := ⟨_, rfl⟩
  rw [← hRV.out]
  go_enter Try.func12, Try.ntmps12
  go_wp2_with fail
  have W1b : Below w.heap.size w ((w.alloc (.cells #[.slice bp ns.length cap] 32)).alloc (.cells #[.float .f32 x, .float .f32 y, .float .f32 z] 34)) := (by repeat' (first | exact Below.refl _ _ | exact Nat.le_refl _ | refine below_drewN ?_ _ | refine Below.alloc ?_ (by first | (simp; done) | (simp; omega)) _ | refine Below.setCell ?_ (by first | (simp; done) | (simp; omega)) _ | refine below_step ?_ (by assumption)))

  have hbox1 : ((w.alloc (.cells #[.slice bp ns.length cap] 32)).alloc (.cells #[.float .f32 x, .float .f32 y, .float .f32 z] 34)).cell? ⟨w.heap.size, 0, none⟩ = some (.slice bp ns.length cap) := by simp
  have hpt1 : ((w.alloc (.cells #[.slice bp ns.length cap] 32)).alloc (.cells #[.float .f32 x, .float .f32 y, .float .f32 z] 34)).heap[w.heap.size + 1]? = some (.cells #[.float .f32 x, .float .f32 y, .float .f32 z] 34 (0, 0)) := by
    have := heap_alloc_at (w.alloc (.cells #[.slice bp ns.length cap] 32)) (.cells #[.float .f32 x, .float .f32 y, .float .f32 z] 34)
    rw [show (w.alloc (.cells #[.slice bp ns.length cap] 32)).heap.size = w.heap.size + 1 by simp] at this
    exact this
  generalize (w.alloc (.cells #[.slice bp ns.length cap] 32)).alloc (.cells #[.float .f32 x, .float .f32 y, .float .f32 z] 34) = W1 at *
  have hv := valid_any ns hnum nb no cap bp W1 hbp (fun i h => (hsh i h).keep W1b) hlen
  refine hv.mono ?_
  rintro _ w2 ⟨rfl, hb2⟩
  have W2b := below_step W1b hb2
  have hbox2 : w2.cell? ⟨w.heap.size, 0, none⟩ = some (.slice bp ns.length cap) := by rw [lift hb2 _ (by rw [hbox1]; rfl)]; exact hbox1
  have hpt2 : w2.heap[w.heap.size + 1]? = some (.cells #[.float .f32 x, .float .f32 y, .float .f32 z] 34 (0, 0)) := by
    rw [hb2.block _ (Array.getElem?_eq_some_iff.1 hpt1).1]; exact hpt1
  clear hv hb2 W1b hbox1 hpt1
  cases hval : validF ns
  · go_wp2_with fail
    go_ret2
    exact ⟨by rw [hRV.out, hval]; rfl, W2b⟩
  · obtain ⟨hl, hok⟩ := valid_ok hval
    have hne : ns ≠ [] := by intro h; rw [h] at hl; simp at hl
    have hb := hbp hne
    subst hb
    have hnbw : nb < w.heap.size := some_lt (a := ⟨nb, no + 0 * 4, none⟩) (by rw [(hsh 0 (by omega)).kind]; rfl)
    have hlast := last_any w.heap.size 0 _ _ _ w2 hbox2
    rw [last_len (by omega)] at hlast
    have hli : (ns.length : Int) - 1 = ((ns.length - 1 : Nat) : Int) := by omega
    rw [hli] at hlast
    have hHval := Lib.hid hval
    clear hbp hval hli
    go_wp2_with fail
    refine hlast.mono ?_
    rintro _ w3 ⟨rfl, rfl⟩
    go_wp2_with fail
    go_loopw [6] (fun i wr => ∃ (f c x y z : Nat), c < f ∧ c < ns.length ∧ i = .int .i64 (c : Int) ∧ wr.heap[w.heap.size + 1]? = some (.cells #[.float .f32 x, .float .f32 y, .float .f32 z] 34 (0, 0)) ∧ Hid (R = leafGo ns f c (cn .f32 x, cn .f32 y, cn .f32 z)) ∧ wr.cell? ⟨w.heap.size, 0, none⟩ = some (.slice (some ⟨nb, no, none⟩) ns.length cap) ∧ Below w.heap.size w wr) (fun i _ => (intOf i).toNat)
    case atStart => exact ⟨ns.length, ns.length - 1, x, y, z, by omega, by omega, rfl, hpt2, hR, hbox2, W2b⟩
    case round =>
      obtain ⟨f, c, x, y, z, hcf, hcl, rfl, hpt, hgo, hboxr, Wb⟩ := hrel
      have hshr : ShapeIn ns w.heap.size 0 nb no cap wr := ⟨hboxr, fun i h => (hsh i h).keep Wb⟩
      clear hpt2 hR hsh W2b hlast hbox2 hboxr
      obtain ⟨f, rfl⟩ : ∃ g, f = g + 1 := ⟨f - 1, by omega⟩
      have hlist := hshr.list
      have hn := hshr.node c hcl
      obtain ⟨hokn, hca, hcb⟩ := hok c hcl
      have hd : Hid (R = match (ruleF ns[c].kind).2.1 with
      | 0 => c
      | 1 => leafGo ns f ns[c].a.toNat (pointF ns[c] (cn .f32 x, cn .f32 y, cn .f32 z))
      | _ => if secF ns[c].kind (distF ns ns.length ns[c].a.toNat (cn .f32 x, cn .f32 y, cn .f32 z)) (distF ns ns.length ns[c].b.toNat (cn .f32 x, cn .f32 y, cn .f32 z)) then leafGo ns f ns[c].b.toNat (cn .f32 x, cn .f32 y, cn .f32 z) else leafGo ns f ns[c].a.toNat (cn .f32 x, cn .f32 y, cn .f32 z)) := by
        unfold Hid
        rw [hgo.out, leafGo, List.getElem?_eq_getElem hcl]
      have hdist : ∀ (j : Int), 0 ≤ j → j < (c : Int) → ∀ (x y z : Nat) (w' : World), ShapeIn ns w.heap.size 0 nb no cap w' → Calls Try.prog 25 #[.pointer (some ⟨w.heap.size, 0, none⟩), .int .i64 j, V3 x y z] w' (Ret .f32 (distF ns ns.length j.toNat (cn .f32 x, cn .f32 y, cn .f32 z)) w') := fun j h0 h1 x y z w' hs => by
        have := dist_any ns hok w.heap.size 0 nb no cap ns.length j.toNat x y z w' (by omega) (by omega) hs
        rwa [Int.toNat_of_nonneg h0] at this
      have hc0 : (0 : Int) ≤ (c : Int) := by omega
      have hcl' : (c : Int) < (ns.length : Int) := by omega
      clear hgo
      generalize ns[c] = n at *
      have hkind := hn.kind
      have hA := hn.a
      have hB := hn.b
      go_wp2_with fail
      refine (children_any nb (no + c * 4) n.kind n.a n.b wr hkind hA hB).mono ?_
      rintro _ w4 ⟨g, rfl, -, -, -, hb4⟩
      have W4b := below_step Wb hb4
      have hn4 := hn.keep hb4
      have hsh4 := hshr.keep hb4
      have hpt4 : w4.heap[w.heap.size + 1]? = some (.cells #[.float .f32 x, .float .f32 y, .float .f32 z] 34 (0, 0)) := by
        rw [hb4.block _ (Array.getElem?_eq_some_iff.1 hpt).1]; exact hpt
      have hkept : Kept [(⟨nb, no + c * 4, none⟩, .int .i64 n.kind), (⟨nb, no + c * 4 + 1, none⟩, .int .i64 n.a), (⟨nb, no + c * 4 + 2, none⟩, .int .i64 n.b)] [] w4 := by
        simp only [Kept, List.forall_mem_append, List.forall_mem_cons, List.not_mem_nil, false_implies, implies_true, and_true, true_and]
        exact ⟨hn4.kind, hn4.a, hn4.b⟩
      have hkept := kept_app hkept (kept3 hpt4)
      clear hlist hkind hA hB hn hshr hpt Wb hb4
      have hc3 : (ruleF n.kind).2.1 = 0 ∨ (ruleF n.kind).2.1 = 1 ∨ (ruleF n.kind).2.1 = 2 := kids_cases n.kind
      rcases hc3 with hc | hc | hc
      · rw [hc] at hd ⊢
        clear hca hcb hdist
        go_wp2_with fail
        go_ret2
        exact ⟨by rw [hRV.out, hHval.out, ← hd.out]; rfl, W4b⟩
      · rw [hc] at hd ⊢
        have hca := hca (by rw [hc]; decide)
        clear hcb hdist
        go_upto_region 10 with fail
        refine Qr.wp_below 7 (by kernel_rfl) (by kernel_rfl) (PhiA ns n) ?_
        repeat (first | (refine Qr.walk_plain rfl fun K hK => ?_; apply Qr.one_det; (focus (intro w' hw'; have HK := keep hkept hw'; simp only [Kept, List.forall_mem_append, List.forall_mem_cons, List.not_mem_nil, false_implies, implies_true, and_true, true_and] at HK; go_simp; first | done | rfl)); go_simp; refine hK _ ?_; clear hK K) | (refine Qr.walk_plain rfl fun K hK => ?_; apply Qr.one_call; (focus (intro w' hw'; go_simp; first | done | exact ⟨rfl, rfl⟩)); (focus (intro w' hw';  go_at_call 24; refine (point_all (hn4.keep hw') hokn hc _ _ _).mono ?_; rintro _ w3 ⟨r1, r2, r3, rfl, hr1, hr2, hr3, hb1⟩ ; exact ⟨_, rfl, by constructor <;> assumption, hw'.trans (by exact Below.mono (by assumption) hw'.size), by assumption⟩)); intro v hv; cases hv; go_simp; refine hK _ ?_; clear hK K))
        rename_i a1 b1 c1 h1 h2 h3
        refine Qr.walk_nil fun w5 hw5 => ?_
        have hpt5 : w5.heap[w.heap.size + 1]? = some (.cells #[.float .f32 x, .float .f32 y, .float .f32 z] 34 (0, 0)) := by
          rw [hw5.block _ (Array.getElem?_eq_some_iff.1 hpt4).1]; exact hpt4
        obtain ⟨k1, k2, k3, k4, k5, k6⟩ := cells3 hpt5
        have hsh5 := hsh4.keep hw5
        have W5b := below_step W4b hw5
        clear hkept hpt4 hsh4 W4b hw5
        have hca1 := Int.toNat_of_nonneg hca.1
        generalize hj : n.a.toNat = j at *
        rw [← hca1] at *
        have hwit : ∀ w6, w6.heap[w.heap.size + 1]? = some (.cells #[.float .f32 a1, .float .f32 b1, .float .f32 c1] 34 (0, 0)) → Below (w.heap.size + 1) w5 w6 → w6.cell? ⟨w.heap.size, 0, none⟩ = some (.slice (some ⟨nb, no, none⟩) ns.length cap) ∧ Below w.heap.size w w6 := fun w6 h hb => by
          refine ⟨?_, W5b.trans (hb.mono (by omega))⟩
          rw [World.cell?_of_block (hb.block w.heap.size (by omega))]; exact hsh5.list
        go_wp2_with fail
        have hset := set3 hpt5 (.float .f32 a1) (.float .f32 b1) (.float .f32 c1)
        obtain ⟨e1, e2⟩ := hwit _ hset.1 hset.2
        exact ⟨⟨f, j, a1, b1, c1, by omega, by omega, rfl, hset.1, by unfold Hid; rw [hd.out, h1, h2, h3], e1, e2⟩, by simp [intOf]; omega⟩
      · rw [hc] at hd ⊢
        have hca := hca (by rw [hc]; decide)
        have hcb := hcb hc
        have hdAB : ∀ j : Int, j = n.a ∨ j = n.b → ∀ (x y z : Nat) (w' : World), ShapeIn ns w.heap.size 0 nb no cap w' → Calls Try.prog 25 #[.pointer (some ⟨w.heap.size, 0, none⟩), .int .i64 j, V3 x y z] w' (Ret .f32 (distF ns ns.length j.toNat (cn .f32 x, cn .f32 y, cn .f32 z)) w') := by
          intro j hj
          rcases hj with h | h <;> subst h
          · exact hdist _ hca.1 hca.2
          · exact hdist _ hcb.1 hcb.2
        clear hdist
        go_upto_region 11 with fail
        refine Qr.wp_below_all (by kernel_rfl) (by kernel_rfl) (PhiA ns n) ?_
        repeat (first | (refine Qr.walk_plain rfl fun K hK => ?_; apply Qr.one_det; (focus (intro w' hw'; have HK := keep hkept hw'; simp only [Kept, List.forall_mem_append, List.forall_mem_cons, List.not_mem_nil, false_implies, implies_true, and_true, true_and] at HK; go_simp; first | done | rfl)); go_simp; refine hK _ ?_; clear hK K) | (refine Qr.walk_plain rfl fun K hK => ?_; apply Qr.one_call; (focus (intro w' hw'; go_simp; first | done | exact ⟨rfl, rfl⟩)); (focus (intro w' hw';  go_at_call 25; refine (hdAB _ (by first | exact Or.inl rfl | exact Or.inr rfl) _ _ _ _ (hsh4.keep hw')).mono ?_; rintro _ w3 ⟨r1, rfl, hr1, hb1⟩ ; exact ⟨_, rfl, by constructor <;> assumption, hw'.trans (by exact Below.mono (by assumption) hw'.size), by assumption⟩)); intro v hv; cases hv; go_simp; refine hK _ ?_; clear hK K))
        rename_i r1 e1 r2 e2
        refine Qr.walk_nil fun w5 hw5 => ?_
        have hpt5 : w5.heap[w.heap.size + 1]? = some (.cells #[.float .f32 x, .float .f32 y, .float .f32 z] 34 (0, 0)) := by
          rw [hw5.block _ (Array.getElem?_eq_some_iff.1 hpt4).1]; exact hpt4
        have hbox5 := (hsh4.keep hw5).list
        have W5b := below_step W4b hw5
        have hkept := keep hkept hw5
        have hK := hkept
        simp only [Kept, List.forall_mem_append, List.forall_mem_cons, List.not_mem_nil, false_implies, implies_true, and_true, true_and] at hK
        have hk2 := two_kind hokn.kind hc
        have hca1 := Int.toNat_of_nonneg hca.1
        have hcb1 := Int.toNat_of_nonneg hcb.1
        rw [← e1, ← e2] at hd
        clear hkept hpt4 hsh4 W4b hw5 hn4 hdAB hok hnum e1 e2
        generalize n.a.toNat = ja at *
        generalize n.b.toNat = jb at *
        have hB0 : ∀ (v : Bool), Hid (secF n.kind (cn .f32 r1) (cn .f32 r2) = v) → Hid (R = leafGo ns f (if v then jb else ja) (cn .f32 x, cn .f32 y, cn .f32 z)) := fun v hv => by
          have hd : R = if secF n.kind (cn .f32 r1) (cn .f32 r2) then leafGo ns f jb (cn .f32 x, cn .f32 y, cn .f32 z) else leafGo ns f ja (cn .f32 x, cn .f32 y, cn .f32 z) := hd.out
          unfold Hid
          rw [hd, hv.out]
          cases v <;> rfl
        have hA0 : Hid (n.a = (ja : Int)) := hca1.symm
        have hBB : Hid (n.b = (jb : Int)) := hcb1.symm
        have hja : ja < c := by omega
        have hjb : jb < c := by omega
        rw [hA0.out, hBB.out] at hK
        clear hd hca1 hcb1 hca hcb hc hokn
        generalize n.kind = k at *
        generalize n.a = na at *
        generalize n.b = nbb at *
        have hend : ∀ v : Bool, Hid (secF k (cn .f32 r1) (cn .f32 r2) = v) → (∃ (f' c' x' y' z' : Nat), c' < f' ∧ c' < ns.length ∧ Value.int .i64 ((if v then jb else ja : Nat) : Int) = .int .i64 (c' : Int) ∧ w5.heap[w.heap.size + 1]? = some (.cells #[.float .f32 x', .float .f32 y', .float .f32 z'] 34 (0, 0)) ∧ Hid (R = leafGo ns f' c' (cn .f32 x', cn .f32 y', cn .f32 z')) ∧ w5.cell? ⟨w.heap.size, 0, none⟩ = some (.slice (some ⟨nb, no, none⟩) ns.length cap) ∧ Below w.heap.size w w5) := fun v hv =>
          ⟨f, if v then jb else ja, x, y, z, by cases v <;> simp <;> omega, by cases v <;> simp <;> omega, rfl, hpt5, hB0 v hv, hbox5, W5b⟩
        have hms : ∀ v : Bool, (if v then jb else ja) < c := fun v => by cases v <;> simp <;> omega
        rcases hk2 with h | h | h | h <;> subst h
        all_goals
          go_wp2_with fail
        all_goals
          rename_i hcmp
          simp only [intOf, Int.toNat_natCast]
          first
            | exact ⟨hend true (sec_5 hcmp), hms true⟩
            | exact ⟨hend false (sec_5 hcmp), hms false⟩
            | exact ⟨hend true (sec_6 hcmp), hms true⟩
            | exact ⟨hend false (sec_6 hcmp), hms false⟩
            | exact ⟨hend true (sec_7 hcmp), hms true⟩
            | exact ⟨hend false (sec_7 hcmp), hms false⟩
            | exact ⟨hend true (sec_8 hcmp), hms true⟩
            | exact ⟨hend false (sec_8 hcmp), hms false⟩
end Go.Proofs.Ytdbpgblhnhdhoaa

namespace Go.Proofs.Ytdbpgblhnhdhoaa
open Go.RowKit Go.Fl

def leafSGo (ns : List PN) (L : List Nat) : Nat → Nat → Nat
  | 0, i => i
  | f + 1, i =>
    match ns[i]? with
    | none => i
    | some n =>
      if inI n.kind 0 4 then i
      else if inI n.kind 5 8 then (if secF n.kind (L.getD n.a.toNat 0) (L.getD n.b.toNat 0) then leafSGo ns L f n.b.toNat else leafSGo ns L f n.a.toNat)
      else leafSGo ns L f n.a.toNat

def leafS2 (ns : List PN) (p : V) : Nat := leafSGo ns (allS ns (runP ns p ns.length) ns.length) ns.length (ns.length - 1)

theorem one_kind {k : Int} (h : 0 ≤ k ∧ k ≤ 16) (h1 : inI k 0 4 = false) (h2 : inI k 5 8 = false) : k = 9 ∨ k = 10 ∨ k = 11 ∨ k = 12 ∨ k = 13 ∨ k = 14 ∨ k = 15 ∨ k = 16 := by
  have : k = 0 ∨ k = 1 ∨ k = 2 ∨ k = 3 ∨ k = 4 ∨ k = 5 ∨ k = 6 ∨ k = 7 ∨ k = 8 ∨ k = 9 ∨ k = 10 ∨ k = 11 ∨ k = 12 ∨ k = 13 ∨ k = 14 ∨ k = 15 ∨ k = 16 := by omega
  rcases this with h | h | h | h | h | h | h | h | h | h | h | h | h | h | h | h | h <;> subst h <;> first | (exfalso; revert h1 h2; decide) | simp

inductive PhiNo : FuncId → Array Value → Value → Prop

set_option maxRecDepth 100000 in
set_option maxHeartbeats 4000000 in
theorem s_leafat_any (ns : List PN) (hnum : ∀ n ∈ ns, n.nums.length < 10000000) (hvok : validS ns = true → OkAll ns) (nb no cap x y z : Nat) (bp : Option Addr) (w : World) (hbp : ns ≠ [] → bp = some ⟨nb, no, none⟩) (hsh : ∀ i (h : i < ns.length), NodeIn ns[i] nb (no + i * 4) w) (hlen : ns.length < 10000000) :
    Calls Try.prog 11 #[.agg #[.slice bp ns.length cap], V3 x y z] w (fun e w' => e = .returned (.tuple #[.int .i64 (if validS ns then (leafS2 ns (cn .f32 x, cn .f32 y, cn .f32 z) : Int) else 0), .bool (validS ns)]) ∧ Below w.heap.size w w') := by
  obtain ⟨R, hR⟩ : ∃ R, Hid (R = leafS2 ns (cn .f32 x, cn .f32 y, cn .f32 z)) := ⟨_, rfl⟩
  rw [← hR.out]
  obtain ⟨RV, hRV⟩ : ∃ RV, Hid (RV = if validS ns then (R : Int) else 0) := ⟨_, rfl⟩
  rw [← hRV.out]
  go_enter Try.func11, Try.ntmps11
  go_wp2_with fail
  have W1b : Below w.heap.size w ((w.alloc (.cells #[.slice bp ns.length cap] 32)).alloc (.cells #[.float .f32 x, .float .f32 y, .float .f32 z] 34)) := (by repeat' (first | exact Below.refl _ _ | exact Nat.le_refl _ | refine below_drewN ?_ _ | refine Below.alloc ?_ (by first | (simp; done) | (simp; omega)) _ | refine Below.setCell ?_ (by first | (simp; done) | (simp; omega)) _ | refine below_step ?_ (by assumption)))

  have hkept : Kept [(⟨w.heap.size, 0, none⟩, .slice bp ns.length cap), (⟨w.heap.size + 1, 0, none⟩, .float .f32 x), (⟨w.heap.size + 1, 1, none⟩, .float .f32 y), (⟨w.heap.size + 1, 2, none⟩, .float .f32 z)] [] ((w.alloc (.cells #[.slice bp ns.length cap] 32)).alloc (.cells #[.float .f32 x, .float .f32 y, .float .f32 z] 34)) := by
    simp only [Kept, List.forall_mem_append, List.forall_mem_cons, List.not_mem_nil, false_implies, implies_true, and_true, true_and]
    simp
  generalize (w.alloc (.cells #[.slice bp ns.length cap] 32)).alloc (.cells #[.float .f32 x, .float .f32 y, .float .f32 z] 34) = W1 at *
  have hK1 := hkept
  simp only [Kept, List.forall_mem_append, List.forall_mem_cons, List.not_mem_nil, false_implies, implies_true, and_true, true_and] at hK1
  have hv := s_is_any ns hnum w.heap.size 0 nb no cap bp W1 hK1.1 hbp (fun i h => (hsh i h).keep W1b) hlen
  refine hv.mono ?_
  rintro _ w2 ⟨rfl, hb2⟩
  have W2b := below_step W1b hb2
  have hkept2 := keep hkept hb2
  have hK := hkept2
  simp only [Kept, List.forall_mem_append, List.forall_mem_cons, List.not_mem_nil, false_implies, implies_true, and_true, true_and] at hK
  clear hv hkept hb2 W1b hK1
  cases hval : validS ns
  · go_wp2_with fail
    go_ret2
    exact ⟨by rw [hRV.out, hval]; rfl, W2b⟩
  · have hl : 1 ≤ ns.length ∧ ns.length ≤ 16 := by
      simp only [validS, Bool.and_eq_true, decide_eq_true_eq] at hval
      exact hval.1
    have hok := hvok hval
    have hne : ns ≠ [] := by intro h; rw [h] at hl; simp at hl
    have hb := hbp hne
    subst hb
    have hsh2 : ShapeIn ns w.heap.size 0 nb no cap w2 := ⟨hK.1, fun i h => (hsh i h).keep W2b⟩
    have hnbw : nb < w.heap.size := some_lt (a := ⟨nb, no + 0 * 4, none⟩) (by rw [(hsh 0 (by omega)).kind]; rfl)
    have hall := s_all_any ns hok hl w.heap.size 0 nb no cap x y z w2 hsh2
    have hHval := Lib.hid hval
    clear hsh hbp hval
    go_wp2_with fail
    refine hall.mono ?_
    rintro _ w3 ⟨v, xs, rfl, hown, hxs, hb3⟩
    have W3b := below_step W2b hb3
    have hsh3 := hsh2.keep hb3
    obtain ⟨g, cap2, rfl, -, -⟩ := hown.form (by omega)
    have hlen : xs.length = ns.length := by have := hown.1; simpa using this
    have hcell : ∀ j (h : j < xs.length), w3.cell? ⟨g, j, none⟩ = some (F1 xs[j]) := fun j h => by
      have hc := hown.cellAt j (by omega)
      rw [show (fl xs)[j]? = some (F1 xs[j]) by simp [fl, List.getElem?_eq_getElem h]] at hc
      simpa using hc
    have hget : ∀ j (h : j < xs.length), (allS ns (runP ns (cn .f32 x, cn .f32 y, cn .f32 z) ns.length) ns.length).getD j 0 = cn .f32 xs[j] := fun j h => by
      rw [← hxs, List.getD_eq_getElem?_getD, List.getElem?_map, List.getElem?_eq_getElem h]; rfl
    have hR2 := hR.out
    rw [leafS2] at hR2
    generalize allS ns (runP ns (cn .f32 x, cn .f32 y, cn .f32 z) ns.length) ns.length = L at *
    have hgs : ∀ j, j < xs.length → g < w3.heap.size := fun j h => some_lt (a := ⟨g, j, none⟩) (by rw [hcell j h]; rfl)
    have hgs := hgs 0 (by omega)
    have hli : wrap64 ((ns.length : Int) - 1) = ((ns.length - 1 : Nat) : Int) := by rw [last_len (by omega)]; omega
    have hl0 : (0 : Int) ≤ (ns.length : Int) - 1 := by omega
    have hr1 : (1 : Int) ≤ (ns.length : Int) := by omega
    have hr2 : (ns.length : Int) ≤ 16 := by omega
    have hR2 := Lib.hid hR2
    have hHxs := Lib.hid hxs
    clear hxs hown hb3 hall hsh2 hK hkept2 hR
    have hHlen : xs.length = ns.length := hlen
    go_wp2_with fail
    go_loopw [7] (fun i wr => ∃ (f c : Nat), c < f ∧ c < ns.length ∧ i = .int .i64 (c : Int) ∧ Hid (R = leafSGo ns L f c) ∧ Below w3.heap.size w3 wr) (fun i _ => (intOf i).toNat)
    case atStart =>
      refine ⟨ns.length, ns.length - 1, by omega, by omega, ?_, hR2, by first | exact Below.refl _ _ | exact (Below.refl _ _).drew⟩
      first | rfl | (congr 1; omega) | trace_state
    case round =>
      obtain ⟨f, c, hcf, hcl, rfl, hgo, Wb⟩ := hrel
      obtain ⟨f, rfl⟩ : ∃ g, f = g + 1 := ⟨f - 1, by omega⟩
      have hshr := hsh3.keep Wb
      have Wrb := below_step W3b Wb
      have hcellr : ∀ j (h : j < xs.length), wr.cell? ⟨g, j, none⟩ = some (F1 xs[j]) := fun j h => by
        rw [lift Wb _ (by rw [hcell j h]; rfl)]; exact hcell j h
      have hlist := hshr.list
      have hn := hshr.node c hcl
      obtain ⟨hokn, hca, hcb⟩ := hok c hcl
      obtain ⟨k1, k2⟩ := kids_in hokn.kind
      have hd : Hid (R = if inI ns[c].kind 0 4 then c
          else if inI ns[c].kind 5 8 then (if secF ns[c].kind (L.getD ns[c].a.toNat 0) (L.getD ns[c].b.toNat 0) then leafSGo ns L f ns[c].b.toNat else leafSGo ns L f ns[c].a.toNat)
          else leafSGo ns L f ns[c].a.toNat) := by
        unfold Hid
        rw [hgo.out, leafSGo, List.getElem?_eq_getElem hcl]
      have hc0 : (0 : Int) ≤ (c : Int) := by omega
      have hcl' : (c : Int) < (ns.length : Int) := by omega
      have hHcell := Lib.hid hcellr
      have hHget := Lib.hid hget
      clear hgo hR2 hli hl0 hr1 hr2 hcell hcellr hget W3b hsh3 hok hshr hnum hvok
      generalize ns[c] = n at *
      have hleaf : ∀ (w : World), Calls Try.prog 21 #[.int .i64 n.kind] w (fun e w' => e = .returned (.bool (inI n.kind 0 4)) ∧ w = w') := fun w => s_leaf_any _ w
      have hkind := hn.kind
      cases hlf : inI n.kind 0 4
      · rw [hlf] at k1 hd
        have hne0 : (ruleF n.kind).2.1 ≠ 0 := by simpa using k1.symm
        obtain ⟨ca, hcaI⟩ := Int.eq_ofNat_of_zero_le (hca hne0).1
        have hcal : ca < c := by have := (hca hne0).2; omega
        have hcaL : (ca : Int) < (ns.length : Int) := by omega
        have hA := hn.a
        rw [hcaI] at hA
        have haN : n.a.toNat = ca := by rw [hcaI]; rfl
        rw [haN] at hd
        cases htw : inI n.kind 5 8
        · rw [htw] at hd
          have hk1 := one_kind hokn.kind hlf htw
          have hHd : Hid (R = leafSGo ns L f ca) := hd.out
          clear hd hcb hca k1 k2 hne0 haN
          generalize n.kind = k at *
          rcases hk1 with h | h | h | h | h | h | h | h <;> subst h
          all_goals
            go_wp2_with (go_at_call 21; refine (hleaf _).mono ?_; rintro _ w4 ⟨rfl, rfl⟩; rw [hlf])
            exact ⟨⟨f, ca, by omega, by omega, rfl, hHd, Wb⟩, by simp only [intOf, Int.toNat_natCast]; exact hcal⟩
        · rw [htw] at hd k2
          have hk2 := two_kind hokn.kind (by simpa using k2.symm)
          have hbb := hcb (by simpa using k2.symm)
          obtain ⟨cb, hcbI⟩ := Int.eq_ofNat_of_zero_le hbb.1
          have hcbl : cb < c := by omega
          have hcbL : (cb : Int) < (ns.length : Int) := by omega
          have hB := hn.b
          rw [hcbI] at hB
          have hbN : n.b.toNat = cb := by rw [hcbI]; rfl
          rw [hbN, hHget.out ca (by omega), hHget.out cb (by omega)] at hd
          have hcA := hHcell.out ca (by omega)
          have hcB := hHcell.out cb (by omega)
          generalize xs[ca]'(by omega) = r1 at *
          generalize xs[cb]'(by omega) = r2 at *
          have hkept : Kept [(⟨nb, no + c * 4, none⟩, .int .i64 n.kind), (⟨nb, no + c * 4 + 1, none⟩, .int .i64 (ca : Int)), (⟨nb, no + c * 4 + 2, none⟩, .int .i64 (cb : Int)), (⟨g, ca, none⟩, F1 r1), (⟨g, cb, none⟩, F1 r2)] [] wr := by
            simp only [Kept, List.forall_mem_append, List.forall_mem_cons, List.not_mem_nil, false_implies, implies_true, and_true, true_and]
            exact ⟨hkind, hA, hB, hcA, hcB⟩
          have hB0 : ∀ (v : Bool), Hid (secF n.kind (cn .f32 r1) (cn .f32 r2) = v) → Hid (R = leafSGo ns L f (if v then cb else ca)) := fun v hv => by
            have hd : R = if secF n.kind (cn .f32 r1) (cn .f32 r2) then leafSGo ns L f cb else leafSGo ns L f ca := hd.out
            unfold Hid
            rw [hd, hv.out]
            cases v <;> rfl
          have hend : ∀ v : Bool, Hid (secF n.kind (cn .f32 r1) (cn .f32 r2) = v) → ∀ w5, Below w3.heap.size w3 w5 → (∃ (f' c' : Nat), c' < f' ∧ c' < ns.length ∧ Value.int .i64 ((if v then cb else ca : Nat) : Int) = .int .i64 (c' : Int) ∧ Hid (R = leafSGo ns L f' c') ∧ Below w3.heap.size w3 w5) := fun v hv w5 hb =>
            ⟨f, if v then cb else ca, by cases v <;> simp <;> omega, by cases v <;> simp <;> omega, rfl, hB0 v hv, hb⟩
          have hms : ∀ v : Bool, (if v then cb else ca) < c := fun v => by cases v <;> simp <;> omega
          clear hd hcb hca k1 k2 hne0 haN hbN hbb hA hB hcA hcB hn hB0 hHcell hHget hcaI hcbI
          generalize n.kind = k at *
          rcases hk2 with h | h | h | h <;> subst h
          · go_upto_region 11 with (go_at_call 21; refine (hleaf _).mono ?_; rintro _ w4 ⟨rfl, rfl⟩; rw [hlf])
            refine Qr.wp_below_all (by kernel_rfl) (by kernel_rfl) PhiNo ?_
            repeat ((refine Qr.walk_plain rfl fun K hK => ?_; apply Qr.one_det; (focus (intro w' hw'; have HK := keep hkept hw'; simp only [Kept, List.forall_mem_append, List.forall_mem_cons, List.not_mem_nil, false_implies, implies_true, and_true, true_and] at HK; go_simp; first | done | rfl)); go_simp; refine hK _ ?_; clear hK K))
            refine Qr.walk_nil fun w5 hw5 => ?_
            (have Wb5 := below_step Wb hw5; have hkept := keep hkept hw5; have hK := hkept; simp only [Kept, List.forall_mem_append, List.forall_mem_cons, List.not_mem_nil, false_implies, implies_true, and_true, true_and] at hK; clear hkept hw5; go_wp2_with fail; all_goals (rename_i hcmp; simp only [intOf, Int.toNat_natCast]; first | exact ⟨hend true (sec_5 hcmp) _ Wb5, hms true⟩ | exact ⟨hend false (sec_5 hcmp) _ Wb5, hms false⟩ | exact ⟨hend true (sec_6 hcmp) _ Wb5, hms true⟩ | exact ⟨hend false (sec_6 hcmp) _ Wb5, hms false⟩ | exact ⟨hend true (sec_7 hcmp) _ Wb5, hms true⟩ | exact ⟨hend false (sec_7 hcmp) _ Wb5, hms false⟩ | exact ⟨hend true (sec_8 hcmp) _ Wb5, hms true⟩ | exact ⟨hend false (sec_8 hcmp) _ Wb5, hms false⟩))
          · go_upto_region 13 with (go_at_call 21; refine (hleaf _).mono ?_; rintro _ w4 ⟨rfl, rfl⟩; rw [hlf])
            refine Qr.wp_below_all (by kernel_rfl) (by kernel_rfl) PhiNo ?_
            repeat ((refine Qr.walk_plain rfl fun K hK => ?_; apply Qr.one_det; (focus (intro w' hw'; have HK := keep hkept hw'; simp only [Kept, List.forall_mem_append, List.forall_mem_cons, List.not_mem_nil, false_implies, implies_true, and_true, true_and] at HK; go_simp; first | done | rfl)); go_simp; refine hK _ ?_; clear hK K))
            refine Qr.walk_nil fun w5 hw5 => ?_
            (have Wb5 := below_step Wb hw5; have hkept := keep hkept hw5; have hK := hkept; simp only [Kept, List.forall_mem_append, List.forall_mem_cons, List.not_mem_nil, false_implies, implies_true, and_true, true_and] at hK; clear hkept hw5; go_wp2_with fail; all_goals (rename_i hcmp; simp only [intOf, Int.toNat_natCast]; first | exact ⟨hend true (sec_5 hcmp) _ Wb5, hms true⟩ | exact ⟨hend false (sec_5 hcmp) _ Wb5, hms false⟩ | exact ⟨hend true (sec_6 hcmp) _ Wb5, hms true⟩ | exact ⟨hend false (sec_6 hcmp) _ Wb5, hms false⟩ | exact ⟨hend true (sec_7 hcmp) _ Wb5, hms true⟩ | exact ⟨hend false (sec_7 hcmp) _ Wb5, hms false⟩ | exact ⟨hend true (sec_8 hcmp) _ Wb5, hms true⟩ | exact ⟨hend false (sec_8 hcmp) _ Wb5, hms false⟩))
          · go_upto_region 15 with (go_at_call 21; refine (hleaf _).mono ?_; rintro _ w4 ⟨rfl, rfl⟩; rw [hlf])
            refine Qr.wp_below_all (by kernel_rfl) (by kernel_rfl) PhiNo ?_
            repeat ((refine Qr.walk_plain rfl fun K hK => ?_; apply Qr.one_det; (focus (intro w' hw'; have HK := keep hkept hw'; simp only [Kept, List.forall_mem_append, List.forall_mem_cons, List.not_mem_nil, false_implies, implies_true, and_true, true_and] at HK; go_simp; first | done | rfl)); go_simp; refine hK _ ?_; clear hK K))
            refine Qr.walk_nil fun w5 hw5 => ?_
            (have Wb5 := below_step Wb hw5; have hkept := keep hkept hw5; have hK := hkept; simp only [Kept, List.forall_mem_append, List.forall_mem_cons, List.not_mem_nil, false_implies, implies_true, and_true, true_and] at hK; clear hkept hw5; go_wp2_with fail; all_goals (rename_i hcmp; simp only [intOf, Int.toNat_natCast]; first | exact ⟨hend true (sec_5 hcmp) _ Wb5, hms true⟩ | exact ⟨hend false (sec_5 hcmp) _ Wb5, hms false⟩ | exact ⟨hend true (sec_6 hcmp) _ Wb5, hms true⟩ | exact ⟨hend false (sec_6 hcmp) _ Wb5, hms false⟩ | exact ⟨hend true (sec_7 hcmp) _ Wb5, hms true⟩ | exact ⟨hend false (sec_7 hcmp) _ Wb5, hms false⟩ | exact ⟨hend true (sec_8 hcmp) _ Wb5, hms true⟩ | exact ⟨hend false (sec_8 hcmp) _ Wb5, hms false⟩))
          · go_upto_region 11 with (go_at_call 21; refine (hleaf _).mono ?_; rintro _ w4 ⟨rfl, rfl⟩; rw [hlf])
            refine Qr.wp_below_all (by kernel_rfl) (by kernel_rfl) PhiNo ?_
            repeat ((refine Qr.walk_plain rfl fun K hK => ?_; apply Qr.one_det; (focus (intro w' hw'; have HK := keep hkept hw'; simp only [Kept, List.forall_mem_append, List.forall_mem_cons, List.not_mem_nil, false_implies, implies_true, and_true, true_and] at HK; go_simp; first | done | rfl)); go_simp; refine hK _ ?_; clear hK K))
            refine Qr.walk_nil fun w5 hw5 => ?_
            (have Wb5 := below_step Wb hw5; have hkept := keep hkept hw5; have hK := hkept; simp only [Kept, List.forall_mem_append, List.forall_mem_cons, List.not_mem_nil, false_implies, implies_true, and_true, true_and] at hK; clear hkept hw5; go_wp2_with fail; all_goals (rename_i hcmp; simp only [intOf, Int.toNat_natCast]; first | exact ⟨hend true (sec_5 hcmp) _ Wb5, hms true⟩ | exact ⟨hend false (sec_5 hcmp) _ Wb5, hms false⟩ | exact ⟨hend true (sec_6 hcmp) _ Wb5, hms true⟩ | exact ⟨hend false (sec_6 hcmp) _ Wb5, hms false⟩ | exact ⟨hend true (sec_7 hcmp) _ Wb5, hms true⟩ | exact ⟨hend false (sec_7 hcmp) _ Wb5, hms false⟩ | exact ⟨hend true (sec_8 hcmp) _ Wb5, hms true⟩ | exact ⟨hend false (sec_8 hcmp) _ Wb5, hms false⟩))
      · rw [hlf] at hd
        have hHd : Hid (R = c) := hd.out
        clear hd hca hcb k1 k2
        go_wp2_with (go_at_call 21; refine (hleaf _).mono ?_; rintro _ w4 ⟨rfl, rfl⟩; rw [hlf])
        go_ret2
        exact ⟨by rw [hRV.out, hHval.out, ← hHd.out]; rfl, Wrb⟩
end Go.Proofs.Ytdbpgblhnhdhoaa

namespace Go.Proofs.Ytdbpgblhnhdhoaa
open Go.RowKit Go.Fl

theorem sec_same (k : Int) {a b a' b' : Nat} (ha : Zw .f32 a a') (hb : Zw .f32 b b') : secF k a b = secF k a' b' := by
  unfold secF
  rw [Zw.gtk hb ha, Zw.gtk (Zw.neg hb) ha, Zw.ltk hb ha]

theorem go_same {ns : List PN} (ht : Tree ns) {C : Nat → V} (hC : ∀ j (h : j < ns.length), PtsAt ns C j h) :
    ∀ (f i : Nat) (hi : i < ns.length) (q : V), Zv q (C i) → leafGo ns f i q = leafSGo ns (allS ns C ns.length) f i := by
  intro f
  induction f with
  | zero => intro i _ _ _; rfl
  | succ f ih =>
    intro i hi q hq
    obtain ⟨hokn, hca, hcb⟩ := ht.ok i hi
    obtain ⟨k1, k2⟩ := kids_in hokn.kind
    obtain ⟨la, lb⟩ := kids_lt ht hi
    obtain ⟨p1, p2⟩ := hC i hi
    rw [leafGo, leafSGo, List.getElem?_eq_getElem hi]
    simp only
    rcases kids_cases ns[i].kind with h | h | h
    · have e1 : inI ns[i].kind 0 4 = true := by rw [k1, h]; rfl
      rw [e1, h]; rfl
    · have e1 : inI ns[i].kind 0 4 = false := by rw [k1, h]; rfl
      have e2 : inI ns[i].kind 5 8 = false := by rw [k2, h]; rfl
      rw [e1, e2, h]
      simp only [Bool.false_eq_true, if_false]
      have hla := la e1
      exact ih ns[i].a.toNat (by omega) (pointF ns[i] q) (by rw [p1 e1]; exact z_point hokn h hq)
    · have e1 : inI ns[i].kind 0 4 = false := by rw [k1, h]; rfl
      have e2 : inI ns[i].kind 5 8 = true := by rw [k2, h]; rfl
      rw [e1, e2, h]
      simp only [Bool.false_eq_true, if_false, if_true]
      have hla := la e1
      have hlb := lb e2
      have hqa : Zv q (C ns[i].a.toNat) := by rw [p1 e1, pointS_two hokn h]; exact hq
      have hqb : Zv q (C ns[i].b.toNat) := by rw [p2 e2]; exact hq
      have ha := dist_same ht hC ns.length ns[i].a.toNat (by omega) q (by omega) hqa
      have hb := dist_same ht hC ns.length ns[i].b.toNat (by omega) q (by omega) hqb
      rw [sec_same ns[i].kind ha hb, ih ns[i].a.toNat (by omega) q hqa, ih ns[i].b.toNat (by omega) q hqb]

theorem leaf_same {ns : List PN} (ht : Tree ns) (p : V) : leafF2 ns p = leafS2 ns p := by
  obtain ⟨h1, h2⟩ := pts_inv ht p ns.length (Nat.le_refl _)
  have hl := ht.len.1
  refine go_same ht (fun j h => h2 j h (by omega)) ns.length (ns.length - 1) (by omega) p ?_
  rw [h1]; exact Zv.refl _

theorem leafat_same (ns : List PN) (p : V) : (if validS ns then (leafS2 ns p : Int) else 0) = (if validF ns then (leafF2 ns p : Int) else 0) := by
  rw [valid_same]
  cases h : validF ns
  · rfl
  · rw [leaf_same (tree_of h) p]
end Go.Proofs.Ytdbpgblhnhdhoaa

namespace Go.Proofs.Ytdbpgblhnhdhoaa
open Go.RowKit Go.Fl


inductive PhiLf (RV : Int) (bv : Bool) : FuncId → Array Value → Value → Prop
  | vec (x y z : Nat) : PhiLf RV bv 8 #[V3 x y z] (V3 x y z)
  | leaf (args : Array Value) : PhiLf RV bv 12 args (.tuple #[.int .i64 RV, .bool bv])

set_option maxRecDepth 100000 in
set_option maxHeartbeats 4000000 in
theorem law_leaf (ns : List PN) (bp : Option Addr) (nb no cap x y z : Nat) (w : World) (hns : NodesIn ns bp nb no w) :
    Calls Try.prog 4 #[.agg #[.slice bp ns.length cap], V3 x y z] w (fun e w' => e = .returned (.bool true) ∧ Below w.heap.size w w') := by
  have hsz : ∀ w', Below w.heap.size w w' → Calls Try.prog 5 #[.agg #[.slice bp ns.length cap], .int .i64 1048576] w' (fun e w'' => e = .returned (.int .i64 (szS ns 1048576)) ∧ Below w'.heap.size w' w'') :=
    fun w' hb => sz_shape ns bp nb no cap 1048576 w' (hns.keep hb) (by omega)
  by_cases hneg : szS ns 1048576 < 0
  · have hm := szS_neg hneg
    rw [hm] at hsz
    clear hm hneg hns
    go_enter Try.func4, Try.ntmps4
    go_wp2_with (go_at_call 5; refine (hsz _ (by repeat' (first | exact Below.refl _ _ | exact Nat.le_refl _ | refine below_drewN ?_ _ | refine Below.alloc ?_ (by first | (simp; done) | (simp; omega)) _ | refine Below.setCell ?_ (by first | (simp; done) | (simp; omega)) _ | refine below_step ?_ (by assumption)))).mono ?_; rintro _ w2 ⟨rfl, hb2⟩)
    go_ret
    exact ⟨rfl, (by repeat' (first | exact Below.refl _ _ | exact Nat.le_refl _ | refine below_drewN ?_ _ | refine Below.alloc ?_ (by first | (simp; done) | (simp; omega)) _ | refine Below.setCell ?_ (by first | (simp; done) | (simp; omega)) _ | refine below_step ?_ (by assumption)))⟩
  · obtain ⟨hsm, hnsm⟩ := szS_small (by omega) (by omega) hneg
    have hpos : 0 ≤ szS ns 1048576 := by omega
    clear hneg
    generalize szS ns 1048576 = sz at *
    have hto : ∀ w', Below w.heap.size w w' → Calls Try.prog 7 #[.agg #[.slice bp ns.length cap]] w' (RetSh ns w') := fun w' hb => to_shape ns hsm hnsm bp nb no cap w' (hns.keep hb)
    have hnum : ∀ n ∈ ns, n.nums.length < 10000000 := fun n hn => by have := hnsm n hn; omega
    have hl7 : ns.length < 10000000 := by omega
    obtain ⟨RV, hR⟩ : ∃ RV, RV = (if validF ns then (leafF2 ns (cn .f32 x, cn .f32 y, cn .f32 z) : Int) else 0) := ⟨_, rfl⟩
    obtain ⟨bv, hbv⟩ : ∃ bv, bv = validF ns := ⟨_, rfl⟩
    have hspec : ∀ G (W w' : World), (∀ i (h : i < ns.length), NodeNew ns[i] G (0 + i * 4) W) → Below W.heap.size W w' → Calls Try.prog 11 #[.agg #[.slice (some ⟨G, 0, none⟩) ns.length ns.length], V3 x y z] w' (fun e w'' => e = .returned (.tuple #[.int .i64 RV, .bool bv]) ∧ Below w'.heap.size w' w'') := fun G W w' hn hb => by
      have := s_leafat_any ns hnum (fun h => (valid_ok (by rw [← valid_same]; exact h)).2) G 0 ns.length x y z (some ⟨G, 0, none⟩) w' (fun _ => rfl) (fun i h => ((hn i h).keep hb).into) hl7
      rw [leafat_same, ← hR, valid_same, ← hbv] at this
      exact this
    have himpl : ∀ G (W w' : World), (∀ i (h : i < ns.length), NodeNew ns[i] G (0 + i * 4) W) → Below W.heap.size W w' → Calls Try.prog 12 #[.agg #[.slice (some ⟨G, 0, none⟩) ns.length ns.length], V3 x y z] w' (fun e w'' => e = .returned (.tuple #[.int .i64 RV, .bool bv]) ∧ Below w'.heap.size w' w'') := fun G W w' hn hb => by
      have := leaf_any ns hnum G 0 ns.length x y z (some ⟨G, 0, none⟩) w' (fun _ => rfl) (fun i h => ((hn i h).keep hb).into) hl7
      rw [← hR, ← hbv] at this
      exact this
    clear hR hbv
    have heq : ∀ G H (W1 W2 w' : World), (∀ i (h : i < ns.length), NodeNew ns[i] G (0 + i * 4) W1) → Below W1.heap.size W1 w' → (∀ i (h : i < ns.length), NodeNew ns[i] H (0 + i * 4) W2) → Below W2.heap.size W2 w' → Calls Try.prog 10 #[.agg #[.slice (some ⟨G, 0, none⟩) ns.length ns.length], .agg #[.slice (some ⟨H, 0, none⟩) ns.length ns.length]] w' (fun e w'' => e = .returned (.bool true) ∧ Below w'.heap.size w' w'') :=
      fun G H W1 W2 w' h1 hb1 h2 hb2 => eq_shape ns hsm hnsm G H _ _ w' (fun i h => (h1 i h).keep hb1) (fun i h => (h2 i h).keep hb2)
    clear hnsm hnum hns
    go_enter Try.func4, Try.ntmps4
    go_wp2_with fail
    have Wb : Below w.heap.size w ((w.alloc (.cells #[.slice bp ns.length cap] 24)).alloc (.cells #[.float .f32 x, .float .f32 y, .float .f32 z] 27)) := (by repeat' (first | exact Below.refl _ _ | exact Nat.le_refl _ | refine below_drewN ?_ _ | refine Below.alloc ?_ (by first | (simp; done) | (simp; omega)) _ | refine Below.setCell ?_ (by first | (simp; done) | (simp; omega)) _ | refine below_step ?_ (by assumption)))

    have hkept : Kept [(⟨w.heap.size, 0, none⟩, .slice bp ns.length cap), (⟨w.heap.size + 1, 0, none⟩, .float .f32 x), (⟨w.heap.size + 1, 1, none⟩, .float .f32 y), (⟨w.heap.size + 1, 2, none⟩, .float .f32 z)] [] ((w.alloc (.cells #[.slice bp ns.length cap] 24)).alloc (.cells #[.float .f32 x, .float .f32 y, .float .f32 z] 27)) := by
      simp only [Kept, List.forall_mem_append, List.forall_mem_cons, List.not_mem_nil, false_implies, implies_true, and_true, true_and]; simp
    generalize (w.alloc (.cells #[.slice bp ns.length cap] 24)).alloc (.cells #[.float .f32 x, .float .f32 y, .float .f32 z] 27) = W1 at *
    refine (hsz _ Wb).mono ?_
    rintro _ w2 ⟨rfl, hb2⟩
    have W2b := below_step Wb hb2
    have hkept := keep hkept hb2
    clear hb2 Wb hsz
    go_upto_region 5 with fail
    go_cut [6, 7] from 16 to 23 (fun s6 s7 wx => s6 = .int .i64 RV ∧ s7 = .bool bv ∧ Below w2.heap.size w2 wx)
    case first =>
      have hK := hkept
      simp only [Kept, List.forall_mem_append, List.forall_mem_cons, List.not_mem_nil, false_implies, implies_true, and_true, true_and] at hK
      go_region_with (first
        | (go_at_call 7; (refine (hto _ ?hs1).mono ?_; case hs1 => exact below_step W2b (by repeat' (first | exact Below.refl _ _ | exact Nat.le_refl _ | refine Below.drew ?_ | refine below_drewN ?_ _ | refine Below.alloc ?_ (by first | (simp; done) | (simp; omega)) _ | refine Below.setCell ?_ (by first | (simp; done) | (simp; omega)) _ | refine below_step ?_ (by assumption)))); rintro _ wA ⟨G, rfl, hnew, hG, hb1⟩; have hkept := keepS hkept hb1 rfl; clear hK; have hK := hkept; simp only [Kept, List.forall_mem_append, List.forall_mem_cons, List.not_mem_nil, false_implies, implies_true, and_true, true_and] at hK)
        | (go_at_call 8; refine (to_vector _ _ _ _).mono ?_; rintro _ wB ⟨rfl, hb1⟩; have hkept := keepS hkept hb1 rfl; clear hK; have hK := hkept; simp only [Kept, List.forall_mem_append, List.forall_mem_cons, List.not_mem_nil, false_implies, implies_true, and_true, true_and] at hK)
        | (go_at_call 11; (refine (hspec G wA _ hnew ?hs2).mono ?_; case hs2 => exact (by repeat' (first | exact Below.refl _ _ | exact Nat.le_refl _ | refine Below.drew ?_ | refine below_drewN ?_ _ | refine Below.alloc ?_ (by first | (simp; done) | (simp; omega)) _ | refine Below.setCell ?_ (by first | (simp; done) | (simp; omega)) _ | refine below_step ?_ (by assumption)))); rintro _ wC ⟨rfl, hb1⟩))
      all_goals
        go_wp2_with fail
        go_meet
        case rel => exact ⟨rfl, rfl, (by repeat' (first | exact Below.refl _ _ | exact Nat.le_refl _ | refine Below.drew ?_ | refine below_drewN ?_ _ | refine Below.alloc ?_ (by first | (simp; done) | (simp; omega)) _ | refine Below.setCell ?_ (by first | (simp; done) | (simp; omega)) _ | refine below_step ?_ (by assumption)))⟩
    case rest =>
      obtain ⟨rfl, rfl, hb3⟩ := hcut
      rename World => w3
      have W3b := below_step W2b hb3
      have hkept := keep hkept hb3
      have hK := hkept
      simp only [Kept, List.forall_mem_append, List.forall_mem_cons, List.not_mem_nil, false_implies, implies_true, and_true, true_and] at hK
      clear hb3
      go_upto_region 7 with (go_at_call 7; refine (hto _ W3b).mono ?_; rintro _ wA ⟨G, rfl, hnew, hG, hb1⟩)
      have hbA4 : Below wA.heap.size wA (wA.alloc (.cells #[.slice (some ⟨G, 0, none⟩) ns.length ns.length] 32)) := (Below.refl _ _).alloc (Nat.le_refl _) _
      have hWA := below_step W3b hb1
      have hkeptA := keep hkept hb1
      have hAs : w.heap.size < wA.heap.size := some_lt (a := ⟨w.heap.size, 0, none⟩) (by have hKA := hkeptA; simp only [Kept, List.forall_mem_append, List.forall_mem_cons, List.not_mem_nil, false_implies, implies_true, and_true, true_and] at hKA; rw [hKA.1]; rfl)
      have W4b := below_step hWA hbA4
      have hkept := kept_app (keep hkeptA hbA4) (show Kept [(⟨wA.heap.size, 0, none⟩, .slice (some ⟨G, 0, none⟩) ns.length ns.length)] [] (wA.alloc (.cells #[.slice (some ⟨G, 0, none⟩) ns.length ns.length] 32)) by
        simp only [Kept, List.forall_mem_append, List.forall_mem_cons, List.not_mem_nil, false_implies, implies_true, and_true, true_and]; simp)
      generalize wA.alloc (.cells #[.slice (some ⟨G, 0, none⟩) ns.length ns.length] 32) = W4 at *
      clear hkeptA hK hb1
      refine Qr.wp_below_all (by kernel_rfl) (by kernel_rfl) (PhiLf RV bv) ?_
      repeat (first | (refine Qr.walk_plain rfl fun K hK => ?_; apply Qr.one_det; (focus (intro w' hw'; have HK := keep hkept hw'; simp only [Kept, List.forall_mem_append, List.forall_mem_cons, List.not_mem_nil, false_implies, implies_true, and_true, true_and] at HK; go_simp; first | done | rfl)); go_simp; refine hK _ ?_; clear hK K) | (refine Qr.walk_plain rfl fun K hK => ?_; apply Qr.one_call; (focus (intro w' hw'; go_simp; first | done | exact ⟨rfl, rfl⟩)); (focus (intro w' hw';  go_at_call 8; refine (to_vector _ _ _ _).mono ?_; rintro _ w2 ⟨rfl, hb1⟩; exact ⟨_, rfl, PhiLf.vec _ _ _, hw'.trans (by exact Below.mono (by assumption) hw'.size), by assumption⟩)); intro v hv; cases hv; go_simp; refine hK _ ?_; clear hK K) | (refine Qr.walk_plain rfl fun K hK => ?_; apply Qr.one_call; (focus (intro w' hw'; go_simp; first | done | exact ⟨rfl, rfl⟩)); (focus (intro w' hw';  go_at_call 12; refine (himpl G wA _ hnew (below_step hbA4 hw')).mono ?_; rintro _ w2 ⟨rfl, hb1⟩; exact ⟨_, rfl, PhiLf.leaf _, hw'.trans (by exact Below.mono (by assumption) hw'.size), by assumption⟩)); intro v hv; cases hv; go_simp; refine hK _ ?_; clear hK K))
      refine Qr.walk_nil fun w5 hw5 => ?_
      have W5b := below_step W4b hw5
      have hbA5 := below_step hbA4 hw5
      have hkept := keep hkept hw5
      have hK := hkept
      simp only [Kept, List.forall_mem_append, List.forall_mem_cons, List.not_mem_nil, false_implies, implies_true, and_true, true_and] at hK
      have hRR : (bv != bv) = false := by simp
      clear hw5 hbA4
      go_upto_region 10 with fail
      go_region_with (first
        | (go_at_call 7; (refine (hto _ ?hs1).mono ?_; case hs1 => exact below_step W5b (by repeat' (first | exact Below.refl _ _ | exact Nat.le_refl _ | refine Below.drew ?_ | refine below_drewN ?_ _ | refine Below.alloc ?_ (by first | (simp; done) | (simp; omega)) _ | refine Below.setCell ?_ (by first | (simp; done) | (simp; omega)) _ | refine below_step ?_ (by assumption)))); rintro _ wH ⟨H, rfl, hnewH, hH, hb1⟩; have hkept := keepS hkept hb1 rfl; clear hK; have hK := hkept; simp only [Kept, List.forall_mem_append, List.forall_mem_cons, List.not_mem_nil, false_implies, implies_true, and_true, true_and] at hK)
        | (go_at_call 10; ((refine (heq G H wA wH _ hnew ?hs2 hnewH ?hs3).mono ?_); (case hs2 => exact below_step hbA5 (by repeat' (first | exact Below.refl _ _ | exact Nat.le_refl _ | refine Below.drew ?_ | refine below_drewN ?_ _ | refine Below.alloc ?_ (by first | (simp; done) | (simp; omega)) _ | refine Below.setCell ?_ (by first | (simp; done) | (simp; omega)) _ | refine below_step ?_ (by assumption)))); (case hs3 => exact (by repeat' (first | exact Below.refl _ _ | exact Nat.le_refl _ | refine Below.drew ?_ | refine below_drewN ?_ _ | refine Below.alloc ?_ (by first | (simp; done) | (simp; omega)) _ | refine Below.setCell ?_ (by first | (simp; done) | (simp; omega)) _ | refine below_step ?_ (by assumption))))); rintro _ wC ⟨rfl, hb1⟩))
      all_goals
        go_wp2_with fail
        go_ret
        exact ⟨rfl, below_step W5b (by repeat' (first | exact Below.refl _ _ | exact Nat.le_refl _ | refine Below.drew ?_ | refine below_drewN ?_ _ | refine Below.alloc ?_ (by first | (simp; done) | (simp; omega)) _ | refine Below.setCell ?_ (by first | (simp; done) | (simp; omega)) _ | refine below_step ?_ (by assumption)))⟩
end Go.Proofs.Ytdbpgblhnhdhoaa

namespace Go.Proofs.Ytdbpgblhnhdhoaa
open Go.RowKit Go.Fl Go.ChangeShapes Go.WideShapes Go.ChangeAt

set_option maxRecDepth 100000 in
theorem lifted_leaf (os : Os) (started : os.Started) (H : Type) (enc : TypeId × Value → H) :
    ReturnsInHanded {} Try.checked os 4 .any (Rows.fnExactLeafAtSpec.pre6 enc Try.prog Try.f4 Rows.fnExactLeafAtRow.domain false) (Rows.fnExactLeafAtSpec.post enc Try.prog Try.f4 false true false false) := by
  refine returnsInHanded_of_change (C := Try.checked) own_knob started (by kernel_rfl) Try.func4
    (ChangeSpec.witness6 (enc := enc) (C := Try.checked) false ⟨#[], #[.agg #[.slice none 0 0], .agg #[.float .f32 0, .float .f32 0, .float .f32 0]], []⟩ 8 (by kernel_rfl) (by kernel_rfl) (by kernel_rfl) (by kernel_rfl)) ?_
  intro W base args ds gs before hval0 hW hcnd _
  have hval : ∀ (j : Nat) t v, Try.f4.params[j]? = some t → args[j]? = some v → Value.okWide Try.prog W .any base t v := hval0
  have hW' := hW
  obtain ⟨p, q, hA0, hV, rfl, hfz, hnd⟩ := hW
  have hA : DataW.TrodAll enc Try.prog W 0 (fun _ => true) true Try.f4.params.toList args.toList ds p := hA0
  rw [Try.params4] at hA hval
  obtain ⟨v0, v1, d0, d1, p0, p1, rfl, rfl, rfl, h0, h1⟩ := trodAll_two hA
  obtain ⟨rfl, rfl⟩ := trodVars_none hV
  obtain ⟨ns, bp, nb, no, cap, rfl, hns⟩ := open_shape (hval 0 24 v0 rfl rfl) h0
  obtain ⟨x, y, z, rfl⟩ := open_vector (hval 1 27 v1 rfl rfl) h1
  clear hA0 hval0
  simp only [List.append_nil] at hW'
  have hlt : ∀ m ∈ p0 ++ p1, m.block < W.heap.size := fun m hm => hW'.lt m hm
  refine (law_leaf ns bp nb no cap x y z W hns).mono fun e W' ⟨he, hg⟩ => ?_
  subst he
  refine ⟨_, rfl, post_below (pa := p0 ++ p1) (pv := []) hW' (fun _ _ _ => (trodAll_cons_mk (shut_bool Try.underlying4 _) trodAll_mk0)) (fun sp hsp => ?_) (fun _ _ => rfl) (by simp) hg (ok_one (by kernel_rfl) rfl (okWide_bool_mk Try.underlying4 _))⟩
  exact trodAll_mk2 (WideElems.Trod_stays laid_out (by kernel_rfl) (of_decide_eq_true (by kernel_rfl)) h0 (fun m hm => hg.same (hlt m (List.mem_append_left _ hm))) (fun m hm => hsp m (List.mem_append_left _ hm)))
    (WideElems.Trod_stays laid_out (by kernel_rfl) (of_decide_eq_true (by kernel_rfl)) h1 (fun m hm => hg.same (hlt m (List.mem_append_right _ hm))) (fun m hm => hsp m (List.mem_append_right _ hm)))

set_option maxRecDepth 100000 in
theorem leaf_at_holds : Rows.FnExactLeafAtSaid :=
  OpenClaim.holds_of_wide 4 Try.f4 rfl rfl rfl rfl rfl rfl rfl ⟨rfl, rfl, rfl, rfl, rfl⟩ rfl rfl rfl rfl rfl (by kernel_rfl) Try.func4 (by kernel_rfl)
    (of_decide_eq_true (by kernel_rfl)) (by unfold Func.isWrapper; first | (rw [if_pos (by decide +kernel)]; kernel_rfl) | (rw [if_neg (by decide +kernel)]; exact ⟨rfl, rfl⟩))
    (fun os started H enc _ => lifted_leaf os started H enc)
#print axioms leaf_at_holds
end Go.Proofs.Ytdbpgblhnhdhoaa
