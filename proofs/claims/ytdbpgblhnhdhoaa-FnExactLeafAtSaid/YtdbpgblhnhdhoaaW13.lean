/-
  Walks: distance.
-/
import Derived.Test.YtdbpgblhnhdhoaaW12
set_option linter.unusedVariables false
set_option linter.unusedSimpArgs false
namespace Go.Proofs.Ytdbpgblhnhdhoaa
open Go.RowKit Go.Fl

theorem point_all {n : PN} {b o : Nat} {w : World} (hn : NodeIn n b o w) (hok : n.ok) (hc : (ruleF n.kind).2.1 = 1) (x y z : Nat) :
    Calls Try.prog 24 #[.pointer (some ⟨b, o, none⟩), V3 x y z] w (RetV (pointF n (cn .f32 x, cn .f32 y, cn .f32 z)).1 (pointF n (cn .f32 x, cn .f32 y, cn .f32 z)).2.1 (pointF n (cn .f32 x, cn .f32 y, cn .f32 z)).2.2 w) := by
  by_cases h15 : n.kind = 15
  · obtain ⟨bp, bv, ov, cap, h1, h2, h3⟩ := hn.nums
    have hk := hn.kind
    have hB := hn.b
    have hax := hok.axis
    obtain ⟨k, na, nb, nums⟩ := n
    simp only at *
    subst h15
    have hb0 : nb = 0 := by
      rcases hax with h | h | ⟨h, _⟩
      · exact absurd h (by decide)
      · exact h
      · exact absurd h (by decide)
    subst hb0
    exact point_round (kof (by simp only [List.forall_mem_cons, List.not_mem_nil, false_implies, implies_true, and_true]; exact ⟨hk, hB, h1⟩))
  by_cases h16 : n.kind = 16
  · obtain ⟨bp, bv, ov, cap, h1, h2, h3⟩ := hn.nums
    have hk := hn.kind
    have hB := hn.b
    have hax := hok.axis
    obtain ⟨k, na, nb, nums⟩ := n
    simp only at *
    subst h16
    have hb0 : nb = 0 := by
      rcases hax with h | h | ⟨h, _⟩
      · exact absurd h (by decide)
      · exact h
      · exact absurd h (by decide)
    subst hb0
    exact point_shell (kof (by simp only [List.forall_mem_cons, List.not_mem_nil, false_implies, implies_true, and_true]; exact ⟨hk, hB, h1⟩))
  exact point_node hn hok hc h15 h16 x y z

/-- A list of nodes lies behind a slice at a place. -/
structure ShapeIn (ns : List PN) (sb so nb no cap : Nat) (w : World) : Prop where
  list : w.cell? ⟨sb, so, none⟩ = some (.slice (some ⟨nb, no, none⟩) ns.length cap)
  node : ∀ i (h : i < ns.length), NodeIn ns[i] nb (no + i * 4) w

theorem ShapeIn.keep {ns : List PN} {sb so nb no cap : Nat} {w w' : World} (h : ShapeIn ns sb so nb no cap w) (hb : Below w.heap.size w w') : ShapeIn ns sb so nb no cap w' :=
  ⟨by rw [lift hb _ (by rw [h.list]; rfl)]; exact h.list, fun i hi => (h.node i hi).keep hb⟩

/-- Every node is right, its children lie ahead of it. -/
def OkAll (ns : List PN) : Prop := ∀ i (h : i < ns.length), ns[i].ok ∧ ((ruleF ns[i].kind).2.1 ≠ 0 → 0 ≤ ns[i].a ∧ ns[i].a < i) ∧ ((ruleF ns[i].kind).2.1 = 2 → 0 ≤ ns[i].b ∧ ns[i].b < i)

def distF (ns : List PN) : Nat → Nat → Nat × Nat × Nat → Nat
  | 0, _, _ => 0
  | f + 1, i, p =>
    match ns[i]? with
    | none => 0
    | some n =>
      match (ruleF n.kind).2.1 with
      | 0 => leafF n p.1 p.2.1 p.2.2
      | 1 => mixF n (distF ns f n.a.toNat (pointF n p)) 0
      | _ => mixF n (distF ns f n.a.toNat p) (distF ns f n.b.toNat p)

inductive PhiD (ns : List PN) (f : Nat) (n : PN) : FuncId → Array Value → Value → Prop
  | dist (sa : Addr) (i : Int) (x y z r : Nat) (h : cn .f32 r = distF ns f i.toNat (cn .f32 x, cn .f32 y, cn .f32 z)) : PhiD ns f n 25 #[.pointer (some sa), .int .i64 i, V3 x y z] (F1 r)
  | point (pa : Addr) (x y z a b c : Nat) (h1 : cn .f32 a = (pointF n (cn .f32 x, cn .f32 y, cn .f32 z)).1) (h2 : cn .f32 b = (pointF n (cn .f32 x, cn .f32 y, cn .f32 z)).2.1) (h3 : cn .f32 c = (pointF n (cn .f32 x, cn .f32 y, cn .f32 z)).2.2) : PhiD ns f n 24 #[.pointer (some pa), V3 x y z] (V3 a b c)
  | mix (pa : Addr) (x y r : Nat) (h : cn .f32 r = mixF n (cn .f32 x) (cn .f32 y)) : PhiD ns f n 48 #[.pointer (some pa), F1 x, F1 y] (F1 r)

set_option maxRecDepth 100000 in
set_option maxHeartbeats 2000000 in
theorem dist_any (ns : List PN) (hok : OkAll ns) (sb so nb no cap : Nat) : ∀ (f i x y z : Nat) (w : World), i < f → i < ns.length → ShapeIn ns sb so nb no cap w →
    Calls Try.prog 25 #[.pointer (some ⟨sb, so, none⟩), .int .i64 i, V3 x y z] w (Ret .f32 (distF ns f i (cn .f32 x, cn .f32 y, cn .f32 z)) w) := by
  intro f
  induction f with
  | zero => intro i _ _ _ _ h; omega
  | succ f ih =>
    intro i x y z w hif hin hsh
    have hlist := hsh.list
    have hn := hsh.node i hin
    obtain ⟨hokn, hca, hcb⟩ := hok i hin
    have hget : ns[i]? = some ns[i] := List.getElem?_eq_getElem hin
    have hi0 : (0 : Int) ≤ (i : Int) := by omega
    have hin' : (i : Int) < (ns.length : Int) := by omega
    generalize ns[i] = n at *
    have hkind := hn.kind
    have hA := hn.a
    have hB := hn.b
    have hnb : nb < w.heap.size := some_lt (a := ⟨nb, no + i * 4, none⟩) (by rw [hkind]; rfl)
    have hsb : sb < w.heap.size := some_lt (a := ⟨sb, so, none⟩) (by rw [hlist]; rfl)
    go_enter Try.func25, Try.ntmps25
    go_wp2_with fail
    have W1b : Below w.heap.size w (w.alloc (.cells #[.float .f32 x, .float .f32 y, .float .f32 z] 34)) := (by repeat' (first | exact Below.refl _ _ | exact Nat.le_refl _ | refine below_drewN ?_ _ | refine Below.alloc ?_ (by first | (simp; done) | (simp; omega)) _ | refine Below.setCell ?_ (by first | (simp; done) | (simp; omega)) _ | refine below_step ?_ (by assumption)))

    have hbox : Kept [(⟨w.heap.size, 0, none⟩, .float .f32 x), (⟨w.heap.size, 1, none⟩, .float .f32 y), (⟨w.heap.size, 2, none⟩, .float .f32 z)] [] (w.alloc (.cells #[.float .f32 x, .float .f32 y, .float .f32 z] 34)) := by
      simp only [Kept, List.forall_mem_append, List.forall_mem_cons, List.not_mem_nil, false_implies, implies_true, and_true, true_and]
      simp
    generalize w.alloc (.cells #[.float .f32 x, .float .f32 y, .float .f32 z] 34) = W1 at W1b hbox ⊢
    have hn1 := hn.keep W1b
    refine (children_any nb (no + i * 4) n.kind n.a n.b W1 hn1.kind hn1.a hn1.b).mono ?_
    rintro _ w2 ⟨g, rfl, -, -, -, hb2⟩
    have W2b := below_step W1b hb2
    have hn2 := hn.keep W2b
    have hsh2 := hsh.keep W2b
    have hbox := keep hbox hb2
    have hK := hbox
    have hkind := hn2.kind
    have hA := hn2.a
    have hB := hn2.b
    simp only [Kept, List.forall_mem_append, List.forall_mem_cons, List.not_mem_nil, false_implies, implies_true, and_true, true_and] at hK
    clear hb2 hn1 W1b hlist
    have hc3 : (ruleF n.kind).2.1 = 0 ∨ (ruleF n.kind).2.1 = 1 ∨ (ruleF n.kind).2.1 = 2 := by
      unfold ruleF; split
      · unfold ruleT; split <;> simp
      · simp
    have hd : ∀ p, distF ns (f + 1) i p = match (ruleF n.kind).2.1 with
      | 0 => leafF n p.1 p.2.1 p.2.2
      | 1 => mixF n (distF ns f n.a.toNat (pointF n p)) 0
      | _ => mixF n (distF ns f n.a.toNat p) (distF ns f n.b.toNat p) := fun p => by
      rw [distF, hget]
    have ihA : (ruleF n.kind).2.1 ≠ 0 → ∀ (x y z : Nat) (w : World), ShapeIn ns sb so nb no cap w → Calls Try.prog 25 #[.pointer (some ⟨sb, so, none⟩), .int .i64 n.a, V3 x y z] w (Ret .f32 (distF ns f n.a.toNat (cn .f32 x, cn .f32 y, cn .f32 z)) w) := fun h x y z w hs => by
      have h1 := hca h
      have h2 := ih n.a.toNat x y z w (by omega) (by omega) hs
      rwa [Int.toNat_of_nonneg h1.1] at h2
    have ihB : (ruleF n.kind).2.1 = 2 → ∀ (x y z : Nat) (w : World), ShapeIn ns sb so nb no cap w → Calls Try.prog 25 #[.pointer (some ⟨sb, so, none⟩), .int .i64 n.b, V3 x y z] w (Ret .f32 (distF ns f n.b.toNat (cn .f32 x, cn .f32 y, cn .f32 z)) w) := fun h x y z w hs => by
      have h1 := hcb h
      have h2 := ih n.b.toNat x y z w (by omega) (by omega) hs
      rwa [Int.toNat_of_nonneg h1.1] at h2
    have hkept : Kept [(⟨nb, no + i * 4 + 1, none⟩, .int .i64 n.a), (⟨nb, no + i * 4 + 2, none⟩, .int .i64 n.b), (⟨w.heap.size, 0, none⟩, .float .f32 x), (⟨w.heap.size, 1, none⟩, .float .f32 y), (⟨w.heap.size, 2, none⟩, .float .f32 z)] [] w2 := by
      simp only [Kept, List.forall_mem_append, List.forall_mem_cons, List.not_mem_nil, false_implies, implies_true, and_true, true_and]
      exact ⟨hA, hB, hK⟩
    clear ih hok hca hcb hsh hn
    rcases hc3 with hc | hc | hc
    · have hd := hd (cn .f32 x, cn .f32 y, cn .f32 z)
      rw [hc] at hd ⊢
      go_wp2_with fail
      refine (leaf_node hn2 hokn hc x y z).mono ?_
      rintro _ w3 ⟨r, rfl, hr, hb3⟩
      go_wp2_with fail
      go_ret
      exact ⟨_, rfl, by rw [hr, hd], below_step W2b hb3⟩
    · have hd := hd (cn .f32 x, cn .f32 y, cn .f32 z)
      rw [hc] at hd ⊢
      have ihA := ihA (by rw [hc]; decide)
      go_wp2_with fail
      refine Qr.wp_below_all (by kernel_rfl) (by kernel_rfl) (PhiD ns f n) ?_
      repeat (first | (refine Qr.walk_plain rfl fun K hK => ?_; apply Qr.one_det; (focus (intro w' hw'; have HK := keep hkept hw'; simp only [Kept, List.forall_mem_append, List.forall_mem_cons, List.not_mem_nil, false_implies, implies_true, and_true, true_and] at HK; go_simp; first | done | rfl)); go_simp; refine hK _ ?_; clear hK K) | (refine Qr.walk_plain rfl fun K hK => ?_; apply Qr.one_call; (focus (intro w' hw'; go_simp; first | done | exact ⟨rfl, rfl⟩)); (focus (intro w' hw';  go_at_call 24; refine (point_all (hn2.keep hw') hokn hc _ _ _).mono ?_; rintro _ w3 ⟨r1, r2, r3, rfl, hr1, hr2, hr3, hb1⟩ ; exact ⟨_, rfl, by constructor <;> assumption, hw'.trans (by exact Below.mono (by assumption) hw'.size), by assumption⟩)); intro v hv; cases hv; go_simp; refine hK _ ?_; clear hK K) | (refine Qr.walk_plain rfl fun K hK => ?_; apply Qr.one_call; (focus (intro w' hw'; go_simp; first | done | exact ⟨rfl, rfl⟩)); (focus (intro w' hw';  go_at_call 25; refine (ihA _ _ _ _ (hsh2.keep hw')).mono ?_; rintro _ w3 ⟨r1, rfl, hr1, hb1⟩ ; exact ⟨_, rfl, by constructor <;> assumption, hw'.trans (by exact Below.mono (by assumption) hw'.size), by assumption⟩)); intro v hv; cases hv; go_simp; refine hK _ ?_; clear hK K) | (refine Qr.walk_plain rfl fun K hK => ?_; apply Qr.one_call; (focus (intro w' hw'; go_simp; first | done | exact ⟨rfl, rfl⟩)); (focus (intro w' hw';  go_at_call 48; refine (mix_node (hn2.keep hw') hokn (by rw [hc]; decide) _ _).mono ?_; rintro _ w3 ⟨r1, rfl, hr1, hb1⟩ ; exact ⟨_, rfl, by constructor <;> assumption, hw'.trans (by exact Below.mono (by assumption) hw'.size), by assumption⟩)); intro v hv; cases hv; go_simp; refine hK _ ?_; clear hK K))
      rename_i a1 b1 c1 h1 h2 h3 r1 e1 r e
      refine Qr.walk_nil fun w5 hw5 => ?_
      go_wp2_with fail
      go_ret
      exact ⟨r, rfl, by rw [hd, e, e1, h1, h2, h3, cn_zero], below_step W2b hw5⟩
    · have hd := hd (cn .f32 x, cn .f32 y, cn .f32 z)
      rw [hc] at hd ⊢
      have ihA := ihA (by rw [hc]; decide)
      have ihB := ihB hc
      have ihAB : ∀ c : Int, c = n.a ∨ c = n.b → ∀ (x y z : Nat) (w : World), ShapeIn ns sb so nb no cap w → Calls Try.prog 25 #[.pointer (some ⟨sb, so, none⟩), .int .i64 c, V3 x y z] w (Ret .f32 (distF ns f c.toNat (cn .f32 x, cn .f32 y, cn .f32 z)) w) := by
        intro c hc
        rcases hc with h | h <;> subst h
        · exact ihA
        · exact ihB
      clear ihA ihB
      go_wp2_with fail
      refine Qr.wp_below_all (by kernel_rfl) (by kernel_rfl) (PhiD ns f n) ?_
      repeat (first | (refine Qr.walk_plain rfl fun K hK => ?_; apply Qr.one_det; (focus (intro w' hw'; have HK := keep hkept hw'; simp only [Kept, List.forall_mem_append, List.forall_mem_cons, List.not_mem_nil, false_implies, implies_true, and_true, true_and] at HK; go_simp; first | done | rfl)); go_simp; refine hK _ ?_; clear hK K) | (refine Qr.walk_plain rfl fun K hK => ?_; apply Qr.one_call; (focus (intro w' hw'; go_simp; first | done | exact ⟨rfl, rfl⟩)); (focus (intro w' hw';  go_at_call 25; refine (ihAB _ (by first | exact Or.inl rfl | exact Or.inr rfl) _ _ _ _ (hsh2.keep hw')).mono ?_; rintro _ w3 ⟨r1, rfl, hr1, hb1⟩ ; exact ⟨_, rfl, by constructor <;> assumption, hw'.trans (by exact Below.mono (by assumption) hw'.size), by assumption⟩)); intro v hv; cases hv; go_simp; refine hK _ ?_; clear hK K) | (refine Qr.walk_plain rfl fun K hK => ?_; apply Qr.one_call; (focus (intro w' hw'; go_simp; first | done | exact ⟨rfl, rfl⟩)); (focus (intro w' hw';  go_at_call 48; refine (mix_node (hn2.keep hw') hokn (by rw [hc]; decide) _ _).mono ?_; rintro _ w3 ⟨r1, rfl, hr1, hb1⟩ ; exact ⟨_, rfl, by constructor <;> assumption, hw'.trans (by exact Below.mono (by assumption) hw'.size), by assumption⟩)); intro v hv; cases hv; go_simp; refine hK _ ?_; clear hK K))
      rename_i r1 e1 r2 e2 r e
      refine Qr.walk_nil fun w5 hw5 => ?_
      go_wp2_with fail
      go_ret
      exact ⟨r, rfl, by rw [hd, e, e1, e2], below_step W2b hw5⟩

end Go.Proofs.Ytdbpgblhnhdhoaa
