/-
  Shapes, vectors and lists that come in, opened; a row's last step.
-/
import Derived.Test.YtdbpgblhnhdhoaaGreatGR
import Derived.Test.YtdbpgblhnhdhoaaGreatRows
import Derived.ProofKit
import Derived.OpenShut
import Derived.Deep.Slices
import Derived.Deep.Fields
import Derived.ChangeSame
import Derived.Carry
import Derived.WalkKit
set_option linter.unusedVariables false
set_option linter.unusedSimpArgs false
namespace Go.Proofs.YtdbpgblhnhdhoaaGreat
open Go.RowKit Go.Fl Go.ChangeShapes Go.WideShapes Go.Deep

section
variable {H : Type} {enc : TypeId × Value → H} {P : Program} {w : World} {base : Nat} {spare : Nat → Bool} {held : Bool}

theorem trod_flt {t : TypeId} {k : FloatKind} {fuel : Nat} {cs : List Value} {x : DataW H × List MemPlace} (ht : P.underlying t = some (.float k)) (h : DataW.trod enc P w base spare held fuel t cs = some x) : ∃ b, cs = [.float k b] := by
  cases fuel with
  | zero => simp [DataW.trod] at h
  | succ n =>
    unfold DataW.trod at h
    rw [ht] at h
    split at h <;> simp_all

theorem add_off (a : Addr) (i j : Nat) (h : a.spot = none) : (a.add i).add j = ⟨a.block, a.off + i + j, none⟩ := by
  obtain ⟨b, o, s⟩ := a
  simp only at h
  subst h
  rw [Go.WideShapes.add_plain, Go.WideShapes.add_plain]
end

theorem four {α : Type} {l : List α} (h : l.length = 4) : ∃ a b c d, l = [a, b, c, d] := by
  match l, h with
  | [a, b, c, d], _ => exact ⟨a, b, c, d, rfl⟩

theorem list_of {Pp : Nat → PN → Prop} : ∀ n, (∀ i, i < n → ∃ x, Pp i x) → ∃ ns : List PN, ns.length = n ∧ ∀ i (h : i < ns.length), Pp i ns[i]
  | 0, _ => ⟨[], rfl, fun i h => by simp at h⟩
  | n + 1, h => by
    obtain ⟨ns, h1, h2⟩ := list_of n (fun i hi => h i (by omega))
    obtain ⟨x, hx⟩ := h n (by omega)
    refine ⟨ns ++ [x], by simp [h1], fun i hi => ?_⟩
    by_cases e : i < ns.length
    · rw [List.getElem_append_left e]; exact h2 i e
    · have : i = n := by simp at hi; omega
      subst this
      rw [List.getElem_append_right (by omega)]
      simpa [h1] using hx

theorem nats_of {Pp : Nat → Nat → Prop} : ∀ n, (∀ i, i < n → ∃ x, Pp i x) → ∃ ns : List Nat, ns.length = n ∧ ∀ i (h : i < ns.length), Pp i ns[i]
  | 0, _ => ⟨[], rfl, fun i h => by simp at h⟩
  | n + 1, h => by
    obtain ⟨ns, h1, h2⟩ := nats_of n (fun i hi => h i (by omega))
    obtain ⟨x, hx⟩ := h n (by omega)
    refine ⟨ns ++ [x], by simp [h1], fun i hi => ?_⟩
    by_cases e : i < ns.length
    · rw [List.getElem_append_left e]; exact h2 i e
    · have : i = n := by simp at hi; omega
      subst this
      rw [List.getElem_append_right (by omega)]
      simpa [h1] using hx

/-- A list of numbers that came in. -/
theorem open_nums {H : Type} {enc : TypeId × Value → H} {w : World} {base fuel : Nat} {spare : Nat → Bool} {held : Bool} {cs : List Value} {x : DataW H × List MemPlace} (h : DataW.trod enc Tryz.prog w base spare held fuel 151 cs = some x) :
    ∃ (xs : List Nat) (bp : Option Addr) (bv ov cap : Nat), cs = [.slice bp xs.length cap] ∧ xs.length ≤ maxLen ∧ (xs ≠ [] → bp = some ⟨bv, ov, none⟩) ∧ ∀ i (h : i < xs.length), w.cell? ⟨bv, ov + i, none⟩ = some (.float .f32 xs[i]) := by
  rcases open_slice1 Tryz.underlying151 (by kernel_rfl) h with ⟨rfl, -⟩ | ⟨a, len, cap, m, n, V, D, Pl, rfl, -, hlc, hcm, hmm, -, hcell⟩
  · exact ⟨[], none, 0, 0, 0, rfl, Nat.zero_le _, fun h => absurd rfl h, fun i hi => by simp at hi⟩
  · have hm : len ≤ m := by rw [hmm]; split <;> omega
    have hx : ∀ i, i < len → ∃ b, w.cell? (a.add i) = some (.float .f32 b) := fun i hi => by
      obtain ⟨h1, h2⟩ := hcell i (by omega)
      obtain ⟨b, hb⟩ := trod_flt Tryz.underlying25 h2
      injection hb with hb
      exact ⟨b, by rw [h1, hb]⟩
    obtain ⟨xs, rfl, hxs⟩ := nats_of len hx
    obtain ⟨b, off, spot⟩ := a
    refine ⟨xs, some ⟨b, off, spot⟩, b, off, cap, rfl, by omega, fun hne => ?_, fun i hi => ?_⟩
    · have h0 : 0 < xs.length := List.length_pos_iff.2 hne
      have := World.cell?_spot (hxs 0 h0)
      have hspot : spot = none := by simpa [Addr.add] using this
      rw [hspot]
    · have h0 : 0 < xs.length := by omega
      have := World.cell?_spot (hxs 0 h0)
      have hspot : spot = none := by simpa [Addr.add] using this
      subst hspot
      rw [← Go.WideShapes.add_plain]
      exact hxs i hi

theorem trod_i64 {H : Type} {enc : TypeId × Value → H} {w : World} {base fuel : Nat} {spare : Nat → Bool} {held : Bool} {cs : List Value} {x : DataW H × List MemPlace} (h : DataW.trod enc Tryz.prog w base spare held fuel 2 cs = some x) : ∃ n, cs = [.int .i64 n] := by
  obtain ⟨n, h1, -⟩ := DataW.trod_int Tryz.underlying2 h
  exact ⟨n, h1⟩

set_option maxRecDepth 100000 in
/-- A list of nodes that came in. -/
theorem open_nodes {H : Type} {enc : TypeId × Value → H} {w : World} {base fuel : Nat} {spare : Nat → Bool} {held : Bool} {cs : List Value} {x : DataW H × List MemPlace} (h : DataW.trod enc Tryz.prog w base spare held fuel 22 cs = some x) :
    ∃ (ns : List PN) (bp : Option Addr) (nb no cap : Nat), cs = [.slice bp ns.length cap] ∧ NodesIn ns bp nb no w := by
  rcases open_slice Tryz.underlying22 h with ⟨rfl, -⟩ | ⟨a, len, cap, m, n, D, Pl, rfl, -, hlc, hcm, hmm, -, hel⟩
  · exact ⟨[], none, 0, 0, 0, rfl, fun h => absurd rfl h, fun i hi => by simp at hi, Nat.zero_le _, fun n hn => by cases hn⟩
  · have hm : len ≤ m := by rw [hmm]; split <;> omega
    have hC : Tryz.prog.cellsOf 153 = 4 := by kernel_rfl
    have hx : ∀ i, i < len → ∃ n : PN, (a.spot = none ∧ NodeIn n a.block (a.off + i * 4) w) ∧ n.nums.length ≤ maxLen := fun i hi => by
      obtain ⟨cs', hc, ht⟩ := hel i (by omega)
      rw [hC] at hc
      obtain ⟨-, hcl, hat⟩ := World.cells?_some hc
      obtain ⟨ys, n', -, -, -, hyl, hf⟩ := DataW.trod_struct Tryz.underlying153 ht
      obtain ⟨c0, c1, c2, c3, rfl⟩ := four hcl
      obtain ⟨y0, y1, y2, y3, rfl⟩ := four (hyl.trans rfl)
      obtain ⟨cs0, hz, -⟩ := hel 0 (by omega)
      rw [hC] at hz
      obtain ⟨-, hzl, hzat⟩ := World.cells?_some hz
      have hz0 := hzat 0 (by omega)
      have hspot : a.spot = none := by
        obtain ⟨z0, z1, z2, z3, rfl⟩ := four hzl
        have := World.cell?_spot (show w.cell? ((a.add (0 * 4)).add 0) = some z0 from hz0)
        simpa [Addr.add] using this
      have f0 := hf 0 _ rfl
      have f1 := hf 1 _ rfl
      have f2 := hf 2 _ rfl
      have f3 := hf 3 _ rfl
      have t0 : DataW.trod enc Tryz.prog w base spare held n' 2 [c0] = some y0 := f0
      have t1 : DataW.trod enc Tryz.prog w base spare held n' 2 [c1] = some y1 := f1
      have t2 : DataW.trod enc Tryz.prog w base spare held n' 2 [c2] = some y2 := f2
      have t3 : DataW.trod enc Tryz.prog w base spare held n' 151 [c3] = some y3 := f3
      obtain ⟨k, e0⟩ := trod_i64 t0
      obtain ⟨na, e1⟩ := trod_i64 t1
      obtain ⟨nb, e2⟩ := trod_i64 t2
      obtain ⟨xs, bp, bv, ov, cp, e3, hxl, hp, hcells⟩ := open_nums t3
      injection e0 with e0
      injection e1 with e1
      injection e2 with e2
      injection e3 with e3
      have hc0 := hat 0 (by omega)
      have hc1 := hat 1 (by omega)
      have hc2 := hat 2 (by omega)
      have hc3 := hat 3 (by omega)
      have had : ∀ j, (a.add (i * 4)).add j = ⟨a.block, a.off + i * 4 + j, none⟩ := fun j => by exact add_off a (i * 4) j hspot
      rw [had] at hc0 hc1 hc2 hc3
      rw [Nat.add_zero] at hc0
      refine ⟨⟨k, na, nb, xs⟩, ⟨hspot, ⟨?_, ?_, ?_, bp, bv, ov, cp, ?_, hp, hcells⟩⟩, hxl⟩
      · rw [hc0, ← e0]; rfl
      · rw [hc1, ← e1]; rfl
      · rw [hc2, ← e2]; rfl
      · rw [hc3, ← e3]; rfl
    obtain ⟨ns, rfl, hns⟩ := list_of len hx
    refine ⟨ns, some a, a.block, a.off, cap, rfl, fun hne => ?_, fun i hi => (hns i hi).1.2, by omega, fun n hn => ?_⟩
    · have h0 : 0 < ns.length := List.length_pos_iff.2 hne
      have := (hns 0 h0).1.1
      obtain ⟨b, o, s⟩ := a
      simp only at this
      rw [this]
    · obtain ⟨i, hi, rfl⟩ := List.getElem_of_mem hn
      exact (hns i hi).2

theorem three {α : Type} {l : List α} (h : l.length = 3) : ∃ a b c, l = [a, b, c] := by
  match l, h with
  | [a, b, c], _ => exact ⟨a, b, c, rfl⟩
theorem uno {α : Type} {l : List α} (h : l.length = 1) : ∃ a, l = [a] := by
  match l, h with
  | [a], _ => exact ⟨a, rfl⟩

set_option maxRecDepth 100000 in
/-- A shape that came in. -/
theorem open_shape {H : Type} {enc : TypeId × Value → H} {w : World} {base b0 : Nat} {r : Reach} {spare : Nat → Bool} {held : Bool} {v : Value} {d : DataW H} {p : List MemPlace} (hv : Value.okWide Tryz.prog w r b0 24 v) (h : DataW.Trod enc Tryz.prog w base spare held 24 v d p) :
    ∃ (ns : List PN) (bp : Option Addr) (nb no cap : Nat), v = .agg #[.slice bp ns.length cap] ∧ NodesIn ns bp nb no w := by
  obtain ⟨cs, rfl, hsz⟩ := okWide_struct Tryz.underlying24 hv
  have hC : Tryz.prog.cellsOf 24 = 1 := by kernel_rfl
  obtain ⟨l⟩ := cs
  obtain ⟨c0, rfl⟩ := uno (show l.length = 1 from hsz.trans hC)
  obtain ⟨fuel, hf⟩ := h
  obtain ⟨ys, n', -, -, -, hyl, hg⟩ := DataW.trod_struct Tryz.underlying24 hf
  obtain ⟨y0, rfl⟩ := uno (hyl.trans rfl)
  have f0 := hg 0 _ rfl
  have t0 : DataW.trod enc Tryz.prog w base spare held n' 22 [c0] = some y0 := f0
  obtain ⟨ns, bp, nb, no, cap, e, hns⟩ := open_nodes t0
  injection e with e
  exact ⟨ns, bp, nb, no, cap, by rw [e], hns⟩

set_option maxRecDepth 100000 in
/-- A vector that came in. -/
theorem open_vector {H : Type} {enc : TypeId × Value → H} {w : World} {base b0 : Nat} {r : Reach} {spare : Nat → Bool} {held : Bool} {v : Value} {d : DataW H} {p : List MemPlace} (hv : Value.okWide Tryz.prog w r b0 27 v) (h : DataW.Trod enc Tryz.prog w base spare held 27 v d p) :
    ∃ x y z : Nat, v = V3 x y z := by
  obtain ⟨cs, rfl, hsz⟩ := okWide_struct Tryz.underlying27 hv
  have hC : Tryz.prog.cellsOf 27 = 3 := by kernel_rfl
  obtain ⟨l⟩ := cs
  obtain ⟨c0, c1, c2, rfl⟩ := three (show l.length = 3 from hsz.trans hC)
  obtain ⟨fuel, hf⟩ := h
  obtain ⟨ys, n', -, -, -, hyl, hg⟩ := DataW.trod_struct Tryz.underlying27 hf
  obtain ⟨y0, y1, y2, rfl⟩ := three (hyl.trans rfl)
  have t0 : DataW.trod enc Tryz.prog w base spare held n' 25 [c0] = some y0 := hg 0 _ rfl
  have t1 : DataW.trod enc Tryz.prog w base spare held n' 25 [c1] = some y1 := hg 1 _ rfl
  have t2 : DataW.trod enc Tryz.prog w base spare held n' 25 [c2] = some y2 := hg 2 _ rfl
  obtain ⟨x, e0⟩ := trod_flt Tryz.underlying25 t0
  obtain ⟨y, e1⟩ := trod_flt Tryz.underlying25 t1
  obtain ⟨z, e2⟩ := trod_flt Tryz.underlying25 t2
  injection e0 with e0
  injection e1 with e1
  injection e2 with e2
  exact ⟨x, y, z, by rw [e0, e1, e2]⟩

open Go.RowKit Go.Fl Go.ChangeShapes Go.WideShapes Go.ChangeAt

theorem own_knob : ownKnob Tryz.prog.godebug = none := by kernel_rfl
theorem laid_out : laidOutB Tryz.prog = true := by kernel_rfl

/-- The row's last step where nothing has turned that was there. -/
theorem post_below {H : Type} {enc : TypeId × Value → H} {P : Program} {f : Func} {s : ChangeSpec} {apart fresh handsOn again : Bool} {W W' : World} {args : Array Value} {v : Value} {ds gs : List (DataW H)} {before pa pv : List MemPlace}
    (hW : DataW.Whole enc P f.params.toList s.vars apart W args.toList ds gs before)
    (hres : ∀ (b : Nat) (sp : Nat → Bool) (hd : Bool), DataW.TrodAll enc P W' b sp hd f.resultTypes.toList (v.resultList f.resultTypes.size) (s.fn H (ds ++ gs)).results [])
    (hargs : ∀ sp : Nat → Bool, (∀ p ∈ before, sp p.block = true) → DataW.TrodAll enc P W' 0 sp true f.params.toList args.toList (s.fn H (ds ++ gs)).args pa)
    (hvars : ∀ sp : Nat → Bool, (∀ p ∈ before, sp p.block = true) → DataW.TrodVars enc P W' sp s.vars (s.fn H (ds ++ gs)).vars pv)
    (hps : before = pa ++ pv) (hb : Below W.heap.size W W')
    (hok : ∀ (j : Nat) (t : TypeId) (r : Value), f.resultTypes[j]? = some t → (v.resultList f.resultTypes.size)[j]? = some r → Value.okWide P W' .any 0 t r) :
    s.post enc P f apart fresh handsOn again W args v W' := by
  have hold : ∀ p ∈ before, (fun b => decide (b < W.heap.size)) p.block = true := fun p hp => by simpa using hW.lt p hp
  refine ⟨ds, gs, before, [], pa, pv, hW, hres _ _ _, hargs _ hold, hvars _ hold, World.keptBut_mono (fun p hp => ⟨hp, ?_⟩) (hb.frame (· ∈ before)), fun _ => ?_⟩
  · rw [hps, List.mem_append] at hp
    exact .inr hp
  · have hlt : ∀ p ∈ before, p.block < W.heap.size := fun p hp => hW.lt p hp
    obtain ⟨_, _, _, _, _, hz, hn⟩ := hW
    refine ⟨hok, _, _, ([] ++ pa) ++ pv, ⟨[] ++ pa, pv, trodAll_append (hargs _ (fun _ _ => rfl)) (hres _ _ _), hvars _ (fun _ _ => rfl), rfl, ?_, ?_⟩, ?_⟩
    · intro b off hp
      have hin : MemPlace.cell b off ∈ before := by rw [hps]; simpa using hp
      have h1 := hlt _ hin
      rw [hb.frozen h1]
      exact hz b off hin
    · intro ha
      have := hn ha
      rw [hps] at this
      simpa using this
    · intro p hp _
      rw [hps]
      simpa using hp

end Go.Proofs.YtdbpgblhnhdhoaaGreat
