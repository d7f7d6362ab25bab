/-
  For every input, laws.FnExactIsInside returns true, and its arguments read behind the call as they read before. No further condition.
-/
import Derived.Test.YtdbpgblhnhdhoaaL6
import Derived.Test.YtdbpgblhnhdhoaaRows
import Derived.ProofKit
import Derived.OpenShut
import Derived.Deep.Slices
import Derived.Deep.Fields
import Derived.ChangeSame
import Derived.Carry
import Derived.WalkKit
set_option linter.unusedVariables false
set_option linter.unusedSimpArgs false
namespace Go.Proofs.Ytdbpgblhnhdhoaa
open Go.RowKit Go.Fl Go.ChangeShapes Go.WideShapes Go.Deep

section
variable {H : Type} {enc : TypeId × Value → H} {P : Program} {w : World} {base : Nat} {spare : Nat → Bool} {held : Bool}

theorem trod_flt {t : TypeId} {k : FloatKind} {fuel : Nat} {cs : List Value} {x : DataW H × List MemPlace} (ht : P.underlying t = some (.float k)) (h : DataW.trod enc P w base spare held fuel t cs = some x) : ∃ b, cs = [.float k b] := by
  cases fuel with
  | zero => simp [DataW.trod] at h
  | succ n =>
    unfold DataW.trod at h
    rw [ht] at h
    split at h <;> simp_all

theorem add_off (a : Addr) (i j : Nat) (h : a.spot = none) : (a.add i).add j = ⟨a.block, a.off + i + j, none⟩ := by
  obtain ⟨b, o, s⟩ := a
  simp only at h
  subst h
  rw [Go.WideShapes.add_plain, Go.WideShapes.add_plain]
end

theorem four {α : Type} {l : List α} (h : l.length = 4) : ∃ a b c d, l = [a, b, c, d] := by
  match l, h with
  | [a, b, c, d], _ => exact ⟨a, b, c, d, rfl⟩

theorem list_of {Pp : Nat → PN → Prop} : ∀ n, (∀ i, i < n → ∃ x, Pp i x) → ∃ ns : List PN, ns.length = n ∧ ∀ i (h : i < ns.length), Pp i ns[i]
  | 0, _ => ⟨[], rfl, fun i h => by simp at h⟩
  | n + 1, h => by
    obtain ⟨ns, h1, h2⟩ := list_of n (fun i hi => h i (by omega))
    obtain ⟨x, hx⟩ := h n (by omega)
    refine ⟨ns ++ [x], by simp [h1], fun i hi => ?_⟩
    by_cases e : i < ns.length
    · rw [List.getElem_append_left e]; exact h2 i e
    · have : i = n := by simp at hi; omega
      subst this
      rw [List.getElem_append_right (by omega)]
      simpa [h1] using hx

theorem nats_of {Pp : Nat → Nat → Prop} : ∀ n, (∀ i, i < n → ∃ x, Pp i x) → ∃ ns : List Nat, ns.length = n ∧ ∀ i (h : i < ns.length), Pp i ns[i]
  | 0, _ => ⟨[], rfl, fun i h => by simp at h⟩
  | n + 1, h => by
    obtain ⟨ns, h1, h2⟩ := nats_of n (fun i hi => h i (by omega))
    obtain ⟨x, hx⟩ := h n (by omega)
    refine ⟨ns ++ [x], by simp [h1], fun i hi => ?_⟩
    by_cases e : i < ns.length
    · rw [List.getElem_append_left e]; exact h2 i e
    · have : i = n := by simp at hi; omega
      subst this
      rw [List.getElem_append_right (by omega)]
      simpa [h1] using hx

/-- A list of numbers that came in. -/
theorem open_nums {H : Type} {enc : TypeId × Value → H} {w : World} {base fuel : Nat} {spare : Nat → Bool} {held : Bool} {cs : List Value} {x : DataW H × List MemPlace} (h : DataW.trod enc Try.prog w base spare held fuel 48 cs = some x) :
    ∃ (xs : List Nat) (bp : Option Addr) (bv ov cap : Nat), cs = [.slice bp xs.length cap] ∧ xs.length ≤ maxLen ∧ (xs ≠ [] → bp = some ⟨bv, ov, none⟩) ∧ ∀ i (h : i < xs.length), w.cell? ⟨bv, ov + i, none⟩ = some (.float .f32 xs[i]) := by
  rcases open_slice1 Try.underlying48 (by kernel_rfl) h with ⟨rfl, -⟩ | ⟨a, len, cap, m, n, V, D, Pl, rfl, -, hlc, hcm, hmm, -, hcell⟩
  · exact ⟨[], none, 0, 0, 0, rfl, Nat.zero_le _, fun h => absurd rfl h, fun i hi => by simp at hi⟩
  · have hm : len ≤ m := by rw [hmm]; split <;> omega
    have hx : ∀ i, i < len → ∃ b, w.cell? (a.add i) = some (.float .f32 b) := fun i hi => by
      obtain ⟨h1, h2⟩ := hcell i (by omega)
      obtain ⟨b, hb⟩ := trod_flt Try.underlying25 h2
      injection hb with hb
      exact ⟨b, by rw [h1, hb]⟩
    obtain ⟨xs, rfl, hxs⟩ := nats_of len hx
    obtain ⟨b, off, spot⟩ := a
    refine ⟨xs, some ⟨b, off, spot⟩, b, off, cap, rfl, by omega, fun hne => ?_, fun i hi => ?_⟩
    · have h0 : 0 < xs.length := List.length_pos_iff.2 hne
      have := World.cell?_spot (hxs 0 h0)
      have hspot : spot = none := by simpa [Addr.add] using this
      rw [hspot]
    · have h0 : 0 < xs.length := by omega
      have := World.cell?_spot (hxs 0 h0)
      have hspot : spot = none := by simpa [Addr.add] using this
      subst hspot
      rw [← Go.WideShapes.add_plain]
      exact hxs i hi

theorem trod_i64 {H : Type} {enc : TypeId × Value → H} {w : World} {base fuel : Nat} {spare : Nat → Bool} {held : Bool} {cs : List Value} {x : DataW H × List MemPlace} (h : DataW.trod enc Try.prog w base spare held fuel 2 cs = some x) : ∃ n, cs = [.int .i64 n] := by
  obtain ⟨n, h1, -⟩ := DataW.trod_int Try.underlying2 h
  exact ⟨n, h1⟩

set_option maxRecDepth 100000 in
/-- A list of nodes that came in. -/
theorem open_nodes {H : Type} {enc : TypeId × Value → H} {w : World} {base fuel : Nat} {spare : Nat → Bool} {held : Bool} {cs : List Value} {x : DataW H × List MemPlace} (h : DataW.trod enc Try.prog w base spare held fuel 22 cs = some x) :
    ∃ (ns : List PN) (bp : Option Addr) (nb no cap : Nat), cs = [.slice bp ns.length cap] ∧ NodesIn ns bp nb no w := by
  rcases open_slice Try.underlying22 h with ⟨rfl, -⟩ | ⟨a, len, cap, m, n, D, Pl, rfl, -, hlc, hcm, hmm, -, hel⟩
  · exact ⟨[], none, 0, 0, 0, rfl, fun h => absurd rfl h, fun i hi => by simp at hi, Nat.zero_le _, fun n hn => by cases hn⟩
  · have hm : len ≤ m := by rw [hmm]; split <;> omega
    have hC : Try.prog.cellsOf 60 = 4 := by kernel_rfl
    have hx : ∀ i, i < len → ∃ n : PN, (a.spot = none ∧ NodeIn n a.block (a.off + i * 4) w) ∧ n.nums.length ≤ maxLen := fun i hi => by
      obtain ⟨cs', hc, ht⟩ := hel i (by omega)
      rw [hC] at hc
      obtain ⟨-, hcl, hat⟩ := World.cells?_some hc
      obtain ⟨ys, n', -, -, -, hyl, hf⟩ := DataW.trod_struct Try.underlying60 ht
      obtain ⟨c0, c1, c2, c3, rfl⟩ := four hcl
      obtain ⟨y0, y1, y2, y3, rfl⟩ := four (hyl.trans rfl)
      obtain ⟨cs0, hz, -⟩ := hel 0 (by omega)
      rw [hC] at hz
      obtain ⟨-, hzl, hzat⟩ := World.cells?_some hz
      have hz0 := hzat 0 (by omega)
      have hspot : a.spot = none := by
        obtain ⟨z0, z1, z2, z3, rfl⟩ := four hzl
        have := World.cell?_spot (show w.cell? ((a.add (0 * 4)).add 0) = some z0 from hz0)
        simpa [Addr.add] using this
      have f0 := hf 0 _ rfl
      have f1 := hf 1 _ rfl
      have f2 := hf 2 _ rfl
      have f3 := hf 3 _ rfl
      have t0 : DataW.trod enc Try.prog w base spare held n' 2 [c0] = some y0 := f0
      have t1 : DataW.trod enc Try.prog w base spare held n' 2 [c1] = some y1 := f1
      have t2 : DataW.trod enc Try.prog w base spare held n' 2 [c2] = some y2 := f2
      have t3 : DataW.trod enc Try.prog w base spare held n' 48 [c3] = some y3 := f3
      obtain ⟨k, e0⟩ := trod_i64 t0
      obtain ⟨na, e1⟩ := trod_i64 t1
      obtain ⟨nb, e2⟩ := trod_i64 t2
      obtain ⟨xs, bp, bv, ov, cp, e3, hxl, hp, hcells⟩ := open_nums t3
      injection e0 with e0
      injection e1 with e1
      injection e2 with e2
      injection e3 with e3
      have hc0 := hat 0 (by omega)
      have hc1 := hat 1 (by omega)
      have hc2 := hat 2 (by omega)
      have hc3 := hat 3 (by omega)
      have had : ∀ j, (a.add (i * 4)).add j = ⟨a.block, a.off + i * 4 + j, none⟩ := fun j => by exact add_off a (i * 4) j hspot
      rw [had] at hc0 hc1 hc2 hc3
      rw [Nat.add_zero] at hc0
      refine ⟨⟨k, na, nb, xs⟩, ⟨hspot, ⟨?_, ?_, ?_, bp, bv, ov, cp, ?_, hp, hcells⟩⟩, hxl⟩
      · rw [hc0, ← e0]; rfl
      · rw [hc1, ← e1]; rfl
      · rw [hc2, ← e2]; rfl
      · rw [hc3, ← e3]; rfl
    obtain ⟨ns, rfl, hns⟩ := list_of len hx
    refine ⟨ns, some a, a.block, a.off, cap, rfl, fun hne => ?_, fun i hi => (hns i hi).1.2, by omega, fun n hn => ?_⟩
    · have h0 : 0 < ns.length := List.length_pos_iff.2 hne
      have := (hns 0 h0).1.1
      obtain ⟨b, o, s⟩ := a
      simp only at this
      rw [this]
    · obtain ⟨i, hi, rfl⟩ := List.getElem_of_mem hn
      exact (hns i hi).2

theorem three {α : Type} {l : List α} (h : l.length = 3) : ∃ a b c, l = [a, b, c] := by
  match l, h with
  | [a, b, c], _ => exact ⟨a, b, c, rfl⟩
theorem uno {α : Type} {l : List α} (h : l.length = 1) : ∃ a, l = [a] := by
  match l, h with
  | [a], _ => exact ⟨a, rfl⟩

set_option maxRecDepth 100000 in
/-- A shape that came in. -/
theorem open_shape {H : Type} {enc : TypeId × Value → H} {w : World} {base b0 : Nat} {r : Reach} {spare : Nat → Bool} {held : Bool} {v : Value} {d : DataW H} {p : List MemPlace} (hv : Value.okWide Try.prog w r b0 24 v) (h : DataW.Trod enc Try.prog w base spare held 24 v d p) :
    ∃ (ns : List PN) (bp : Option Addr) (nb no cap : Nat), v = .agg #[.slice bp ns.length cap] ∧ NodesIn ns bp nb no w := by
  obtain ⟨cs, rfl, hsz⟩ := okWide_struct Try.underlying24 hv
  have hC : Try.prog.cellsOf 24 = 1 := by kernel_rfl
  obtain ⟨l⟩ := cs
  obtain ⟨c0, rfl⟩ := uno (show l.length = 1 from hsz.trans hC)
  obtain ⟨fuel, hf⟩ := h
  obtain ⟨ys, n', -, -, -, hyl, hg⟩ := DataW.trod_struct Try.underlying24 hf
  obtain ⟨y0, rfl⟩ := uno (hyl.trans rfl)
  have f0 := hg 0 _ rfl
  have t0 : DataW.trod enc Try.prog w base spare held n' 22 [c0] = some y0 := f0
  obtain ⟨ns, bp, nb, no, cap, e, hns⟩ := open_nodes t0
  injection e with e
  exact ⟨ns, bp, nb, no, cap, by rw [e], hns⟩

set_option maxRecDepth 100000 in
/-- A vector that came in. -/
theorem open_vector {H : Type} {enc : TypeId × Value → H} {w : World} {base b0 : Nat} {r : Reach} {spare : Nat → Bool} {held : Bool} {v : Value} {d : DataW H} {p : List MemPlace} (hv : Value.okWide Try.prog w r b0 27 v) (h : DataW.Trod enc Try.prog w base spare held 27 v d p) :
    ∃ x y z : Nat, v = V3 x y z := by
  obtain ⟨cs, rfl, hsz⟩ := okWide_struct Try.underlying27 hv
  have hC : Try.prog.cellsOf 27 = 3 := by kernel_rfl
  obtain ⟨l⟩ := cs
  obtain ⟨c0, c1, c2, rfl⟩ := three (show l.length = 3 from hsz.trans hC)
  obtain ⟨fuel, hf⟩ := h
  obtain ⟨ys, n', -, -, -, hyl, hg⟩ := DataW.trod_struct Try.underlying27 hf
  obtain ⟨y0, y1, y2, rfl⟩ := three (hyl.trans rfl)
  have t0 : DataW.trod enc Try.prog w base spare held n' 25 [c0] = some y0 := hg 0 _ rfl
  have t1 : DataW.trod enc Try.prog w base spare held n' 25 [c1] = some y1 := hg 1 _ rfl
  have t2 : DataW.trod enc Try.prog w base spare held n' 25 [c2] = some y2 := hg 2 _ rfl
  obtain ⟨x, e0⟩ := trod_flt Try.underlying25 t0
  obtain ⟨y, e1⟩ := trod_flt Try.underlying25 t1
  obtain ⟨z, e2⟩ := trod_flt Try.underlying25 t2
  injection e0 with e0
  injection e1 with e1
  injection e2 with e2
  exact ⟨x, y, z, by rw [e0, e1, e2]⟩

open Go.RowKit Go.Fl Go.ChangeShapes Go.WideShapes Go.ChangeAt

theorem own_knob : ownKnob Try.prog.godebug = none := by kernel_rfl
theorem laid_out : laidOutB Try.prog = true := by kernel_rfl

/-- The row's last step where nothing has turned that was there. -/
theorem post_below {H : Type} {enc : TypeId × Value → H} {P : Program} {f : Func} {s : ChangeSpec} {apart fresh handsOn again : Bool} {W W' : World} {args : Array Value} {v : Value} {ds gs : List (DataW H)} {before pa pv : List MemPlace}
    (hW : DataW.Whole enc P f.params.toList s.vars apart W args.toList ds gs before)
    (hres : ∀ (b : Nat) (sp : Nat → Bool) (hd : Bool), DataW.TrodAll enc P W' b sp hd f.resultTypes.toList (v.resultList f.resultTypes.size) (s.fn H (ds ++ gs)).results [])
    (hargs : ∀ sp : Nat → Bool, (∀ p ∈ before, sp p.block = true) → DataW.TrodAll enc P W' 0 sp true f.params.toList args.toList (s.fn H (ds ++ gs)).args pa)
    (hvars : ∀ sp : Nat → Bool, (∀ p ∈ before, sp p.block = true) → DataW.TrodVars enc P W' sp s.vars (s.fn H (ds ++ gs)).vars pv)
    (hps : before = pa ++ pv) (hb : Below W.heap.size W W')
    (hok : ∀ (j : Nat) (t : TypeId) (r : Value), f.resultTypes[j]? = some t → (v.resultList f.resultTypes.size)[j]? = some r → Value.okWide P W' .any 0 t r) :
    s.post enc P f apart fresh handsOn again W args v W' := by
  have hold : ∀ p ∈ before, (fun b => decide (b < W.heap.size)) p.block = true := fun p hp => by simpa using hW.lt p hp
  refine ⟨ds, gs, before, [], pa, pv, hW, hres _ _ _, hargs _ hold, hvars _ hold, World.keptBut_mono (fun p hp => ⟨hp, ?_⟩) (hb.frame (· ∈ before)), fun _ => ?_⟩
  · rw [hps, List.mem_append] at hp
    exact .inr hp
  · have hlt : ∀ p ∈ before, p.block < W.heap.size := fun p hp => hW.lt p hp
    obtain ⟨_, _, _, _, _, hz, hn⟩ := hW
    refine ⟨hok, _, _, ([] ++ pa) ++ pv, ⟨[] ++ pa, pv, trodAll_append (hargs _ (fun _ _ => rfl)) (hres _ _ _), hvars _ (fun _ _ => rfl), rfl, ?_, ?_⟩, ?_⟩
    · intro b off hp
      have hin : MemPlace.cell b off ∈ before := by rw [hps]; simpa using hp
      have h1 := hlt _ hin
      rw [hb.frozen h1]
      exact hz b off hin
    · intro ha
      have := hn ha
      rw [hps] at this
      simpa using this
    · intro p hp _
      rw [hps]
      simpa using hp

set_option maxRecDepth 100000 in
theorem lifted_inside (os : Os) (started : os.Started) (H : Type) (enc : TypeId × Value → H) :
    ReturnsInHanded {} Try.checked os 3 .any (Rows.fnExactIsInsideSpec.pre6 enc Try.prog Try.f3 Rows.fnExactIsInsideRow.domain false) (Rows.fnExactIsInsideSpec.post enc Try.prog Try.f3 false true false false) := by
  refine returnsInHanded_of_change (C := Try.checked) own_knob started (by kernel_rfl) Try.func3
    (ChangeSpec.witness6 (enc := enc) (C := Try.checked) false ⟨#[], #[.agg #[.slice none 0 0], .agg #[.float .f32 0, .float .f32 0, .float .f32 0]], []⟩ 8 (by kernel_rfl) (by kernel_rfl) (by kernel_rfl) (by kernel_rfl)) ?_
  intro W base args ds gs before hval0 hW hcnd _
  have hval : ∀ (j : Nat) t v, Try.f3.params[j]? = some t → args[j]? = some v → Value.okWide Try.prog W .any base t v := hval0
  have hW' := hW
  obtain ⟨p, q, hA0, hV, rfl, hfz, hnd⟩ := hW
  have hA : DataW.TrodAll enc Try.prog W 0 (fun _ => true) true Try.f3.params.toList args.toList ds p := hA0
  rw [Try.params3] at hA hval
  obtain ⟨v0, v1, d0, d1, p0, p1, rfl, rfl, rfl, h0, h1⟩ := trodAll_two hA
  obtain ⟨rfl, rfl⟩ := trodVars_none hV
  obtain ⟨ns, bp, nb, no, cap, rfl, hns⟩ := open_shape (hval 0 24 v0 rfl rfl) h0
  obtain ⟨x, y, z, rfl⟩ := open_vector (hval 1 27 v1 rfl rfl) h1
  clear hA0 hval0
  simp only [List.append_nil] at hW'
  have hlt : ∀ m ∈ p0 ++ p1, m.block < W.heap.size := fun m hm => hW'.lt m hm
  refine (law_inside ns bp nb no cap x y z W hns).mono fun e W' ⟨he, hg⟩ => ?_
  subst he
  refine ⟨_, rfl, post_below (pa := p0 ++ p1) (pv := []) hW' (fun _ _ _ => (trodAll_cons_mk (shut_bool Try.underlying4 _) trodAll_mk0)) (fun sp hsp => ?_) (fun _ _ => rfl) (by simp) hg (ok_one (by kernel_rfl) rfl (okWide_bool_mk Try.underlying4 _))⟩
  exact trodAll_mk2 (WideElems.Trod_stays laid_out (by kernel_rfl) (of_decide_eq_true (by kernel_rfl)) h0 (fun m hm => hg.same (hlt m (List.mem_append_left _ hm))) (fun m hm => hsp m (List.mem_append_left _ hm)))
    (WideElems.Trod_stays laid_out (by kernel_rfl) (of_decide_eq_true (by kernel_rfl)) h1 (fun m hm => hg.same (hlt m (List.mem_append_right _ hm))) (fun m hm => hsp m (List.mem_append_right _ hm)))

set_option maxRecDepth 100000 in
theorem is_inside_holds : Rows.FnExactIsInsideSaid :=
  OpenClaim.holds_of_wide 3 Try.f3 rfl rfl rfl rfl rfl rfl rfl ⟨rfl, rfl, rfl, rfl, rfl⟩ rfl rfl rfl rfl rfl (by kernel_rfl) Try.func3 (by kernel_rfl)
    (of_decide_eq_true (by kernel_rfl)) (by unfold Func.isWrapper; first | (rw [if_pos (by decide +kernel)]; kernel_rfl) | (rw [if_neg (by decide +kernel)]; exact ⟨rfl, rfl⟩))
    (fun os started H enc _ => lifted_inside os started H enc)
#print axioms is_inside_holds
end Go.Proofs.Ytdbpgblhnhdhoaa
