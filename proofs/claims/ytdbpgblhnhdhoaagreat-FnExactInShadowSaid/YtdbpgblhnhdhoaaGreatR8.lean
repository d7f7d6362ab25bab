/-
  InShadow: the statement holds.
-/
import Derived.Test.YtdbpgblhnhdhoaaGreatRr
import Derived.Test.YtdbpgblhnhdhoaaGreatY18
set_option linter.unusedVariables false
set_option linter.unusedSimpArgs false
namespace Go.Proofs.YtdbpgblhnhdhoaaGreat
open Go.RowKit Go.Fl Go.ChangeShapes Go.WideShapes Go.ChangeAt

set_option maxRecDepth 100000 in
theorem lifted_in_shadow_holds (os : Os) (started : os.Started) (H : Type) (enc : TypeId × Value → H) :
    ReturnsInHanded {} Tryz.checked os 6 .any (Rows.fnExactInShadowSpec.pre6 enc Tryz.prog Tryz.f6 Rows.fnExactInShadowRow.domain false) (Rows.fnExactInShadowSpec.post enc Tryz.prog Tryz.f6 false true false false) := by
  refine returnsInHanded_of_change (C := Tryz.checked) own_knob started (by kernel_rfl) Tryz.func6
    (ChangeSpec.witness6 (enc := enc) (C := Tryz.checked) false ⟨#[], #[.agg #[.slice none 0 0], .agg #[.float .f32 0, .float .f32 0, .float .f32 0], .agg #[.float .f32 0, .float .f32 0, .float .f32 0], .agg #[.float .f32 0, .float .f32 0, .float .f32 0], .agg #[.float .f32 0, .float .f32 0, .int .i64 0]], []⟩ 12 (by kernel_rfl) (by kernel_rfl) (by kernel_rfl) (by kernel_rfl)) ?_
  intro W base args ds gs before hval0 hW hcnd _
  have hval : ∀ (j : Nat) t v, Tryz.f6.params[j]? = some t → args[j]? = some v → Value.okWide Tryz.prog W .any base t v := hval0
  have hW' := hW
  obtain ⟨p, q, hA0, hV, rfl, hfz, hnd⟩ := hW
  have hA : DataW.TrodAll enc Tryz.prog W 0 (fun _ => true) true Tryz.f6.params.toList args.toList ds p := hA0
  rw [Tryz.params6] at hA hval
  obtain ⟨v0, v1, v2, v3, v4, d0, d1, d2, d3, d4, p0, p1, p2, p3, p4, rfl, rfl, rfl, h0, h1, h2, h3, h4⟩ := trodAll_5 hA
  obtain ⟨rfl, rfl⟩ := trodVars_none hV
  obtain ⟨ns, bp, nb, no, cap, rfl, hns⟩ := open_shape (hval 0 24 v0 rfl rfl) h0
  obtain ⟨x, y, z, rfl⟩ := open_vector (hval 1 27 v1 rfl rfl) h1
  obtain ⟨nx, ny, nz, rfl⟩ := open_vector (hval 2 27 v2 rfl rfl) h2
  obtain ⟨lx, ly, lz, rfl⟩ := open_vector (hval 3 27 v3 rfl rfl) h3
  obtain ⟨near, most, n, rfl⟩ := open_march (hval 4 59 v4 rfl rfl) h4
  clear hA0 hval0
  simp only [List.append_nil] at hW'
  have hlt : ∀ m ∈ p0 ++ (p1 ++ (p2 ++ (p3 ++ (p4)))), m.block < W.heap.size := fun m hm => hW'.lt m hm
  refine (law_shadow ns bp nb no cap x y z nx ny nz lx ly lz near most n W hns).mono fun e W' ⟨he, hg⟩ => ?_
  subst he
  have m0 : ∀ m ∈ p0, m ∈ p0 ++ (p1 ++ (p2 ++ (p3 ++ (p4)))) := fun m h => by simp [h]
  have m1 : ∀ m ∈ p1, m ∈ p0 ++ (p1 ++ (p2 ++ (p3 ++ (p4)))) := fun m h => by simp [h]
  have m2 : ∀ m ∈ p2, m ∈ p0 ++ (p1 ++ (p2 ++ (p3 ++ (p4)))) := fun m h => by simp [h]
  have m3 : ∀ m ∈ p3, m ∈ p0 ++ (p1 ++ (p2 ++ (p3 ++ (p4)))) := fun m h => by simp [h]
  have m4 : ∀ m ∈ p4, m ∈ p0 ++ (p1 ++ (p2 ++ (p3 ++ (p4)))) := fun m h => by simp [h]
  refine ⟨_, rfl, post_below (pa := p0 ++ (p1 ++ (p2 ++ (p3 ++ (p4 ++ []))))) (pv := []) hW' (fun _ _ _ => (trodAll_cons_mk (shut_bool Tryz.underlying4 _) trodAll_mk0)) (fun sp hsp => ?_) (fun _ _ => rfl) (by simp) hg (ok_one (by kernel_rfl) rfl (okWide_bool_mk Tryz.underlying4 _))⟩
  refine trodAll_cons_mk (WideElems.Trod_stays laid_out (by kernel_rfl) (of_decide_eq_true (by kernel_rfl)) h0 (fun m hm => hg.same (hlt m (m0 m hm))) (fun m hm => hsp m (m0 m hm))) ?_
  refine trodAll_cons_mk (WideElems.Trod_stays laid_out (by kernel_rfl) (of_decide_eq_true (by kernel_rfl)) h1 (fun m hm => hg.same (hlt m (m1 m hm))) (fun m hm => hsp m (m1 m hm))) ?_
  refine trodAll_cons_mk (WideElems.Trod_stays laid_out (by kernel_rfl) (of_decide_eq_true (by kernel_rfl)) h2 (fun m hm => hg.same (hlt m (m2 m hm))) (fun m hm => hsp m (m2 m hm))) ?_
  refine trodAll_cons_mk (WideElems.Trod_stays laid_out (by kernel_rfl) (of_decide_eq_true (by kernel_rfl)) h3 (fun m hm => hg.same (hlt m (m3 m hm))) (fun m hm => hsp m (m3 m hm))) ?_
  exact trodAll_cons_mk (WideElems.Trod_stays laid_out (by kernel_rfl) (of_decide_eq_true (by kernel_rfl)) h4 (fun m hm => hg.same (hlt m (m4 m hm))) (fun m hm => hsp m (m4 m hm))) trodAll_mk0

set_option maxRecDepth 100000 in
theorem in_shadow_holds : Rows.FnExactInShadowSaid :=
  OpenClaim.holds_of_wide 6 Tryz.f6 rfl rfl rfl rfl rfl rfl rfl ⟨rfl, rfl, rfl, rfl, rfl⟩ rfl rfl rfl rfl rfl (by kernel_rfl) Tryz.func6 (by kernel_rfl)
    (of_decide_eq_true (by kernel_rfl)) (by unfold Func.isWrapper; first | (rw [if_pos (by decide +kernel)]; kernel_rfl) | (rw [if_neg (by decide +kernel)]; exact ⟨rfl, rfl⟩))
    (fun os started H enc _ => lifted_in_shadow_holds os started H enc)
#print axioms in_shadow_holds
end Go.Proofs.YtdbpgblhnhdhoaaGreat
