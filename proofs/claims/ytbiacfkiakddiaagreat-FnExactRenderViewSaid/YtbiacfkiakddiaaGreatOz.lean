/-
 Lemmas: R15.
-/
import Derived.Test.YtbiacfkiakddiaaGreatOci
set_option linter.unusedVariables false
set_option linter.unusedSimpArgs false
namespace Go.Proofs.YtbiacfkiakddiaaGreat
open Go.RowKit Go.Fl Go.ChangeShapes Go.WideShapes Go.ChangeAt
set_option maxRecDepth 100000 in
theorem lifted_render_view_holds (os:Os) (started:os.Started) (H:Type) (enc:TypeId × Value → H) :
  ReturnsInHanded {} Tryz.checked os 9 .any (Rows.fnExactRenderViewSpec.pre6 enc Tryz.prog Tryz.f9 Rows.fnExactRenderViewRow.domain false) (Rows.fnExactRenderViewSpec.post enc Tryz.prog Tryz.f9 false true false false):=by
 refine returnsInHanded_of_change (C:=Tryz.checked) own_knob started (by kernel_rfl) Tryz.func9
  (ChangeSpec.witness6 (enc:=enc) (C:=Tryz.checked) false ⟨#[],#[.agg #[.slice none 0 0,F1 0,F1 0,F1 0,F1 0,F1 0,F1 0,F1 0,.int .i64 0,.int .i64 0,F1 0,F1 0,F1 0,F1 0,F1 0,.int .i64 0]],[]⟩ 12 (by kernel_rfl) (by kernel_rfl) (by kernel_rfl) (by kernel_rfl)) ?_
 intro W base args ds gs before hval0 hW hcnd _
 have hval:∀ (j:Nat) t v,Tryz.f9.params[j]? = some t → args[j]? = some v → Value.okWide Tryz.prog W .any base t v:=hval0
 have hW':=hW
 obtain ⟨p,q,hA0,hV,rfl,hfz,hnd⟩:=hW
 have hA:DataW.TrodAll enc Tryz.prog W 0 (fun _ => true) true Tryz.f9.params.toList args.toList ds p:=hA0
 rw [Tryz.params9] at hA hval
 obtain ⟨v0,d0,p0,rfl,rfl,rfl,h0⟩:=trodAll_1 hA
 obtain ⟨rfl,rfl⟩:=trodVars_none hV
 obtain ⟨ns,bp,nb,no,cap,a,b,c,d,e,f,wd,nx,ny,lx,ly,lz,near,most,st,rfl,hns⟩:=open_view (hval 0 78 v0 rfl rfl) h0
 clear hA0 hval0
 simp only [List.append_nil] at hW'
 have hlt:∀ m ∈ p0,m.block < W.heap.size:=fun m hm => hW'.lt m hm
 refine (law_renderview ns bp nb no cap a b c d e f wd nx ny lx ly lz near most st W hns).mono fun e W' ⟨he,hg⟩ => ?_
 subst he
 have m0:∀ m ∈ p0,m ∈ p0:=fun m h => by simp [h]
 refine ⟨_,rfl,post_below (pa:=p0 ++ []) (pv:=[]) hW' (fun _ _ _ => (trodAll_cons_mk (shut_bool Tryz.underlying4 _) trodAll_mk0)) (fun sp hsp => ?_) (fun _ _ => rfl) (by simp) hg (ok_one (by kernel_rfl) rfl (okWide_bool_mk Tryz.underlying4 _))⟩
 exact trodAll_cons_mk (WideElems.Trod_stays laid_out (by kernel_rfl) (of_decide_eq_true (by kernel_rfl)) h0 (fun m hm => hg.same (hlt m (m0 m hm))) (fun m hm => hsp m (m0 m hm))) trodAll_mk0

set_option maxRecDepth 100000 in
set_option maxHeartbeats 64000000 in
theorem closed_render_view_holds:joinedFacts Tryz.prog 9 Tryz.f9 Rows.fnExactRenderViewSpec Rows.fnExactRenderViewRow = true:=by
 unfold joinedFacts
 repeat' (with_reducible refine and_mk ?_ ?_)
 all_goals (as_aux_lemma => kernel_rfl)

set_option maxRecDepth 100000 in
theorem render_view_holds:Rows.FnExactRenderViewSaid :=
 OpenClaim.holds_of_wide 9 Tryz.f9 rfl rfl rfl rfl rfl rfl rfl ⟨rfl,rfl,rfl,rfl,rfl⟩ rfl rfl rfl rfl rfl (by kernel_rfl) Tryz.func9 closed_render_view_holds
  (of_decide_eq_true (by kernel_rfl)) (by unfold Func.isWrapper;first | (rw [if_pos (by decide +kernel)];kernel_rfl) | (rw [if_neg (by decide +kernel)];exact ⟨rfl,rfl⟩))
  (fun os started H enc _ => lifted_render_view_holds os started H enc)
#print axioms render_view_holds
end Go.Proofs.YtbiacfkiakddiaaGreat
