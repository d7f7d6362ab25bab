/-
 Lemmas: R18.
-/
import Derived.Test.YtbiacfkiakddiaaGreatIag
set_option linter.unusedVariables false
set_option linter.unusedSimpArgs false
namespace Go.Proofs.YtbiacfkiakddiaaGreat
open Go.RowKit Go.Fl Go.ChangeShapes Go.WideShapes Go.ChangeAt
set_option maxRecDepth 100000 in
theorem lifted_tile_checks_holds (os:Os) (started:os.Started) (H:Type) (enc:TypeId × Value → H) :
  ReturnsInHanded {} Tryz.checked os 12 .any (Rows.fnExactTileChecksSpec.pre6 enc Tryz.prog Tryz.f12 Rows.fnExactTileChecksRow.domain false) (Rows.fnExactTileChecksSpec.post enc Tryz.prog Tryz.f12 false true false false):=by
 refine returnsInHanded_of_change (C:=Tryz.checked) own_knob started (by kernel_rfl) Tryz.func12
  (ChangeSpec.witness6 (enc:=enc) (C:=Tryz.checked) false ⟨#[],#[.agg #[.slice none 0 0,F1 0,F1 0,F1 0,F1 0,F1 0,F1 0,F1 0,.int .i64 0,.int .i64 0,F1 0,F1 0,F1 0,F1 0,F1 0,.int .i64 0],.int .i64 0],[]⟩ 12 (by kernel_rfl) (by kernel_rfl) (by kernel_rfl) (by kernel_rfl)) ?_
 intro W base args ds gs before hval0 hW hcnd _
 have hval:∀ (j:Nat) t v,Tryz.f12.params[j]? = some t → args[j]? = some v → Value.okWide Tryz.prog W .any base t v:=hval0
 have hW':=hW
 obtain ⟨p,q,hA0,hV,rfl,hfz,hnd⟩:=hW
 have hA:DataW.TrodAll enc Tryz.prog W 0 (fun _ => true) true Tryz.f12.params.toList args.toList ds p:=hA0
 rw [Tryz.params12] at hA hval
 obtain ⟨v0,v1,d0,d1,p0,p1,rfl,rfl,rfl,h0,h1⟩:=trodAll_2 hA
 obtain ⟨rfl,rfl⟩:=trodVars_none hV
 obtain ⟨ns,bp,nb,no,cap,a,b,c,d,e,f,wd,nx,ny,lx,ly,lz,near,most,st,rfl,hns⟩:=open_view (hval 0 78 v0 rfl rfl) h0
 obtain ⟨sz,rfl⟩:=okW_int Tryz.underlying2 (hval 1 2 v1 rfl rfl)
 clear hA0 hval0
 simp only [List.append_nil] at hW'
 have hlt:∀ m ∈ p0 ++ (p1),m.block < W.heap.size:=fun m hm => hW'.lt m hm
 refine (law_checks ns bp nb no cap a b c d e f wd nx ny lx ly lz near most st sz W hns).mono fun e W' ⟨he,hg⟩ => ?_
 subst he
 have m0:∀ m ∈ p0,m ∈ p0 ++ (p1):=fun m h => by simp [h]
 have m1:∀ m ∈ p1,m ∈ p0 ++ (p1):=fun m h => by simp [h]
 refine ⟨_,rfl,post_below (pa:=p0 ++ (p1 ++ [])) (pv:=[]) hW' (fun _ _ _ => (trodAll_cons_mk (shut_bool Tryz.underlying4 _) trodAll_mk0)) (fun sp hsp => ?_) (fun _ _ => rfl) (by simp) hg (ok_one (by kernel_rfl) rfl (okWide_bool_mk Tryz.underlying4 _))⟩
 refine trodAll_cons_mk (WideElems.Trod_stays laid_out (by kernel_rfl) (of_decide_eq_true (by kernel_rfl)) h0 (fun m hm => hg.same (hlt m (m0 m hm))) (fun m hm => hsp m (m0 m hm))) ?_
 exact trodAll_cons_mk (WideElems.Trod_stays laid_out (by kernel_rfl) (of_decide_eq_true (by kernel_rfl)) h1 (fun m hm => hg.same (hlt m (m1 m hm))) (fun m hm => hsp m (m1 m hm))) trodAll_mk0

set_option maxRecDepth 100000 in
set_option maxHeartbeats 64000000 in
theorem closed_tile_checks_holds:joinedFacts Tryz.prog 12 Tryz.f12 Rows.fnExactTileChecksSpec Rows.fnExactTileChecksRow = true:=by
 unfold joinedFacts
 repeat' (with_reducible refine and_mk ?_ ?_)
 all_goals (as_aux_lemma => kernel_rfl)

set_option maxRecDepth 100000 in
theorem tile_checks_holds:Rows.FnExactTileChecksSaid :=
 OpenClaim.holds_of_wide 12 Tryz.f12 rfl rfl rfl rfl rfl rfl rfl ⟨rfl,rfl,rfl,rfl,rfl⟩ rfl rfl rfl rfl rfl (by kernel_rfl) Tryz.func12 closed_tile_checks_holds
  (of_decide_eq_true (by kernel_rfl)) (by unfold Func.isWrapper;first | (rw [if_pos (by decide +kernel)];kernel_rfl) | (rw [if_neg (by decide +kernel)];exact ⟨rfl,rfl⟩))
  (fun os started H enc _ => lifted_tile_checks_holds os started H enc)
#print axioms tile_checks_holds
end Go.Proofs.YtbiacfkiakddiaaGreat
