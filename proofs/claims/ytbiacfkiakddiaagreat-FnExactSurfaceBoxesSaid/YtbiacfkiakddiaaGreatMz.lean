/-
 Lemmas: B12,R13.
-/
import Derived.Test.YtbiacfkiakddiaaGreatMce
import Derived.Test.YtbiacfkiakddiaaGreatMcj
import Derived.Test.YtbiacfkiakddiaaGreatMcn
set_option linter.unusedVariables false
set_option linter.unusedSimpArgs false
namespace Go.Proofs.YtbiacfkiakddiaaGreat
open Go.RowKit Go.Fl
theorem surf_len {half:Nat → Nat} {sg:Bx → Int}:∀ {k:Nat} {l L:List Bx},surf half sg k l = some L → L.length ≤ 2 ^ k * l.length
 | 0,l,L,h => by
  rw [surf] at h
  cases h
  have:=List.length_filter_le (fun b => sg b == 0) l
  omega
 | k + 1,l,L,h => by
  rw [surf] at h
  split at h
  ·have h1:=surf_len h
   rw [halves_len] at h1
   have h2:=List.length_filter_le (fun b => sg b == 0) l
   have h3:2 ^ k * (2 * (l.filter fun b => sg b == 0).length) ≤ 2 ^ k * (2 * l.length):=Nat.mul_le_mul_left _ (by omega)
   rw [Nat.pow_succ,Nat.mul_assoc]
   omega
  ·cases h

theorem sg_same {ns:List PN} (hv:validF ns = true) (b:Bx) (hb:boxOk b = true):sgF ns b = sgS ns b:=by
 unfold boxOk boxP at hb
 simp only [Bool.and_eq_true] at hb
 obtain ⟨⟨⟨⟨_,_⟩,h1⟩,h2⟩,h3⟩:=hb
 have h:=ranges_same (valid_pos hv) (p:=((b.1.1,b.2.1),(b.1.2.1,b.2.2.1),(b.1.2.2,b.2.2.2))) ⟨lek_leW h1,lek_leW h2,lek_leW h3⟩
 exact congrArg (fun l => signP (topR l ns.length)) h
theorem surface_same (ns:List PN) (b:Bx) (s:Int):(if surfOk (validS ns) b s then surf halfS (sgS ns) s.toNat [b] else none) = (if surfOk (validF ns) b s then surf halfF (sgF ns) s.toNat [b] else none):=by
 rw [valid_same]
 cases h:surfOk (validF ns) b s
 ·simp only [Bool.false_eq_true,if_false]
 ·simp only [if_true]
  unfold surfOk at h
  rw [Bool.and_eq_true,Bool.and_eq_true] at h
  exact (surf_same (fun x hx => sg_same h.1.1 x hx) s.toNat [b] (fun x hx => by simp only [List.mem_singleton] at hx;subst hx;exact h.1.2)).symm

set_option maxRecDepth 100000 in
set_option maxHeartbeats 4000000 in
theorem law_surface (ns:List PN) (bp:Option Addr) (nb no cap a b c d e f:Nat) (s:Int) (w:World) (hns:NodesIn ns bp nb no w) :
  Calls Tryz.prog 4 #[.agg #[.slice bp ns.length cap],BoxV a b c d e f,.int .i64 s] w (fun e' w' => e' = .returned (.bool true) ∧ Below w.heap.size w w'):=by
 have hsz:∀ w',Below w.heap.size w w' → Calls Tryz.prog 13 #[.agg #[.slice bp ns.length cap],.int .i64 1048576] w' (fun e w'' => e = .returned (.int .i64 (szS ns 1048576)) ∧ Below w'.heap.size w' w'') :=
  fun w' hb => sz_shape ns bp nb no cap 1048576 w' (hns.keep hb) (by omega)
 by_cases hneg:szS ns 1048576 < 0
 ·have hm:=szS_neg hneg
  rw [hm] at hsz
  clear hm hneg hns
  go_enter Tryz.func4,Tryz.ntmps4
  go_wp2_with (go_at_call 13;refine (hsz _ (by repeat' (first | exact Below.refl _ _ | exact Nat.le_refl _ | refine below_drewN ?_ _ | refine Below.alloc ?_ (by simp <;> omega) _ | refine Below.setCell ?_ (by simp <;> omega) _ | refine below_step ?_ (by assumption)))).mono ?_;rintro _ w2 ⟨rfl,hb2⟩)
  go_ret
  exact ⟨rfl,(by repeat' (first | exact Below.refl _ _ | exact Nat.le_refl _ | refine below_drewN ?_ _ | refine Below.alloc ?_ (by simp <;> omega) _ | refine Below.setCell ?_ (by simp <;> omega) _ | refine below_step ?_ (by assumption)))⟩
 ·obtain ⟨hsm,hnsm⟩:=szS_small (by omega) (by omega) hneg
  have hnum:∀ n ∈ ns,n.nums.length < 10000000:=fun n hn => by have:=hnsm n hn;omega
  have hl7:ns.length < 10000000:=by omega
  have hsp:=fun G w' hn => s_surface_any ns hnum (fun h => (valid_ok (by rw [← valid_same];exact h)).2) G 0 ns.length a b c d e f s (some ⟨G,0,none⟩) w' (fun _ => rfl) hn hl7
  have him:=fun G w' hn => surface_any ns hnum G 0 ns.length a b c d e f s (some ⟨G,0,none⟩) w' (fun _ => rfl) hn hl7
  rw [surface_same] at hsp
  have hlen:∀ L,(if surfOk (validF ns) (cnB a b c d e f) s then surf halfF (sgF ns) s.toNat [cnB a b c d e f] else none) = some L → L.length ≤ 64:=fun L hL => by
   split at hL
   ·rename_i h
    unfold surfOk at h
    rw [Bool.and_eq_true,decide_eq_true_eq] at h
    have h1:=surf_len hL
    have h2:2 ^ s.toNat ≤ 2 ^ 6:=Nat.pow_le_pow_right (by decide) (by omega)
    simp only [List.length_singleton] at h1
    omega
   ·cases hL
  generalize (if surfOk (validF ns) (cnB a b c d e f) s then surf halfF (sgF ns) s.toNat [cnB a b c d e f] else none) = R at *
  obtain ⟨bv,hbv⟩:∃ bv,bv = R.isSome:=⟨_,rfl⟩
  obtain ⟨L,hL⟩:∃ L,L = R.getD []:=⟨_,rfl⟩
  have hN:L.length ≤ 64:=by
   cases R with
   | none => subst hL;simp
   | some L' => subst hL;exact hlen _ rfl
  have hread:∀ {w w':World} {e:Ending},RetSu R w e w' → ∃ u bs,e = .returned (.tuple #[u,.bool bv]) ∧ w'.ownsRow w.heap.size 40 6 u bs.length (fb bs) ∧ bs.map cnb = L ∧ Below w.heap.size w w':=by
   rintro w w' e ⟨v,bs,rfl,h1,h2,h3⟩
   rw [← hbv]
   cases R with
   | none =>
    have:=h1 rfl
    subst this
    subst hL
    exact ⟨_,[],rfl,row_nil ..,rfl,h3⟩
   | some L' =>
    obtain ⟨h4,h5⟩:=h2 L' rfl
    subst hL
    exact ⟨v,bs,rfl,h4,h5,h3⟩
  clear hlen hbv hL
  refine walk_surfaceboxes ns bp nb no cap a b c d e f s w hns bv _ (by omega) hsm hnsm hsz (fun v w => ∃ bs,BxRd v bs w ∧ bs.map cnb = L) (fun lo v w => ∃ bs,w.ownsRow lo 40 6 v bs.length (fb bs) ∧ bs.map cnb = L) (fun lo v w => ∃ xs,w.ownsRow lo 40 6 v L.length (mkC xs 1 (L.length * 6))) (1 + ((L.length * 6:Nat):Int)) (by omega)
   ?_ ?_ ?_ ?_ ?_ ?_ ?_ ?_ ?_ ?_ ?_
  ·rintro v w w' ⟨bs,h1,h2⟩ hb;exact ⟨bs,h1.keep hb,h2⟩
  ·rintro lo v w w' ⟨bs,h1,h2⟩ hb;exact ⟨bs,owns_below h1 hb,h2⟩
  ·rintro lo v w w' ⟨xs,h1⟩ hb;exact ⟨xs,owns_below h1 hb⟩
  ·rintro lo v w ⟨bs,h1,h2⟩;exact ⟨bs,row_boxes h1 rfl,h2⟩
  ·rintro lo lo' v w ⟨bs,h1,h2⟩ hl;exact ⟨bs,row_base h1 hl,h2⟩
  ·rintro lo G hi v w w' ⟨bs,h1,h2⟩ hm hl;exact ⟨bs,row_mrk h1 hm hl,h2⟩
  ·intro G w' hn
   refine (hsp G w' (fun i h => (hn i h).into)).mono ?_
   intro e w'' h
   obtain ⟨u,bs,rfl,h1,h2,h3⟩:=hread h
   exact ⟨u,rfl,⟨bs,row_boxes h1 rfl,h2⟩,h3⟩
  ·intro G w' hn
   refine (him G w' (fun i h => (hn i h).into)).mono ?_
   intro e w'' h
   obtain ⟨u,bs,rfl,h1,h2,h3⟩:=hread h
   exact ⟨u,rfl,⟨bs,h1,h2⟩,h3⟩
  ·rintro u v w' ⟨bs,h1,h2⟩ ⟨bs',h3,h4⟩
   exact eq_boxes bs bs' (h2.trans h4.symm) (by have:=congrArg List.length h2;simp only [List.length_map] at this;omega) u v w' h1 h3
  ·rintro lo u w' ⟨bs,h1,h2⟩ hl
   have hbl:bs.length = L.length:=by have:=congrArg List.length h2;simpa using this
   refine (mark_boxes bs.length (fb bs) (by omega) lo u 1 ⟨by decide,by decide⟩ w' h1).mono ?_
   rintro e w'' ⟨he,hA,hb⟩
   rw [hbl] at he hA
   exact ⟨he,⟨_,hA⟩,hb⟩
  ·rintro lo u w' ⟨xs,h1⟩
   exact held_boxes L.length xs (by omega) lo u 1 ⟨by decide,by decide⟩ w' h1
end Go.Proofs.YtbiacfkiakddiaaGreat

namespace Go.Proofs.YtbiacfkiakddiaaGreat
open Go.RowKit Go.Fl Go.ChangeShapes Go.WideShapes Go.ChangeAt
set_option maxRecDepth 100000 in
theorem lifted_surface_boxes_holds (os:Os) (started:os.Started) (H:Type) (enc:TypeId × Value → H) :
  ReturnsInHanded {} Tryz.checked os 4 .any (Rows.fnExactSurfaceBoxesSpec.pre6 enc Tryz.prog Tryz.f4 Rows.fnExactSurfaceBoxesRow.domain false) (Rows.fnExactSurfaceBoxesSpec.post enc Tryz.prog Tryz.f4 false true false false):=by
 refine returnsInHanded_of_change (C:=Tryz.checked) own_knob started (by kernel_rfl) Tryz.func4
  (ChangeSpec.witness6 (enc:=enc) (C:=Tryz.checked) false ⟨#[],#[.agg #[.slice none 0 0],.agg #[F1 0,F1 0,F1 0,F1 0,F1 0,F1 0],.int .i64 0],[]⟩ 12 (by kernel_rfl) (by kernel_rfl) (by kernel_rfl) (by kernel_rfl)) ?_
 intro W base args ds gs before hval0 hW hcnd _
 have hval:∀ (j:Nat) t v,Tryz.f4.params[j]? = some t → args[j]? = some v → Value.okWide Tryz.prog W .any base t v:=hval0
 have hW':=hW
 obtain ⟨p,q,hA0,hV,rfl,hfz,hnd⟩:=hW
 have hA:DataW.TrodAll enc Tryz.prog W 0 (fun _ => true) true Tryz.f4.params.toList args.toList ds p:=hA0
 rw [Tryz.params4] at hA hval
 obtain ⟨v0,v1,v2,d0,d1,d2,p0,p1,p2,rfl,rfl,rfl,h0,h1,h2⟩:=trodAll_3 hA
 obtain ⟨rfl,rfl⟩:=trodVars_none hV
 obtain ⟨ns,bp,nb,no,cap,rfl,hns⟩:=open_shape (hval 0 24 v0 rfl rfl) h0
 obtain ⟨a,b,c,d,e,f,rfl⟩:=open_box (hval 1 29 v1 rfl rfl) h1
 obtain ⟨s,rfl⟩:=okW_int Tryz.underlying2 (hval 2 2 v2 rfl rfl)
 clear hA0 hval0
 simp only [List.append_nil] at hW'
 have hlt:∀ m ∈ p0 ++ (p1 ++ (p2)),m.block < W.heap.size:=fun m hm => hW'.lt m hm
 refine (law_surface ns bp nb no cap a b c d e f s W hns).mono fun e W' ⟨he,hg⟩ => ?_
 subst he
 have m0:∀ m ∈ p0,m ∈ p0 ++ (p1 ++ (p2)):=fun m h => by simp [h]
 have m1:∀ m ∈ p1,m ∈ p0 ++ (p1 ++ (p2)):=fun m h => by simp [h]
 have m2:∀ m ∈ p2,m ∈ p0 ++ (p1 ++ (p2)):=fun m h => by simp [h]
 refine ⟨_,rfl,post_below (pa:=p0 ++ (p1 ++ (p2 ++ []))) (pv:=[]) hW' (fun _ _ _ => (trodAll_cons_mk (shut_bool Tryz.underlying4 _) trodAll_mk0)) (fun sp hsp => ?_) (fun _ _ => rfl) (by simp) hg (ok_one (by kernel_rfl) rfl (okWide_bool_mk Tryz.underlying4 _))⟩
 refine trodAll_cons_mk (WideElems.Trod_stays laid_out (by kernel_rfl) (of_decide_eq_true (by kernel_rfl)) h0 (fun m hm => hg.same (hlt m (m0 m hm))) (fun m hm => hsp m (m0 m hm))) ?_
 refine trodAll_cons_mk (WideElems.Trod_stays laid_out (by kernel_rfl) (of_decide_eq_true (by kernel_rfl)) h1 (fun m hm => hg.same (hlt m (m1 m hm))) (fun m hm => hsp m (m1 m hm))) ?_
 exact trodAll_cons_mk (WideElems.Trod_stays laid_out (by kernel_rfl) (of_decide_eq_true (by kernel_rfl)) h2 (fun m hm => hg.same (hlt m (m2 m hm))) (fun m hm => hsp m (m2 m hm))) trodAll_mk0

set_option maxRecDepth 100000 in
set_option maxHeartbeats 64000000 in
theorem closed_surface_boxes_holds:joinedFacts Tryz.prog 4 Tryz.f4 Rows.fnExactSurfaceBoxesSpec Rows.fnExactSurfaceBoxesRow = true:=by
 unfold joinedFacts
 repeat' (with_reducible refine and_mk ?_ ?_)
 all_goals (as_aux_lemma => kernel_rfl)

set_option maxRecDepth 100000 in
theorem surface_boxes_holds:Rows.FnExactSurfaceBoxesSaid :=
 OpenClaim.holds_of_wide 4 Tryz.f4 rfl rfl rfl rfl rfl rfl rfl ⟨rfl,rfl,rfl,rfl,rfl⟩ rfl rfl rfl rfl rfl (by kernel_rfl) Tryz.func4 closed_surface_boxes_holds
  (of_decide_eq_true (by kernel_rfl)) (by unfold Func.isWrapper;first | (rw [if_pos (by decide +kernel)];kernel_rfl) | (rw [if_neg (by decide +kernel)];exact ⟨rfl,rfl⟩))
  (fun os started H enc _ => lifted_surface_boxes_holds os started H enc)
#print axioms surface_boxes_holds
end Go.Proofs.YtbiacfkiakddiaaGreat
