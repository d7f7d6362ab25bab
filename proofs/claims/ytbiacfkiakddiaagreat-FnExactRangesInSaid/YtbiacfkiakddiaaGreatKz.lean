/-
 Lemmas: U4,U12,R11.
-/
import Derived.Test.YtbiacfkiakddiaaGreatKcf
import Derived.Test.YtbiacfkiakddiaaGreatKch
set_option linter.unusedVariables false
set_option linter.unusedSimpArgs false
namespace Go.Proofs.YtbiacfkiakddiaaGreat
open Go.RowKit Go.Fl
set_option maxRecDepth 100000 in
set_option maxHeartbeats 4000000 in
theorem s_rangesin_any (ns:List PN) (hnum:∀ n ∈ ns,n.nums.length < 10000000) (hvok:validS ns = true → OkAll ns) (nb no cap a b c d e f:Nat) (bp:Option Addr) (w:World) (hbp:ns ≠ [] → bp = some ⟨nb,no,none⟩) (hsh:∀ i (h:i < ns.length),NodeIn ns[i] nb (no + i * 4) w) (hlen:ns.length < 10000000) :
  Calls Tryz.prog 14 #[.agg #[.slice bp ns.length cap],BoxV a b c d e f] w (RetRd (rangeOk (validS ns) (cn .f32 a,cn .f32 b,cn .f32 c) (cn .f32 d,cn .f32 e,cn .f32 f)) (rangesS ns ((cn .f32 a,cn .f32 d),(cn .f32 b,cn .f32 e),(cn .f32 c,cn .f32 f))) ns.length w):=by
 obtain ⟨ok,hOk⟩:∃ ok,Hid (ok = rangeOk (validS ns) (cn .f32 a,cn .f32 b,cn .f32 c) (cn .f32 d,cn .f32 e,cn .f32 f)):=⟨_,rfl⟩
 rw [← hOk.out]
 go_enter Tryz.func14,Tryz.ntmps14
 go_upto_region 1 with fail
 have W1b:Below w.heap.size w ((w.alloc (.cells #[.slice bp ns.length cap] 36)).alloc (.cells #[.float .f32 a,.float .f32 b,.float .f32 c,.float .f32 d,.float .f32 e,.float .f32 f] 40)):=(by repeat' (first | exact Below.refl _ _ | exact Nat.le_refl _ | refine below_drewN ?_ _ | refine Below.alloc ?_ (by first | (simp;done) | (simp;omega)) _ | refine Below.setCell ?_ (by first | (simp;done) | (simp;omega)) _ | refine below_step ?_ (by assumption)))
 
 have hkept:Kept [(⟨w.heap.size,0,none⟩,.slice bp ns.length cap),(⟨w.heap.size + 1,0,none⟩,.float .f32 a),(⟨w.heap.size + 1,1,none⟩,.float .f32 b),(⟨w.heap.size + 1,2,none⟩,.float .f32 c),(⟨w.heap.size + 1,3,none⟩,.float .f32 d),(⟨w.heap.size + 1,4,none⟩,.float .f32 e),(⟨w.heap.size + 1,5,none⟩,.float .f32 f)] [] ((w.alloc (.cells #[.slice bp ns.length cap] 36)).alloc (.cells #[.float .f32 a,.float .f32 b,.float .f32 c,.float .f32 d,.float .f32 e,.float .f32 f] 40)):=by
  simp only [Kept,ka,kb,kc,kd,ke,and_true,true_and];(first | (go_simp;done) | (simp [World.cell?,World.frozen?,World.alloc,Array.getElem?_push];done))
 generalize (w.alloc (.cells #[.slice bp ns.length cap] 36)).alloc (.cells #[.float .f32 a,.float .f32 b,.float .f32 c,.float .f32 d,.float .f32 e,.float .f32 f] 40) = W1 at *
 have hK:=hkept;simp only [Kept,ka,kb,kc,kd,ke,and_true,true_and] at hK
 have hv:=s_is_any ns hnum w.heap.size 0 nb no cap bp W1 (by simp [hK]) hbp (fun i h => (hsh i h).keep W1b) hlen
 cases hval:validS ns
 ·have hno:Hid (ok = false):=by unfold Hid;rw [hOk.out,hval];rfl
  go_wp2_with (go_at_call 60;refine hv.mono ?_;rintro _ w2 ⟨rfl,hb1⟩;have W1b:=below_step W1b hb1;have hkept:=keepT hkept hb1 rfl;clear hK;have hK:=hkept;simp only [Kept,ka,kb,kc,kd,ke,and_true,true_and] at hK;rw [hval])
  exact bodyPost_ret (v:=.tuple #[.slice none 0 0,.bool false]) (by simp [results,Tryz.results14,go_sem,hK,World.cell?_setCell_other,World.cell?_setCell_same'];first | done | exact ⟨rfl,rfl⟩) rfl (retRd_no hno.out W1b)
 cases hbx:boxP (cn .f32 a,cn .f32 b,cn .f32 c) (cn .f32 d,cn .f32 e,cn .f32 f)
 ·have hno:Hid (ok = false):=by unfold Hid;rw [hOk.out,hval];unfold rangeOk;rw [hbx];rfl
  go_wp2_with (first | (go_at_call 60;refine hv.mono ?_;rintro _ w2 ⟨rfl,hb1⟩;have W1b:=below_step W1b hb1;have hkept:=keepT hkept hb1 rfl;clear hK;have hK:=hkept;simp only [Kept,ka,kb,kc,kd,ke,and_true,true_and] at hK;rw [hval]) | (go_at_call 61;refine (s_box_any a b c d e f _ _ _ (by simp only [Kept,ka,kb,kc,kd,ke,and_true,true_and];simp [hK])).mono ?_;rintro _ w3 ⟨rfl,hb1⟩;have W1b:=below_step W1b hb1;have hkept:=keepT hkept hb1 rfl;clear hK;have hK:=hkept;simp only [Kept,ka,kb,kc,kd,ke,and_true,true_and] at hK;rw [hbx]))
  exact bodyPost_ret (v:=.tuple #[.slice none 0 0,.bool false]) (by simp [results,Tryz.results14,go_sem,hK,World.cell?_setCell_other,World.cell?_setCell_same'];first | done | exact ⟨rfl,rfl⟩) rfl (retRd_no hno.out W1b)
 have hyes:Hid (ok = true):=by unfold Hid;rw [hOk.out,hval];unfold rangeOk;rw [hbx];rfl
 have hl:1 ≤ ns.length ∧ ns.length ≤ 16:=by
  simp only [validS,Bool.and_eq_true,decide_eq_true_eq] at hval
  exact hval.1
 have hok:=hvok hval
 have hne:ns ≠ []:=by intro h;rw [h] at hl;simp at hl
 have hb:=hbp hne
 subst hb
 go_upto_region 3 with (first | (go_at_call 60;refine hv.mono ?_;rintro _ w2 ⟨rfl,hb1⟩;have W1b:=below_step W1b hb1;have hkept:=keepT hkept hb1 rfl;clear hK;have hK:=hkept;simp only [Kept,ka,kb,kc,kd,ke,and_true,true_and] at hK;rw [hval]) | (go_at_call 61;refine (s_box_any a b c d e f _ _ _ (by simp only [Kept,ka,kb,kc,kd,ke,and_true,true_and];simp [hK])).mono ?_;rintro _ w3 ⟨rfl,hb1⟩;have W1b:=below_step W1b hb1;have hkept:=keepT hkept hb1 rfl;clear hK;have hK:=hkept;simp only [Kept,ka,kb,kc,kd,ke,and_true,true_and] at hK;rw [hbx]))
 have hsh2:ShapeIn ns w.heap.size 0 nb no cap w3:=⟨by simp [hK],fun i h => (hsh i h).keep W1b⟩
 have hra:=s_ranges_any ns hok hl w.heap.size 0 nb no cap (w.heap.size + 1) 0 a b c d e f w3 hsh2 (by simp only [Kept,ka,kb,kc,kd,ke,and_true,true_and];simp [hK])
 clear hv hsh hbp hsh2
 go_wp2_with (go_at_call 62;refine hra.mono ?_;rintro _ w4 ⟨v,rs,rfl,hown,hrs,hb1⟩;have W1b:=below_step W1b hb1;have hkept:=keepT hkept hb1 rfl;clear hK;have hK:=hkept;simp only [Kept,ka,kb,kc,kd,ke,and_true,true_and] at hK)
 obtain ⟨g6,cap6,rfl,hg6,hg6s⟩:=hown.form (by omega)
 have hlen:rs.length = ns.length:=by have:=hown.1;rw [fr_len] at this;omega
 exact bodyPost_ret (v:=.tuple #[.slice (some ⟨g6,0,none⟩) ns.length cap6,.bool true]) (by simp [results,Tryz.results14,go_sem,hK,World.cell?_setCell_other,World.cell?_setCell_same'];first | done | exact ⟨rfl,rfl⟩) rfl (retRd_yes (A:=fun i => rs.getD i (0,0)) hyes.out (.inr ⟨g6,cap6,rfl,fun i hi => by
  obtain ⟨f0,f1⟩:=fr_get rs i (by omega)
  have hA0:=hown.cellAt (i * 2) (by omega)
  have hA1:=hown.cellAt (i * 2 + 1) (by omega)
  rw [f0] at hA0
  rw [f1] at hA1
  show _ = some (F1 (rs.getD i (0,0)).1) ∧ _ = some (F1 (rs.getD i (0,0)).2)
  rw [List.getD_eq_getElem?_getD,List.getElem?_eq_getElem (show i < rs.length by omega)]
  exact ⟨hA0,hA1⟩⟩) (fun i hi => by
  show cn2 (rs.getD i (0,0)) = _
  rw [← hrs,List.getD_eq_getElem?_getD,List.getD_eq_getElem?_getD,List.getElem?_map,List.getElem?_eq_getElem (show i < rs.length by omega)]
  rfl) W1b)
end Go.Proofs.YtbiacfkiakddiaaGreat

namespace Go.Proofs.YtbiacfkiakddiaaGreat
open Go.RowKit Go.Fl
theorem RgOwn.mono {lo lo' n:Nat} {v:Value} {A:Nat → Nat × Nat} {w:World} (h:RgOwn lo n v A w) (hl:lo' ≤ lo):RgOwn lo' n v A w:=by
 rcases h with h | ⟨g,rfl,hg,h⟩
 ·exact .inl h
 ·exact .inr ⟨g,rfl,Nat.le_trans hl hg,h⟩
theorem RgOwn.mrk {lo G hi n:Nat} {v:Value} {A:Nat → Nat × Nat} {w w':World} (h:RgOwn lo n v A w) (hm:Mrk G hi w w') (hl:hi ≤ lo):RgOwn lo n v A w':=by
 rcases h with h | ⟨g,rfl,hg,h⟩
 ·exact .inl h
 ·exact .inr ⟨g,rfl,hg,by rw [hm.high g (Nat.le_trans hl hg) (Array.getElem?_eq_some_iff.1 h).1];exact h⟩

set_option maxRecDepth 100000 in
set_option maxHeartbeats 4000000 in
theorem law_rangesin (ns:List PN) (bp:Option Addr) (nb no cap a b c d e f:Nat) (w:World) (hns:NodesIn ns bp nb no w) :
  Calls Tryz.prog 3 #[.agg #[.slice bp ns.length cap],BoxV a b c d e f] w (fun e' w' => e' = .returned (.bool true) ∧ Below w.heap.size w w'):=by
 have hsz:∀ w',Below w.heap.size w w' → Calls Tryz.prog 13 #[.agg #[.slice bp ns.length cap],.int .i64 1048576] w' (fun e w'' => e = .returned (.int .i64 (szS ns 1048576)) ∧ Below w'.heap.size w' w'') :=
  fun w' hb => sz_shape ns bp nb no cap 1048576 w' (hns.keep hb) (by omega)
 by_cases hneg:szS ns 1048576 < 0
 ·have hm:=szS_neg hneg
  rw [hm] at hsz
  clear hm hneg hns
  go_enter Tryz.func3,Tryz.ntmps3
  go_wp2_with (go_at_call 13;refine (hsz _ (by repeat' (first | exact Below.refl _ _ | exact Nat.le_refl _ | refine below_drewN ?_ _ | refine Below.alloc ?_ (by first | (simp;done) | (simp;omega)) _ | refine Below.setCell ?_ (by first | (simp;done) | (simp;omega)) _ | refine below_step ?_ (by assumption)))).mono ?_;rintro _ w2 ⟨rfl,hb2⟩)
  go_ret
  exact ⟨rfl,(by repeat' (first | exact Below.refl _ _ | exact Nat.le_refl _ | refine below_drewN ?_ _ | refine Below.alloc ?_ (by first | (simp;done) | (simp;omega)) _ | refine Below.setCell ?_ (by first | (simp;done) | (simp;omega)) _ | refine below_step ?_ (by assumption)))⟩
 ·obtain ⟨hsm,hnsm⟩:=szS_small (by omega) (by omega) hneg
  have hnum:∀ n ∈ ns,n.nums.length < 10000000:=fun n hn => by have:=hnsm n hn;omega
  have hl7:ns.length < 10000000:=by omega
  have hsp:=fun G w' hn => s_rangesin_any ns hnum (fun h => (valid_ok (by rw [← valid_same];exact h)).2) G 0 ns.length a b c d e f (some ⟨G,0,none⟩) w' (fun _ => rfl) hn hl7
  have him:=fun G w' hn => rangesin_any ns hnum G 0 ns.length a b c d e f (some ⟨G,0,none⟩) w' (fun _ => rfl) hn hl7
  rw [valid_same] at hsp
  have hLL:rangeOk (validF ns) (cn .f32 a,cn .f32 b,cn .f32 c) (cn .f32 d,cn .f32 e,cn .f32 f) = true → rangesS ns ((cn .f32 a,cn .f32 d),(cn .f32 b,cn .f32 e),(cn .f32 c,cn .f32 f)) = rangesF ns ((cn .f32 a,cn .f32 d),(cn .f32 b,cn .f32 e),(cn .f32 c,cn .f32 f)):=fun ho => by
   unfold rangeOk boxP at ho
   simp only [Bool.and_eq_true] at ho
   obtain ⟨hv,⟨⟨⟨⟨_,_⟩,h1⟩,h2⟩,h3⟩⟩:=ho
   exact (ranges_same (valid_pos hv) (p:=((cn .f32 a,cn .f32 d),(cn .f32 b,cn .f32 e),(cn .f32 c,cn .f32 f))) ⟨lek_leW h1,lek_leW h2,lek_leW h3⟩).symm
  have h16:rangeOk (validF ns) (cn .f32 a,cn .f32 b,cn .f32 c) (cn .f32 d,cn .f32 e,cn .f32 f) = true → ns.length ≤ 16:=fun ho => by
   unfold rangeOk at ho
   rw [Bool.and_eq_true] at ho
   exact (valid_ok ho.1).1.2
  generalize rangeOk (validF ns) (cn .f32 a,cn .f32 b,cn .f32 c) (cn .f32 d,cn .f32 e,cn .f32 f) = bv at *
  generalize rangesF ns ((cn .f32 a,cn .f32 d),(cn .f32 b,cn .f32 e),(cn .f32 c,cn .f32 f)) = L at *
  generalize rangesS ns ((cn .f32 a,cn .f32 d),(cn .f32 b,cn .f32 e),(cn .f32 c,cn .f32 f)) = L' at *
  have hn:(if bv then ns.length else 0) ≤ 1000000:=by
   split
   ·rename_i h;have:=h16 h;omega
   ·omega
  have hsp2:∀ G (w':World),(∀ i (h:i < ns.length),NodeNew ns[i] G (0 + i * 4) w') → Calls Tryz.prog 14 #[.agg #[.slice (some ⟨G,0,none⟩) ns.length ns.length],BoxV a b c d e f] w' (RetRd bv L ns.length w'):=fun G w' hn => (hsp G w' (fun i h => (hn i h).into)).mono fun e w'' h => by
   cases bv
   ·obtain ⟨v,A,h1,h2,h3,h4⟩:=h
    exact ⟨v,A,h1,h2,fun i hi => absurd hi (Nat.not_lt_zero _),h4⟩
   ·rw [hLL rfl] at h;exact h
  generalize hN:(if bv then ns.length else 0) = N at hn
  refine walk_rangesin ns bp nb no cap a b c d e f w hns bv _ (by omega) hsm hnsm hsz (fun v w => ∃ A,RgRead N v A w ∧ ∀ i,i < N → cn2 (A i) = L.getD i (0,0)) (fun lo v w => ∃ A,RgOwn lo N v A w ∧ ∀ i,i < N → cn2 (A i) = L.getD i (0,0)) (fun lo v w => ∃ A,RgOwn lo N v (mkO A 1 N) w) (1 + 2 * (N:Int)) (by omega)
   ?_ ?_ ?_ ?_ ?_ ?_ ?_ ?_ ?_ ?_ ?_
  ·rintro v w w' ⟨A,h1,h2⟩ hb;exact ⟨A,h1.keep hb,h2⟩
  ·rintro lo v w w' ⟨A,h1,h2⟩ hb;exact ⟨A,h1.keep hb,h2⟩
  ·rintro lo v w w' ⟨A,h1⟩ hb;exact ⟨A,h1.keep hb⟩
  ·rintro lo v w ⟨A,h1,h2⟩;exact ⟨A,h1.read,h2⟩
  ·rintro lo lo' v w ⟨A,h1,h2⟩ hl;exact ⟨A,h1.mono hl,h2⟩
  ·rintro lo G hi v w w' ⟨A,h1,h2⟩ hm hl;exact ⟨A,h1.mrk hm hl,h2⟩
  ·intro G w' hn
   refine (hsp2 G w' hn).mono ?_
   rintro e w'' ⟨v,A,rfl,h1,h2,h3⟩
   rw [hN] at h1 h2
   exact ⟨v,rfl,⟨A,h1,h2⟩,h3⟩
  ·intro G w' hn
   refine (him G w' (fun i h => (hn i h).into)).mono ?_
   rintro e w'' ⟨v,A,rfl,h1,h2,h3⟩
   rw [hN] at h1 h2
   exact ⟨v,rfl,⟨A,h1,h2⟩,h3⟩
  ·rintro u v w' ⟨A,h1,h2⟩ ⟨B,h3,h4⟩
   exact eq_rangesV hn (fun i hi => by rw [h2 i hi,h4 i hi]) h1 h3
  ·rintro lo u w' ⟨A,h1,h2⟩ hl
   refine (mark_rangesV hn ⟨by decide,by decide⟩ h1 hl).mono ?_
   rintro e w'' ⟨he,hA,hb⟩
   exact ⟨he,⟨A,hA⟩,hb⟩
  ·rintro lo u w' ⟨A,h1⟩
   refine (held_rangesV hn ⟨by decide,by decide⟩ h1).mono ?_
   rintro e w'' ⟨he,rfl⟩
   exact ⟨he,Below.refl _ _⟩
end Go.Proofs.YtbiacfkiakddiaaGreat

namespace Go.Proofs.YtbiacfkiakddiaaGreat
open Go.RowKit Go.Fl Go.ChangeShapes Go.WideShapes Go.ChangeAt
set_option maxRecDepth 100000 in
theorem lifted_ranges_in_holds (os:Os) (started:os.Started) (H:Type) (enc:TypeId × Value → H) :
  ReturnsInHanded {} Tryz.checked os 3 .any (Rows.fnExactRangesInSpec.pre6 enc Tryz.prog Tryz.f3 Rows.fnExactRangesInRow.domain false) (Rows.fnExactRangesInSpec.post enc Tryz.prog Tryz.f3 false true false false):=by
 refine returnsInHanded_of_change (C:=Tryz.checked) own_knob started (by kernel_rfl) Tryz.func3
  (ChangeSpec.witness6 (enc:=enc) (C:=Tryz.checked) false ⟨#[],#[.agg #[.slice none 0 0],.agg #[.float .f32 0,.float .f32 0,.float .f32 0,.float .f32 0,.float .f32 0,.float .f32 0]],[]⟩ 12 (by kernel_rfl) (by kernel_rfl) (by kernel_rfl) (by kernel_rfl)) ?_
 intro W base args ds gs before hval0 hW hcnd _
 have hval:∀ (j:Nat) t v,Tryz.f3.params[j]? = some t → args[j]? = some v → Value.okWide Tryz.prog W .any base t v:=hval0
 have hW':=hW
 obtain ⟨p,q,hA0,hV,rfl,hfz,hnd⟩:=hW
 have hA:DataW.TrodAll enc Tryz.prog W 0 (fun _ => true) true Tryz.f3.params.toList args.toList ds p:=hA0
 rw [Tryz.params3] at hA hval
 obtain ⟨v0,v1,d0,d1,p0,p1,rfl,rfl,rfl,h0,h1⟩:=trodAll_2 hA
 obtain ⟨rfl,rfl⟩:=trodVars_none hV
 obtain ⟨ns,bp,nb,no,cap,rfl,hns⟩:=open_shape (hval 0 24 v0 rfl rfl) h0
 obtain ⟨a,b,c,d,e,f,rfl⟩:=open_box (hval 1 29 v1 rfl rfl) h1
 clear hA0 hval0
 simp only [List.append_nil] at hW'
 have hlt:∀ m ∈ p0 ++ (p1),m.block < W.heap.size:=fun m hm => hW'.lt m hm
 refine (law_rangesin ns bp nb no cap a b c d e f W hns).mono fun e W' ⟨he,hg⟩ => ?_
 subst he
 have m0:∀ m ∈ p0,m ∈ p0 ++ (p1):=fun m h => by simp [h]
 have m1:∀ m ∈ p1,m ∈ p0 ++ (p1):=fun m h => by simp [h]
 refine ⟨_,rfl,post_below (pa:=p0 ++ (p1 ++ [])) (pv:=[]) hW' (fun _ _ _ => (trodAll_cons_mk (shut_bool Tryz.underlying4 _) trodAll_mk0)) (fun sp hsp => ?_) (fun _ _ => rfl) (by simp) hg (ok_one (by kernel_rfl) rfl (okWide_bool_mk Tryz.underlying4 _))⟩
 refine trodAll_cons_mk (WideElems.Trod_stays laid_out (by kernel_rfl) (of_decide_eq_true (by kernel_rfl)) h0 (fun m hm => hg.same (hlt m (m0 m hm))) (fun m hm => hsp m (m0 m hm))) ?_
 exact trodAll_cons_mk (WideElems.Trod_stays laid_out (by kernel_rfl) (of_decide_eq_true (by kernel_rfl)) h1 (fun m hm => hg.same (hlt m (m1 m hm))) (fun m hm => hsp m (m1 m hm))) trodAll_mk0

set_option maxRecDepth 100000 in
set_option maxHeartbeats 64000000 in
theorem closed_ranges_in_holds:joinedFacts Tryz.prog 3 Tryz.f3 Rows.fnExactRangesInSpec Rows.fnExactRangesInRow = true:=by
 unfold joinedFacts
 repeat' (with_reducible refine and_mk ?_ ?_)
 all_goals (as_aux_lemma => kernel_rfl)

set_option maxRecDepth 100000 in
theorem ranges_in_holds:Rows.FnExactRangesInSaid :=
 OpenClaim.holds_of_wide 3 Tryz.f3 rfl rfl rfl rfl rfl rfl rfl ⟨rfl,rfl,rfl,rfl,rfl⟩ rfl rfl rfl rfl rfl (by kernel_rfl) Tryz.func3 closed_ranges_in_holds
  (of_decide_eq_true (by kernel_rfl)) (by unfold Func.isWrapper;first | (rw [if_pos (by decide +kernel)];kernel_rfl) | (rw [if_neg (by decide +kernel)];exact ⟨rfl,rfl⟩))
  (fun os started H enc _ => lifted_ranges_in_holds os started H enc)
#print axioms ranges_in_holds
end Go.Proofs.YtbiacfkiakddiaaGreat
