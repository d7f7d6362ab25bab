/-
 Lemmas: D34,Rq,Rt,R17.
-/
import Derived.Test.YtbiacfkiakddiaaGreatLaa
import Derived.Carry
import Derived.ChangeSame
import Derived.Deep.Fields
import Derived.Deep.Slices
import Derived.OpenShut
import Derived.ProofKit
import Derived.Test.YtbiacfkiakddiaaGreatRows
set_option linter.unusedVariables false
set_option linter.unusedSimpArgs false
namespace Go.Proofs.YtbiacfkiakddiaaGreat
open Go.RowKit Go.Fl
inductive PhiTv (ns:List PN) (a b c d e f wd:Nat) (nx ny:Int) (lx ly lz near most:Nat) (st X Y p q:Int) (L:List UInt8) (bv:Bool):FuncId → Array Value → Value → Prop
 | view (args:Array Value) (G:Nat):PhiTv ns a b c d e f wd nx ny lx ly lz near most st X Y p q L bv 45 args (.agg #[.slice (some ⟨G,0,none⟩) ns.length ns.length,F1 a,F1 b,F1 c,F1 d,F1 e,F1 f,F1 wd,.int .i64 nx,.int .i64 ny,F1 lx,F1 ly,F1 lz,F1 near,F1 most,.int .i64 st])
 | tile (args:Array Value):PhiTv ns a b c d e f wd nx ny lx ly lz near most st X Y p q L bv 54 args (TilV X Y p q)
 | spec (args:Array Value):PhiTv ns a b c d e f wd nx ny lx ly lz near most st X Y p q L bv 53 args (.tuple #[.string ⟨L.toArray⟩,.bool bv])
 | impl (args:Array Value):PhiTv ns a b c d e f wd nx ny lx ly lz near most st X Y p q L bv 55 args (.tuple #[.string ⟨L.toArray⟩,.bool bv])

set_option maxRecDepth 100000 in
set_option maxHeartbeats 8000000 in
theorem walk_rendertile (ns:List PN) (bp:Option Addr) (cap a b c d e f wd:Nat) (nx ny:Int) (lx ly lz near most:Nat) (st:Int) (X Y p q:Int) (w:World) (sz:Int) (hpos:0 ≤ sz) (bv:Bool) (L:List UInt8)
  (hsz:∀ w',Below w.heap.size w w' → Calls Tryz.prog 43 #[.agg #[.slice bp ns.length cap,F1 a,F1 b,F1 c,F1 d,F1 e,F1 f,F1 wd,.int .i64 nx,.int .i64 ny,F1 lx,F1 ly,F1 lz,F1 near,F1 most,.int .i64 st],.int .i64 1048576] w' (fun e w'' => e = .returned (.int .i64 sz) ∧ Below w'.heap.size w' w''))
  (hto:∀ w',Below w.heap.size w w' → Calls Tryz.prog 45 #[.agg #[.slice bp ns.length cap,F1 a,F1 b,F1 c,F1 d,F1 e,F1 f,F1 wd,.int .i64 nx,.int .i64 ny,F1 lx,F1 ly,F1 lz,F1 near,F1 most,.int .i64 st]] w' (RetVw ns a b c d e f wd nx ny lx ly lz near most st w'))
  (hspec:∀ G (w':World),(∀ i (h:i < ns.length),NodeNew ns[i] G (0 + i * 4) w') → Calls Tryz.prog 53 #[.agg #[.slice (some ⟨G,0,none⟩) ns.length ns.length,F1 a,F1 b,F1 c,F1 d,F1 e,F1 f,F1 wd,.int .i64 nx,.int .i64 ny,F1 lx,F1 ly,F1 lz,F1 near,F1 most,.int .i64 st],TilV X Y p q] w' (fun e' w'' => e' = .returned (.tuple #[.string ⟨L.toArray⟩,.bool bv]) ∧ Below w'.heap.size w' w''))
  (himpl:∀ G (w':World),(∀ i (h:i < ns.length),NodeNew ns[i] G (0 + i * 4) w') → Calls Tryz.prog 55 #[.agg #[.slice (some ⟨G,0,none⟩) ns.length ns.length,F1 a,F1 b,F1 c,F1 d,F1 e,F1 f,F1 wd,.int .i64 nx,.int .i64 ny,F1 lx,F1 ly,F1 lz,F1 near,F1 most,.int .i64 st],TilV X Y p q] w' (fun e' w'' => e' = .returned (.tuple #[.string ⟨L.toArray⟩,.bool bv]) ∧ Below w'.heap.size w' w''))
  (heq:∀ G H (w':World),(∀ i (h:i < ns.length),NodeNew ns[i] G (0 + i * 4) w') → (∀ i (h:i < ns.length),NodeNew ns[i] H (0 + i * 4) w') → Calls Tryz.prog 48 #[.agg #[.slice (some ⟨G,0,none⟩) ns.length ns.length,F1 a,F1 b,F1 c,F1 d,F1 e,F1 f,F1 wd,.int .i64 nx,.int .i64 ny,F1 lx,F1 ly,F1 lz,F1 near,F1 most,.int .i64 st],.agg #[.slice (some ⟨H,0,none⟩) ns.length ns.length,F1 a,F1 b,F1 c,F1 d,F1 e,F1 f,F1 wd,.int .i64 nx,.int .i64 ny,F1 lx,F1 ly,F1 lz,F1 near,F1 most,.int .i64 st]] w' (fun e w'' => e = .returned (.bool true) ∧ Below w'.heap.size w' w'')) :
  Calls Tryz.prog 11 #[.agg #[.slice bp ns.length cap,F1 a,F1 b,F1 c,F1 d,F1 e,F1 f,F1 wd,.int .i64 nx,.int .i64 ny,F1 lx,F1 ly,F1 lz,F1 near,F1 most,.int .i64 st],TilV X Y p q] w (fun e' w' => e' = .returned (.bool true) ∧ Below w.heap.size w w'):=by
 go_enter Tryz.func11,Tryz.ntmps11
 go_upto_region 2 with fail
 generalize hW:(w.alloc (.cells #[.slice bp ns.length cap,F1 a,F1 b,F1 c,F1 d,F1 e,F1 f,F1 wd,.int .i64 nx,.int .i64 ny,F1 lx,F1 ly,F1 lz,F1 near,F1 most,.int .i64 st] 78)).alloc (.cells #[.int .i64 X,.int .i64 Y,.int .i64 p,.int .i64 q] 97) = W1 at *
 have W1b:Below w.heap.size w W1:=by subst hW;exact (by repeat' (first | exact Below.refl _ _ | exact Nat.le_refl _ | refine below_drewN ?_ _ | refine Below.alloc ?_ (by simp <;> omega) _ | refine Below.setCell ?_ (by simp <;> omega) _ | refine below_step ?_ (by assumption)))
 have hkept:Kept [(⟨w.heap.size,0,none⟩,.slice bp ns.length cap),(⟨w.heap.size,1,none⟩,F1 a),(⟨w.heap.size,2,none⟩,F1 b),(⟨w.heap.size,3,none⟩,F1 c),(⟨w.heap.size,4,none⟩,F1 d),(⟨w.heap.size,5,none⟩,F1 e),(⟨w.heap.size,6,none⟩,F1 f),(⟨w.heap.size,7,none⟩,F1 wd),(⟨w.heap.size,8,none⟩,.int .i64 nx),(⟨w.heap.size,9,none⟩,.int .i64 ny),(⟨w.heap.size,10,none⟩,F1 lx),(⟨w.heap.size,11,none⟩,F1 ly),(⟨w.heap.size,12,none⟩,F1 lz),(⟨w.heap.size,13,none⟩,F1 near),(⟨w.heap.size,14,none⟩,F1 most),(⟨w.heap.size,15,none⟩,.int .i64 st),(⟨w.heap.size + 1,0,none⟩,.int .i64 X),(⟨w.heap.size + 1,1,none⟩,.int .i64 Y),(⟨w.heap.size + 1,2,none⟩,.int .i64 p),(⟨w.heap.size + 1,3,none⟩,.int .i64 q)] [] W1:=by
  subst hW;simp only [Kept,ka,kb,kc,kd,ke,kfa,kga];(first | (go_simp;done) | (simp [World.cell?,World.frozen?,World.alloc,Array.getElem?_push];done))
 clear hW
 have hK:=hkept;simp only [Kept,ka,kb,kc,kd,ke,kfa,kga] at hK
 go_upto_region 5 with (go_at_call 43;refine (hsz _ W1b).mono ?_;rintro _ w2 ⟨rfl,hb1⟩;have W1b:=below_step W1b hb1;have hkept:=keepT hkept hb1 rfl;clear hK;have hK:=hkept;simp only [Kept,ka,kb,kc,kd,ke,kfa,kga] at hK)
 clear hK hb1 hsz
 refine Qg.wp_gd_all (by kernel_rfl) (by kernel_rfl) (PhiTv ns a b c d e f wd nx ny lx ly lz near most st X Y p q L bv) (GdW ns [] 18 (VwN ns)) [] (gdw_lasts _ _ _ VwN.keep) (gdw_start (by intro d hd;simp at hd;rcases hd with rfl;rfl)) ?_
 intro hC0
 repeat (first
  | (refine Qg.walk_step fun K hK => ?_;apply Qg.one_det hC0 (by intro d hd;cases hd;decide) rfl;(focus (intro w' hw';have HK:=keep hkept hw';simp only [Kept,ka,kb,kc,kd,ke,kfa,kga] at HK;go_simp;first | done | rfl));(focus (intro w' hw' hs;exact gdw_no (by decide) (by decide)));go_simp;refine hK _ ?_;clear hK K)
  | (refine Qg.walk_step fun K hK => ?_;apply Qg.one_call _ _ hC0 (by intro d hd;cases hd;decide) rfl;(focus (intro w' hw';go_simp;first | done | exact ⟨rfl,rfl⟩));(focus (apply Exists.intro;(constructor <;> first | exact (0:Nat) | exact undef)));(focus (intro w' hw' hs; go_at_call 45;(refine (hto _ (below_step W1b hw')).mono ?_);rintro _ wA ⟨G,rfl,hnew,hG,hb1⟩;exact ⟨_,rfl,PhiTv.view _ _,gdw_res (by decide) (VwN.mk hnew),below_step hw' hb1,hb1⟩));intro v hv;cases hv;go_simp;refine hK _ ?_;clear hK K)
  | (refine Qg.walk_step fun K hK => ?_;apply Qg.one_call _ _ hC0 (by intro d hd;cases hd;decide) rfl;(focus (intro w' hw';go_simp;first | done | exact ⟨rfl,rfl⟩));(focus (apply Exists.intro;(constructor <;> first | exact (0:Nat) | exact undef)));(focus (intro w' hw' hs; go_at_call 54;refine (to_tile X Y p q _).mono ?_;rintro _ wA ⟨rfl,hb1⟩;exact ⟨_,rfl,PhiTv.tile _,gdw_no (by decide) (by decide),below_step hw' hb1,hb1⟩));intro v hv;cases hv;go_simp;refine hK _ ?_;clear hK K)
  | (refine Qg.walk_step fun K hK => ?_;apply Qg.one_call _ _ hC0 (by intro d hd;cases hd;decide) rfl;(focus (intro w' hw';go_simp;first | done | exact ⟨rfl,rfl⟩));(focus (apply Exists.intro;(constructor <;> first | exact (0:Nat) | exact undef)));(focus (intro w' hw' hs; have hq:=(hs 18 (of_decide_eq_true (by kernel_rfl))).2 rfl;rcases hq with hq | hq;(focus (cases hq));go_at_call 53;refine (hspec _ _ (hq _ _ _ _ _ _ _ _ _ _ _ _ _ _ _ _ rfl)).mono ?_;rintro _ wA ⟨rfl,hb1⟩;exact ⟨_,rfl,PhiTv.spec _,gdw_no (by decide) (by decide),below_step hw' hb1,hb1⟩));intro v hv;cases hv;go_simp;refine hK _ ?_;clear hK K))
 refine Qg.walk_nil fun w4 hw4 hE => ?_
 clear hE hC0 hspec
 have W1b:=below_step W1b hw4
 have hkept:=keep hkept hw4
 clear hw4
 have hK:=hkept;simp only [Kept,ka,kb,kc,kd,ke,kfa,kga] at hK
 as_aux_lemma =>
  go_upto_region 7 with (go_at_call 45;refine (hto _ W1b).mono ?_;rintro _ w5 ⟨H,rfl,hnewH,hH,hb1⟩)
  have hb2:Below w5.heap.size w5 (w5.alloc (.cells #[.slice (some ⟨H,0,none⟩) ns.length ns.length,F1 a,F1 b,F1 c,F1 d,F1 e,F1 f,F1 wd,.int .i64 nx,.int .i64 ny,F1 lx,F1 ly,F1 lz,F1 near,F1 most,.int .i64 st] 86)):=(Below.refl _ _).alloc (Nat.le_refl _) _
  have hkept:=kept_app (keep (keep hkept hb1) hb2) (show Kept [(⟨w5.heap.size,0,none⟩,.slice (some ⟨H,0,none⟩) ns.length ns.length),(⟨w5.heap.size,1,none⟩,F1 a),(⟨w5.heap.size,2,none⟩,F1 b),(⟨w5.heap.size,3,none⟩,F1 c),(⟨w5.heap.size,4,none⟩,F1 d),(⟨w5.heap.size,5,none⟩,F1 e),(⟨w5.heap.size,6,none⟩,F1 f),(⟨w5.heap.size,7,none⟩,F1 wd),(⟨w5.heap.size,8,none⟩,.int .i64 nx),(⟨w5.heap.size,9,none⟩,.int .i64 ny),(⟨w5.heap.size,10,none⟩,F1 lx),(⟨w5.heap.size,11,none⟩,F1 ly),(⟨w5.heap.size,12,none⟩,F1 lz),(⟨w5.heap.size,13,none⟩,F1 near),(⟨w5.heap.size,14,none⟩,F1 most),(⟨w5.heap.size,15,none⟩,.int .i64 st)] [] (w5.alloc (.cells #[.slice (some ⟨H,0,none⟩) ns.length ns.length,F1 a,F1 b,F1 c,F1 d,F1 e,F1 f,F1 wd,.int .i64 nx,.int .i64 ny,F1 lx,F1 ly,F1 lz,F1 near,F1 most,.int .i64 st] 86)) by simp only [Kept,ka,kb,kc,kd,ke,kfa,kga];simp)
  have W1b:=below_step (below_step W1b hb1) hb2
  have hnewH:=fun i h => NodeNew.keep (hnewH i h) hb2
  clear hK hb1 hH
  generalize w5.alloc (.cells #[.slice (some ⟨H,0,none⟩) ns.length ns.length,F1 a,F1 b,F1 c,F1 d,F1 e,F1 f,F1 wd,.int .i64 nx,.int .i64 ny,F1 lx,F1 ly,F1 lz,F1 near,F1 most,.int .i64 st] 86) = w6 at *
  generalize w5.heap.size = gv at *
  clear hb2
  have hK:=hkept;simp only [Kept,ka,kb,kc,kd,ke,kfa,kga] at hK
  have hbb:(bv != bv) = false:=by simp
  clear hK
  refine Qg.wp_gd_all (by kernel_rfl) (by kernel_rfl) (PhiTv ns a b c d e f wd nx ny lx ly lz near most st X Y p q L bv) (GdW ns [] 100000 (fun _ _ => True)) [] (gdw_lasts _ _ _ (fun _ _ _ h _ => h)) (gdw_start (by intro d hd;simp at hd;rcases hd with rfl;rfl)) ?_
  intro hC0
  repeat (first
   | (refine Qg.walk_step fun K hK => ?_;apply Qg.one_det hC0 (by intro d hd;cases hd;decide) rfl;(focus (intro w' hw';have HK:=keep hkept hw';simp only [Kept,ka,kb,kc,kd,ke,kfa,kga] at HK;go_simp;first | done | rfl));(focus (intro w' hw' hs;exact gdw_no (by decide) (by decide)));go_simp;refine hK _ ?_;clear hK K)
   | (refine Qg.walk_step fun K hK => ?_;apply Qg.one_call _ _ hC0 (by intro d hd;cases hd;decide) rfl;(focus (intro w' hw';go_simp;first | done | exact ⟨rfl,rfl⟩));(focus (apply Exists.intro;(constructor <;> first | exact (0:Nat) | exact undef)));(focus (intro w' hw' hs; go_at_call 54;refine (to_tile X Y p q _).mono ?_;rintro _ wA ⟨rfl,hb1⟩;exact ⟨_,rfl,PhiTv.tile _,gdw_no (by decide) (by decide),below_step hw' hb1,hb1⟩));intro v hv;cases hv;go_simp;refine hK _ ?_;clear hK K)
   | (refine Qg.walk_step fun K hK => ?_;apply Qg.one_call _ _ hC0 (by intro d hd;cases hd;decide) rfl;(focus (intro w' hw';go_simp;first | done | exact ⟨rfl,rfl⟩));(focus (apply Exists.intro;(constructor <;> first | exact (0:Nat) | exact undef)));(focus (intro w' hw' hs; go_at_call 55;refine (himpl _ _ (fun i h => (hnewH i h).keep hw')).mono ?_;rintro _ wA ⟨rfl,hb1⟩;exact ⟨_,rfl,PhiTv.impl _,gdw_no (by decide) (by decide),below_step hw' hb1,hb1⟩));intro v hv;cases hv;go_simp;refine hK _ ?_;clear hK K))
  refine Qg.walk_nil fun w7 hw7 hE => ?_
  clear hE hC0
  have W1b:=below_step W1b hw7
  have hkept:=keep hkept hw7
  have hnewH:=fun i h => NodeNew.keep (hnewH i h) hw7
  clear hw7
  have hK:=hkept;simp only [Kept,ka,kb,kc,kd,ke,kfa,kga] at hK
  go_upto_region 10 with fail
  as_aux_lemma =>
   clear hK himpl
   try clear hb1 hsz hspec
   refine Qg.wp_gd_all (by kernel_rfl) (by kernel_rfl) (PhiVw ns a b c d e f wd nx ny lx ly lz near most st) (GdW ns [] 43 (VwN ns)) [] (gdw_lasts _ _ _ VwN.keep) (gdw_start (by intro d hd;simp at hd;rcases hd with rfl;rfl)) ?_
   intro hC0
   repeat (first
     | (refine Qg.walk_step fun K hK => ?_;apply Qg.one_det hC0 (by intro d hd;cases hd;decide) rfl;(focus (intro w' hw';have HK:=keep hkept hw';simp only [Kept,ka,kb,kc,kd,ke,kfa,kga] at HK;go_simp;first | done | rfl));(focus (intro w' hw' hs;exact gdw_no (by decide) (by decide)));go_simp;refine hK _ ?_;clear hK K)
     | (refine Qg.walk_step fun K hK => ?_;apply Qg.one_call _ _ hC0 (by intro d hd;cases hd;decide) rfl;(focus (intro w' hw';go_simp;first | done | exact ⟨rfl,rfl⟩));(focus (apply Exists.intro;(constructor <;> first | exact (0:Nat) | exact undef)));(focus (intro w' hw' hs; go_at_call 45;(refine (hto _ (below_step W1b hw')).mono ?_);rintro _ wA ⟨G,rfl,hnew,hG,hb1⟩;exact ⟨_,rfl,PhiVw.view _ _,gdw_res (by decide) (VwN.mk hnew),below_step hw' hb1,hb1⟩));intro v hv;cases hv;go_simp;refine hK _ ?_;clear hK K)
     | (refine Qg.walk_step fun K hK => ?_;apply Qg.one_call _ _ hC0 (by intro d hd;cases hd;decide) rfl;(focus (intro w' hw';go_simp;first | done | exact ⟨rfl,rfl⟩));(focus (apply Exists.intro;(constructor <;> first | exact (0:Nat) | exact undef)));(focus (intro w' hw' hs; have hq:=(hs 43 (of_decide_eq_true (by kernel_rfl))).2 rfl;rcases hq with hq | hq;(focus (cases hq));go_at_call 48;refine (heq _ _ _ (fun i h => (hnewH i h).keep hw') (hq _ _ _ _ _ _ _ _ _ _ _ _ _ _ _ _ rfl)).mono ?_;rintro _ wA ⟨rfl,hb1⟩;exact ⟨_,rfl,PhiVw.eqv _,gdw_no (by decide) (by decide),below_step hw' hb1,hb1⟩));intro v hv;cases hv;go_simp;refine hK _ ?_;clear hK K))
   refine Qg.walk_nil fun w11 hw11 hE => ?_
   have W1b:=below_step W1b hw11
   clear hE hC0
   go_wp2_with fail
   go_ret
   exact ⟨rfl,W1b⟩

set_option maxRecDepth 100000 in
set_option maxHeartbeats 8000000 in
theorem law_rendertile (ns:List PN) (bp:Option Addr) (nb no cap a b c d e f wd:Nat) (nx ny:Int) (lx ly lz near most:Nat) (st:Int) (X Y p q:Int) (w:World) (hns:NodesIn ns bp nb no w) :
  Calls Tryz.prog 11 #[.agg #[.slice bp ns.length cap,F1 a,F1 b,F1 c,F1 d,F1 e,F1 f,F1 wd,.int .i64 nx,.int .i64 ny,F1 lx,F1 ly,F1 lz,F1 near,F1 most,.int .i64 st],TilV X Y p q] w (fun e' w' => e' = .returned (.bool true) ∧ Below w.heap.size w w'):=by
 have hsz:∀ w',Below w.heap.size w w' → Calls Tryz.prog 43 #[.agg #[.slice bp ns.length cap,F1 a,F1 b,F1 c,F1 d,F1 e,F1 f,F1 wd,.int .i64 nx,.int .i64 ny,F1 lx,F1 ly,F1 lz,F1 near,F1 most,.int .i64 st],.int .i64 1048576] w' (fun e w'' => e = .returned (.int .i64 (szS ns 1048576)) ∧ Below w'.heap.size w' w'') :=
  fun w' hb => sz_view ns bp nb no cap a b c d e f wd nx ny lx ly lz near most st w' (hns.keep hb)
 by_cases hneg:szS ns 1048576 < 0
 ·have hm:=szS_neg hneg
  rw [hm] at hsz
  clear hm hneg hns
  go_enter Tryz.func11,Tryz.ntmps11
  go_upto_region 2 with fail
  generalize hW:(w.alloc (.cells #[.slice bp ns.length cap,F1 a,F1 b,F1 c,F1 d,F1 e,F1 f,F1 wd,.int .i64 nx,.int .i64 ny,F1 lx,F1 ly,F1 lz,F1 near,F1 most,.int .i64 st] 78)).alloc (.cells #[.int .i64 X,.int .i64 Y,.int .i64 p,.int .i64 q] 97) = W1 at *
  have W1b:Below w.heap.size w W1:=by subst hW;exact (by repeat' (first | exact Below.refl _ _ | exact Nat.le_refl _ | refine below_drewN ?_ _ | refine Below.alloc ?_ (by simp <;> omega) _ | refine Below.setCell ?_ (by simp <;> omega) _ | refine below_step ?_ (by assumption)))
  have hkept:Kept [(⟨w.heap.size,0,none⟩,.slice bp ns.length cap),(⟨w.heap.size,1,none⟩,F1 a),(⟨w.heap.size,2,none⟩,F1 b),(⟨w.heap.size,3,none⟩,F1 c),(⟨w.heap.size,4,none⟩,F1 d),(⟨w.heap.size,5,none⟩,F1 e),(⟨w.heap.size,6,none⟩,F1 f),(⟨w.heap.size,7,none⟩,F1 wd),(⟨w.heap.size,8,none⟩,.int .i64 nx),(⟨w.heap.size,9,none⟩,.int .i64 ny),(⟨w.heap.size,10,none⟩,F1 lx),(⟨w.heap.size,11,none⟩,F1 ly),(⟨w.heap.size,12,none⟩,F1 lz),(⟨w.heap.size,13,none⟩,F1 near),(⟨w.heap.size,14,none⟩,F1 most),(⟨w.heap.size,15,none⟩,.int .i64 st),(⟨w.heap.size + 1,0,none⟩,.int .i64 X),(⟨w.heap.size + 1,1,none⟩,.int .i64 Y),(⟨w.heap.size + 1,2,none⟩,.int .i64 p),(⟨w.heap.size + 1,3,none⟩,.int .i64 q)] [] W1:=by
   subst hW;simp only [Kept,ka,kb,kc,kd,ke,kfa,kga];(first | (go_simp;done) | (simp [World.cell?,World.frozen?,World.alloc,Array.getElem?_push];done))
  clear hW
  have hK:=hkept;simp only [Kept,ka,kb,kc,kd,ke,kfa,kga] at hK
  go_wp2_with (go_at_call 43;refine (hsz _ W1b).mono ?_;rintro _ w2 ⟨rfl,hb2⟩;have W1b:=below_step W1b hb2)
  go_ret
  exact ⟨rfl,W1b⟩
 obtain ⟨hsm,hnsm⟩:=szS_small (by omega) (by omega) hneg
 have hpos:0 ≤ szS ns 1048576:=by omega
 clear hneg
 generalize szS ns 1048576 = sz at *
 have hnum:∀ n ∈ ns,n.nums.length < 10000000:=fun n hn => by have:=hnsm n hn;omega
 have hl7:ns.length < 10000000:=by omega
 have hto:∀ w',Below w.heap.size w w' → Calls Tryz.prog 45 #[.agg #[.slice bp ns.length cap,F1 a,F1 b,F1 c,F1 d,F1 e,F1 f,F1 wd,.int .i64 nx,.int .i64 ny,F1 lx,F1 ly,F1 lz,F1 near,F1 most,.int .i64 st]] w' (RetVw ns a b c d e f wd nx ny lx ly lz near most st w'):=fun w' hb => to_view ns bp cap a b c d e f wd nx ny lx ly lz near most st w' (fun w'' hb' => to_shape ns hsm hnsm bp nb no cap w'' (hns.keep (below_step hb hb')))
 have hsp:=fun G w' hn => s_rtile_any ns hnum G 0 ns.length a b c d e f wd nx ny lx ly lz near most st (some ⟨G,0,none⟩) w' (fun _ => rfl) hn hl7 (fun h => (valid_ok (by rw [← valid_same];exact h)).2) X Y p q
 have him:=fun G w' hn => rtile_any ns hnum G 0 ns.length a b c d e f wd nx ny lx ly lz near most st (some ⟨G,0,none⟩) w' (fun _ => rfl) hn hl7 X Y p q
 rw [valid_same] at hsp
 unfold RetPic at hsp him
 simp only [pic_same] at hsp
 generalize (viewOk (validF ns) (cv a b c) (cv d e f) (cn .f32 wd) nx ny (cv lx ly lz) (cn .f32 near) (cn .f32 most) st && tileOk nx ny X Y p q) = bv at *
 generalize (if bv = true then picB (fun x y => shadeF (topF ns) capF (fun F T mo => marchGo (topF ns) F T (slopeF ns) (cn .f32 near) mo st.toNat 1 0) (cv a b c) (wayP (cv a b c) (cv d e f) (cn .f32 wd) nx ny x y) (cv lx ly lz) (cn .f32 near) (cn .f32 most)) X Y p.toNat q.toNat else []) = L at *
 have hspec:∀ G (w':World),(∀ i (h:i < ns.length),NodeNew ns[i] G (0 + i * 4) w') → Calls Tryz.prog 53 #[.agg #[.slice (some ⟨G,0,none⟩) ns.length ns.length,F1 a,F1 b,F1 c,F1 d,F1 e,F1 f,F1 wd,.int .i64 nx,.int .i64 ny,F1 lx,F1 ly,F1 lz,F1 near,F1 most,.int .i64 st],TilV X Y p q] w' (fun e' w'' => e' = .returned (.tuple #[.string ⟨L.toArray⟩,.bool bv]) ∧ Below w'.heap.size w' w''):=fun G w' hn => hsp G w' (fun i h => (hn i h).into)
 have himpl:∀ G (w':World),(∀ i (h:i < ns.length),NodeNew ns[i] G (0 + i * 4) w') → Calls Tryz.prog 55 #[.agg #[.slice (some ⟨G,0,none⟩) ns.length ns.length,F1 a,F1 b,F1 c,F1 d,F1 e,F1 f,F1 wd,.int .i64 nx,.int .i64 ny,F1 lx,F1 ly,F1 lz,F1 near,F1 most,.int .i64 st],TilV X Y p q] w' (fun e' w'' => e' = .returned (.tuple #[.string ⟨L.toArray⟩,.bool bv]) ∧ Below w'.heap.size w' w''):=fun G w' hn => him G w' (fun i h => (hn i h).into)
 clear hsp him
 have heq:∀ G H (w':World),(∀ i (h:i < ns.length),NodeNew ns[i] G (0 + i * 4) w') → (∀ i (h:i < ns.length),NodeNew ns[i] H (0 + i * 4) w') → Calls Tryz.prog 48 #[.agg #[.slice (some ⟨G,0,none⟩) ns.length ns.length,F1 a,F1 b,F1 c,F1 d,F1 e,F1 f,F1 wd,.int .i64 nx,.int .i64 ny,F1 lx,F1 ly,F1 lz,F1 near,F1 most,.int .i64 st],.agg #[.slice (some ⟨H,0,none⟩) ns.length ns.length,F1 a,F1 b,F1 c,F1 d,F1 e,F1 f,F1 wd,.int .i64 nx,.int .i64 ny,F1 lx,F1 ly,F1 lz,F1 near,F1 most,.int .i64 st]] w' (fun e w'' => e = .returned (.bool true) ∧ Below w'.heap.size w' w'') :=
  fun G H w' h1 h2 => eq_view ns G H a b c d e f wd nx ny lx ly lz near most st w' (fun w'' hb => eq_shape ns hsm hnsm G H _ _ w'' (fun i h => (h1 i h).keep hb) (fun i h => (h2 i h).keep hb))
 exact walk_rendertile ns bp cap a b c d e f wd nx ny lx ly lz near most st X Y p q w sz hpos bv L hsz hto hspec himpl heq
end Go.Proofs.YtbiacfkiakddiaaGreat

namespace Go.Proofs.YtbiacfkiakddiaaGreat
open Go.RowKit Go.Fl Go.ChangeShapes Go.WideShapes Go.ChangeAt
theorem trodAll_2 {H:Type} {enc:TypeId × Value → H} {P:Program} {w:World} {base:Nat} {spare:Nat → Bool} {held:Bool} {t0 t1:TypeId} {args:Array Value} {ds:List (DataW H)} {ps:List MemPlace} (h:DataW.TrodAll enc P w base spare held [t0,t1] args.toList ds ps) :
  ∃ v0 v1 d0 d1 p0 p1,args = #[v0,v1] ∧ ds = [d0,d1] ∧ ps = p0 ++ (p1 ++ []) ∧ DataW.Trod enc P w base spare held t0 v0 d0 p0 ∧ DataW.Trod enc P w base spare held t1 v1 d1 p1:=by
 obtain ⟨v0,vs0,d0,ds0,p0,q0,hargs,rfl,rfl,hd0,hrest⟩:=trodAll_cons h
 obtain ⟨v1,vs1,d1,ds1,p1,q1,rfl,rfl,rfl,hd1,hrest⟩:=trodAll_cons hrest
 obtain ⟨rfl,rfl,rfl⟩:=trodAll_nil hrest
 exact ⟨v0,v1,d0,d1,p0,p1,by cases args;simp_all,rfl,rfl,hd0,hd1⟩

end Go.Proofs.YtbiacfkiakddiaaGreat

namespace Go.Proofs.YtbiacfkiakddiaaGreat
open Go.RowKit Go.Fl Go.ChangeShapes Go.WideShapes Go.ChangeAt
set_option maxRecDepth 100000 in
theorem open_tile {H:Type} {enc:TypeId × Value → H} {w:World} {base b0:Nat} {r:Reach} {spare:Nat → Bool} {held:Bool} {v:Value} {d:DataW H} {p:List MemPlace} (hv:Value.okWide Tryz.prog w r b0 97 v) (h:DataW.Trod enc Tryz.prog w base spare held 97 v d p) :
  ∃ X Y p q:Int,v = .agg #[.int .i64 X,.int .i64 Y,.int .i64 p,.int .i64 q]:=by
 obtain ⟨cs,rfl,hsz⟩:=okWide_struct Tryz.underlying97 hv
 have hC:Tryz.prog.cellsOf 97 = 4:=by kernel_rfl
 obtain ⟨l⟩:=cs
 obtain ⟨c0,c1,c2,c3,rfl⟩:=quad4 (show l.length = 4 from hsz.trans hC)
 obtain ⟨fuel,hf⟩:=h
 obtain ⟨ys,n',-,-,-,hyl,hg⟩:=DataW.trod_struct Tryz.underlying97 hf
 obtain ⟨y0,y1,y2,y3,rfl⟩:=quad4 (hyl.trans rfl)
 have t0:DataW.trod enc Tryz.prog w base spare held n' 2 [c0] = some y0:=hg 0 _ rfl
 have t1:DataW.trod enc Tryz.prog w base spare held n' 2 [c1] = some y1:=hg 1 _ rfl
 have t2:DataW.trod enc Tryz.prog w base spare held n' 2 [c2] = some y2:=hg 2 _ rfl
 have t3:DataW.trod enc Tryz.prog w base spare held n' 2 [c3] = some y3:=hg 3 _ rfl
 obtain ⟨x,e0⟩:=trod_i64 t0
 obtain ⟨y,e1⟩:=trod_i64 t1
 obtain ⟨n,e2⟩:=trod_i64 t2
 obtain ⟨m,e3⟩:=trod_i64 t3
 injection e0 with e0
 injection e1 with e1
 injection e2 with e2
 injection e3 with e3
 exact ⟨x,y,n,m,by rw [e0,e1,e2,e3]⟩
end Go.Proofs.YtbiacfkiakddiaaGreat

namespace Go.Proofs.YtbiacfkiakddiaaGreat
open Go.RowKit Go.Fl Go.ChangeShapes Go.WideShapes Go.ChangeAt
set_option maxRecDepth 100000 in
theorem lifted_render_tile_holds (os:Os) (started:os.Started) (H:Type) (enc:TypeId × Value → H) :
  ReturnsInHanded {} Tryz.checked os 11 .any (Rows.fnExactRenderTileSpec.pre6 enc Tryz.prog Tryz.f11 Rows.fnExactRenderTileRow.domain false) (Rows.fnExactRenderTileSpec.post enc Tryz.prog Tryz.f11 false true false false):=by
 refine returnsInHanded_of_change (C:=Tryz.checked) own_knob started (by kernel_rfl) Tryz.func11
  (ChangeSpec.witness6 (enc:=enc) (C:=Tryz.checked) false ⟨#[],#[.agg #[.slice none 0 0,F1 0,F1 0,F1 0,F1 0,F1 0,F1 0,F1 0,.int .i64 0,.int .i64 0,F1 0,F1 0,F1 0,F1 0,F1 0,.int .i64 0],.agg #[.int .i64 0,.int .i64 0,.int .i64 0,.int .i64 0]],[]⟩ 12 (by kernel_rfl) (by kernel_rfl) (by kernel_rfl) (by kernel_rfl)) ?_
 intro W base args ds gs before hval0 hW hcnd _
 have hval:∀ (j:Nat) t v,Tryz.f11.params[j]? = some t → args[j]? = some v → Value.okWide Tryz.prog W .any base t v:=hval0
 have hW':=hW
 obtain ⟨p,q,hA0,hV,rfl,hfz,hnd⟩:=hW
 have hA:DataW.TrodAll enc Tryz.prog W 0 (fun _ => true) true Tryz.f11.params.toList args.toList ds p:=hA0
 rw [Tryz.params11] at hA hval
 obtain ⟨v0,v1,d0,d1,p0,p1,rfl,rfl,rfl,h0,h1⟩:=trodAll_2 hA
 obtain ⟨rfl,rfl⟩:=trodVars_none hV
 obtain ⟨ns,bp,nb,no,cap,a,b,c,d,e,f,wd,nx,ny,lx,ly,lz,near,most,st,rfl,hns⟩:=open_view (hval 0 78 v0 rfl rfl) h0
 obtain ⟨X,Y,tw,th,rfl⟩:=open_tile (hval 1 97 v1 rfl rfl) h1
 clear hA0 hval0
 simp only [List.append_nil] at hW'
 have hlt:∀ m ∈ p0 ++ (p1),m.block < W.heap.size:=fun m hm => hW'.lt m hm
 refine (law_rendertile ns bp nb no cap a b c d e f wd nx ny lx ly lz near most st X Y tw th W hns).mono fun e W' ⟨he,hg⟩ => ?_
 subst he
 have m0:∀ m ∈ p0,m ∈ p0 ++ (p1):=fun m h => by simp [h]
 have m1:∀ m ∈ p1,m ∈ p0 ++ (p1):=fun m h => by simp [h]
 refine ⟨_,rfl,post_below (pa:=p0 ++ (p1 ++ [])) (pv:=[]) hW' (fun _ _ _ => (trodAll_cons_mk (shut_bool Tryz.underlying4 _) trodAll_mk0)) (fun sp hsp => ?_) (fun _ _ => rfl) (by simp) hg (ok_one (by kernel_rfl) rfl (okWide_bool_mk Tryz.underlying4 _))⟩
 refine trodAll_cons_mk (WideElems.Trod_stays laid_out (by kernel_rfl) (of_decide_eq_true (by kernel_rfl)) h0 (fun m hm => hg.same (hlt m (m0 m hm))) (fun m hm => hsp m (m0 m hm))) ?_
 exact trodAll_cons_mk (WideElems.Trod_stays laid_out (by kernel_rfl) (of_decide_eq_true (by kernel_rfl)) h1 (fun m hm => hg.same (hlt m (m1 m hm))) (fun m hm => hsp m (m1 m hm))) trodAll_mk0

set_option maxRecDepth 100000 in
set_option maxHeartbeats 64000000 in
theorem closed_render_tile_holds:joinedFacts Tryz.prog 11 Tryz.f11 Rows.fnExactRenderTileSpec Rows.fnExactRenderTileRow = true:=by
 unfold joinedFacts
 repeat' (with_reducible refine and_mk ?_ ?_)
 all_goals (as_aux_lemma => kernel_rfl)

set_option maxRecDepth 100000 in
theorem render_tile_holds:Rows.FnExactRenderTileSaid :=
 OpenClaim.holds_of_wide 11 Tryz.f11 rfl rfl rfl rfl rfl rfl rfl ⟨rfl,rfl,rfl,rfl,rfl⟩ rfl rfl rfl rfl rfl (by kernel_rfl) Tryz.func11 closed_render_tile_holds
  (of_decide_eq_true (by kernel_rfl)) (by unfold Func.isWrapper;first | (rw [if_pos (by decide +kernel)];kernel_rfl) | (rw [if_neg (by decide +kernel)];exact ⟨rfl,rfl⟩))
  (fun os started H enc _ => lifted_render_tile_holds os started H enc)
#print axioms render_tile_holds
end Go.Proofs.YtbiacfkiakddiaaGreat
