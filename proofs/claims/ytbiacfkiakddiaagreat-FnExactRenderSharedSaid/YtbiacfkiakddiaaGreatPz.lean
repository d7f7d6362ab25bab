/-
 Lemmas: D33,Rq,R16.
-/
import Derived.Test.YtbiacfkiakddiaaGreatPaa
import Derived.Carry
import Derived.ChangeSame
import Derived.Deep.Fields
import Derived.Deep.Slices
import Derived.OpenShut
import Derived.ProofKit
import Derived.Test.YtbiacfkiakddiaaGreatRows
set_option linter.unusedVariables false
set_option linter.unusedSimpArgs false
namespace Go.Proofs.YtbiacfkiakddiaaGreat
open Go.RowKit Go.Fl
set_option maxRecDepth 100000 in
set_option maxHeartbeats 8000000 in
theorem walk_rendershared (ns:List PN) (bp:Option Addr) (cap a b c d e f wd:Nat) (nx ny:Int) (lx ly lz near most:Nat) (st:Int) (size wk:Int) (w:World) (sz:Int) (hpos:0 ≤ sz) (bv:Bool) (L:List UInt8)
  (hsz:∀ w',Below w.heap.size w w' → Calls Tryz.prog 43 #[.agg #[.slice bp ns.length cap,F1 a,F1 b,F1 c,F1 d,F1 e,F1 f,F1 wd,.int .i64 nx,.int .i64 ny,F1 lx,F1 ly,F1 lz,F1 near,F1 most,.int .i64 st],.int .i64 1048576] w' (fun e w'' => e = .returned (.int .i64 sz) ∧ Below w'.heap.size w' w''))
  (hto:∀ w',Below w.heap.size w w' → Calls Tryz.prog 45 #[.agg #[.slice bp ns.length cap,F1 a,F1 b,F1 c,F1 d,F1 e,F1 f,F1 wd,.int .i64 nx,.int .i64 ny,F1 lx,F1 ly,F1 lz,F1 near,F1 most,.int .i64 st]] w' (RetVw ns a b c d e f wd nx ny lx ly lz near most st w'))
  (hspec:∀ G (w':World),(∀ i (h:i < ns.length),NodeNew ns[i] G (0 + i * 4) w') → Calls Tryz.prog 51 #[.agg #[.slice (some ⟨G,0,none⟩) ns.length ns.length,F1 a,F1 b,F1 c,F1 d,F1 e,F1 f,F1 wd,.int .i64 nx,.int .i64 ny,F1 lx,F1 ly,F1 lz,F1 near,F1 most,.int .i64 st],.int .i64 size,.int .i64 wk] w' (fun e' w'' => e' = .returned (.tuple #[.string ⟨L.toArray⟩,.bool bv]) ∧ Below w'.heap.size w' w''))
  (himpl:∀ G (w':World),(∀ i (h:i < ns.length),NodeNew ns[i] G (0 + i * 4) w') → Calls Tryz.prog 52 #[.agg #[.slice (some ⟨G,0,none⟩) ns.length ns.length,F1 a,F1 b,F1 c,F1 d,F1 e,F1 f,F1 wd,.int .i64 nx,.int .i64 ny,F1 lx,F1 ly,F1 lz,F1 near,F1 most,.int .i64 st],.int .i64 size,.int .i64 wk] w' (fun e' w'' => e' = .returned (.tuple #[.string ⟨L.toArray⟩,.bool bv]) ∧ Below w'.heap.size w' w''))
  (heq:∀ G H (w':World),(∀ i (h:i < ns.length),NodeNew ns[i] G (0 + i * 4) w') → (∀ i (h:i < ns.length),NodeNew ns[i] H (0 + i * 4) w') → Calls Tryz.prog 48 #[.agg #[.slice (some ⟨G,0,none⟩) ns.length ns.length,F1 a,F1 b,F1 c,F1 d,F1 e,F1 f,F1 wd,.int .i64 nx,.int .i64 ny,F1 lx,F1 ly,F1 lz,F1 near,F1 most,.int .i64 st],.agg #[.slice (some ⟨H,0,none⟩) ns.length ns.length,F1 a,F1 b,F1 c,F1 d,F1 e,F1 f,F1 wd,.int .i64 nx,.int .i64 ny,F1 lx,F1 ly,F1 lz,F1 near,F1 most,.int .i64 st]] w' (fun e w'' => e = .returned (.bool true) ∧ Below w'.heap.size w' w'')) :
  Calls Tryz.prog 10 #[.agg #[.slice bp ns.length cap,F1 a,F1 b,F1 c,F1 d,F1 e,F1 f,F1 wd,.int .i64 nx,.int .i64 ny,F1 lx,F1 ly,F1 lz,F1 near,F1 most,.int .i64 st],.int .i64 size,.int .i64 wk] w (fun e' w' => e' = .returned (.bool true) ∧ Below w.heap.size w w'):=by
 go_enter Tryz.func10,Tryz.ntmps10
 go_upto_region 2 with fail
 generalize hW:w.alloc (.cells #[.slice bp ns.length cap,F1 a,F1 b,F1 c,F1 d,F1 e,F1 f,F1 wd,.int .i64 nx,.int .i64 ny,F1 lx,F1 ly,F1 lz,F1 near,F1 most,.int .i64 st] 78) = W1 at *
 have W1b:Below w.heap.size w W1:=by subst hW;exact (by repeat' (first | exact Below.refl _ _ | exact Nat.le_refl _ | refine below_drewN ?_ _ | refine Below.alloc ?_ (by simp <;> omega) _ | refine Below.setCell ?_ (by simp <;> omega) _ | refine below_step ?_ (by assumption)))
 have hkept:Kept [(⟨w.heap.size,0,none⟩,.slice bp ns.length cap),(⟨w.heap.size,1,none⟩,F1 a),(⟨w.heap.size,2,none⟩,F1 b),(⟨w.heap.size,3,none⟩,F1 c),(⟨w.heap.size,4,none⟩,F1 d),(⟨w.heap.size,5,none⟩,F1 e),(⟨w.heap.size,6,none⟩,F1 f),(⟨w.heap.size,7,none⟩,F1 wd),(⟨w.heap.size,8,none⟩,.int .i64 nx),(⟨w.heap.size,9,none⟩,.int .i64 ny),(⟨w.heap.size,10,none⟩,F1 lx),(⟨w.heap.size,11,none⟩,F1 ly),(⟨w.heap.size,12,none⟩,F1 lz),(⟨w.heap.size,13,none⟩,F1 near),(⟨w.heap.size,14,none⟩,F1 most),(⟨w.heap.size,15,none⟩,.int .i64 st)] [] W1:=by
  subst hW;simp only [Kept,ka,kb,kc,kd,ke,kfa,kga];(first | (go_simp;done) | (simp [World.cell?,World.frozen?,World.alloc,Array.getElem?_push];done))
 clear hW
 have hK:=hkept;simp only [Kept,ka,kb,kc,kd,ke,kfa,kga] at hK
 go_upto_region 6 with (first
  | (go_at_call 43;refine (hsz _ W1b).mono ?_;rintro _ w2 ⟨rfl,hb1⟩;have W1b:=below_step W1b hb1;have hkept:=keepT hkept hb1 rfl;clear hK;have hK:=hkept;simp only [Kept,ka,kb,kc,kd,ke,kfa,kga] at hK)
  | (go_at_call 45;refine (hto _ W1b).mono ?_;rintro _ w3 ⟨G,rfl,hnewG,hG,hb1⟩;have W1b:=below_step W1b hb1;have hkept:=keepT hkept hb1 rfl;clear hK;have hK:=hkept;simp only [Kept,ka,kb,kc,kd,ke,kfa,kga] at hK)
  | (go_at_call 51;refine (hspec _ _ hnewG).mono ?_;rintro _ w4 ⟨rfl,hb1⟩;have W1b:=below_step W1b hb1;have hkept:=keepT hkept hb1 rfl;clear hK;have hK:=hkept;simp only [Kept,ka,kb,kc,kd,ke,kfa,kga] at hK))
 clear hnewG hG
 as_aux_lemma =>
  go_upto_region 7 with (go_at_call 45;refine (hto _ W1b).mono ?_;rintro _ w5 ⟨H,rfl,hnewH,hH,hb1⟩)
  have hb2:Below w5.heap.size w5 (w5.alloc (.cells #[.slice (some ⟨H,0,none⟩) ns.length ns.length,F1 a,F1 b,F1 c,F1 d,F1 e,F1 f,F1 wd,.int .i64 nx,.int .i64 ny,F1 lx,F1 ly,F1 lz,F1 near,F1 most,.int .i64 st] 86)):=(Below.refl _ _).alloc (Nat.le_refl _) _
  have hkept:=kept_app (keep (keep hkept hb1) hb2) (show Kept [(⟨w5.heap.size,0,none⟩,.slice (some ⟨H,0,none⟩) ns.length ns.length),(⟨w5.heap.size,1,none⟩,F1 a),(⟨w5.heap.size,2,none⟩,F1 b),(⟨w5.heap.size,3,none⟩,F1 c),(⟨w5.heap.size,4,none⟩,F1 d),(⟨w5.heap.size,5,none⟩,F1 e),(⟨w5.heap.size,6,none⟩,F1 f),(⟨w5.heap.size,7,none⟩,F1 wd),(⟨w5.heap.size,8,none⟩,.int .i64 nx),(⟨w5.heap.size,9,none⟩,.int .i64 ny),(⟨w5.heap.size,10,none⟩,F1 lx),(⟨w5.heap.size,11,none⟩,F1 ly),(⟨w5.heap.size,12,none⟩,F1 lz),(⟨w5.heap.size,13,none⟩,F1 near),(⟨w5.heap.size,14,none⟩,F1 most),(⟨w5.heap.size,15,none⟩,.int .i64 st)] [] (w5.alloc (.cells #[.slice (some ⟨H,0,none⟩) ns.length ns.length,F1 a,F1 b,F1 c,F1 d,F1 e,F1 f,F1 wd,.int .i64 nx,.int .i64 ny,F1 lx,F1 ly,F1 lz,F1 near,F1 most,.int .i64 st] 86)) by simp only [Kept,ka,kb,kc,kd,ke,kfa,kga];simp)
  have W1b:=below_step (below_step W1b hb1) hb2
  have hnewH:=fun i h => NodeNew.keep (hnewH i h) hb2
  clear hK hb1 hH
  generalize w5.alloc (.cells #[.slice (some ⟨H,0,none⟩) ns.length ns.length,F1 a,F1 b,F1 c,F1 d,F1 e,F1 f,F1 wd,.int .i64 nx,.int .i64 ny,F1 lx,F1 ly,F1 lz,F1 near,F1 most,.int .i64 st] 86) = w6 at *
  generalize w5.heap.size = gv at *
  clear hb2
  have hK:=hkept;simp only [Kept,ka,kb,kc,kd,ke,kfa,kga] at hK
  have hbb:(bv != bv) = false:=by simp
  go_upto_region 10 with (first
   | (go_at_call 52;refine (himpl _ _ hnewH).mono ?_;rintro _ w7 ⟨rfl,hb1⟩;have W1b:=below_step W1b hb1;have hnewH:=fun i h => NodeNew.keep (hnewH i h) hb1;have hkept:=keepT hkept hb1 rfl;clear hK;have hK:=hkept;simp only [Kept,ka,kb,kc,kd,ke,kfa,kga] at hK))
  as_aux_lemma =>
   clear hK himpl
   try clear hb1 hsz hspec
   refine Qg.wp_gd_all (by kernel_rfl) (by kernel_rfl) (PhiVw ns a b c d e f wd nx ny lx ly lz near most st) (GdW ns [] 45 (VwN ns)) [] (gdw_lasts _ _ _ VwN.keep) (gdw_start (by intro d hd;simp at hd;rcases hd with rfl;rfl)) ?_
   intro hC0
   repeat (first
     | (refine Qg.walk_step fun K hK => ?_;apply Qg.one_det hC0 (by intro d hd;cases hd;decide) rfl;(focus (intro w' hw';have HK:=keep hkept hw';simp only [Kept,ka,kb,kc,kd,ke,kfa,kga] at HK;go_simp;first | done | rfl));(focus (intro w' hw' hs;exact gdw_no (by decide) (by decide)));go_simp;refine hK _ ?_;clear hK K)
     | (refine Qg.walk_step fun K hK => ?_;apply Qg.one_call _ _ hC0 (by intro d hd;cases hd;decide) rfl;(focus (intro w' hw';go_simp;first | done | exact ⟨rfl,rfl⟩));(focus (apply Exists.intro;(constructor <;> first | exact (0:Nat) | exact undef)));(focus (intro w' hw' hs; go_at_call 45;(refine (hto _ (below_step W1b hw')).mono ?_);rintro _ wA ⟨G,rfl,hnew,hG,hb1⟩;exact ⟨_,rfl,PhiVw.view _ _,gdw_res (by decide) (VwN.mk hnew),below_step hw' hb1,hb1⟩));intro v hv;cases hv;go_simp;refine hK _ ?_;clear hK K)
     | (refine Qg.walk_step fun K hK => ?_;apply Qg.one_call _ _ hC0 (by intro d hd;cases hd;decide) rfl;(focus (intro w' hw';go_simp;first | done | exact ⟨rfl,rfl⟩));(focus (apply Exists.intro;(constructor <;> first | exact (0:Nat) | exact undef)));(focus (intro w' hw' hs; have hq:=(hs 45 (of_decide_eq_true (by kernel_rfl))).2 rfl;rcases hq with hq | hq;(focus (cases hq));go_at_call 48;refine (heq _ _ _ (fun i h => (hnewH i h).keep hw') (hq _ _ _ _ _ _ _ _ _ _ _ _ _ _ _ _ rfl)).mono ?_;rintro _ wA ⟨rfl,hb1⟩;exact ⟨_,rfl,PhiVw.eqv _,gdw_no (by decide) (by decide),below_step hw' hb1,hb1⟩));intro v hv;cases hv;go_simp;refine hK _ ?_;clear hK K))
   refine Qg.walk_nil fun w11 hw11 hE => ?_
   have W1b:=below_step W1b hw11
   clear hE hC0
   go_wp2_with fail
   go_ret
   exact ⟨rfl,W1b⟩

set_option maxRecDepth 100000 in
set_option maxHeartbeats 8000000 in
theorem law_rendershared (ns:List PN) (bp:Option Addr) (nb no cap a b c d e f wd:Nat) (nx ny:Int) (lx ly lz near most:Nat) (st:Int) (size wk:Int) (w:World) (hns:NodesIn ns bp nb no w) :
  Calls Tryz.prog 10 #[.agg #[.slice bp ns.length cap,F1 a,F1 b,F1 c,F1 d,F1 e,F1 f,F1 wd,.int .i64 nx,.int .i64 ny,F1 lx,F1 ly,F1 lz,F1 near,F1 most,.int .i64 st],.int .i64 size,.int .i64 wk] w (fun e' w' => e' = .returned (.bool true) ∧ Below w.heap.size w w'):=by
 have hsz:∀ w',Below w.heap.size w w' → Calls Tryz.prog 43 #[.agg #[.slice bp ns.length cap,F1 a,F1 b,F1 c,F1 d,F1 e,F1 f,F1 wd,.int .i64 nx,.int .i64 ny,F1 lx,F1 ly,F1 lz,F1 near,F1 most,.int .i64 st],.int .i64 1048576] w' (fun e w'' => e = .returned (.int .i64 (szS ns 1048576)) ∧ Below w'.heap.size w' w'') :=
  fun w' hb => sz_view ns bp nb no cap a b c d e f wd nx ny lx ly lz near most st w' (hns.keep hb)
 by_cases hneg:szS ns 1048576 < 0
 ·have hm:=szS_neg hneg
  rw [hm] at hsz
  clear hm hneg hns
  go_enter Tryz.func10,Tryz.ntmps10
  go_upto_region 2 with fail
  generalize hW:w.alloc (.cells #[.slice bp ns.length cap,F1 a,F1 b,F1 c,F1 d,F1 e,F1 f,F1 wd,.int .i64 nx,.int .i64 ny,F1 lx,F1 ly,F1 lz,F1 near,F1 most,.int .i64 st] 78) = W1 at *
  have W1b:Below w.heap.size w W1:=by subst hW;exact (by repeat' (first | exact Below.refl _ _ | exact Nat.le_refl _ | refine below_drewN ?_ _ | refine Below.alloc ?_ (by simp <;> omega) _ | refine Below.setCell ?_ (by simp <;> omega) _ | refine below_step ?_ (by assumption)))
  have hkept:Kept [(⟨w.heap.size,0,none⟩,.slice bp ns.length cap),(⟨w.heap.size,1,none⟩,F1 a),(⟨w.heap.size,2,none⟩,F1 b),(⟨w.heap.size,3,none⟩,F1 c),(⟨w.heap.size,4,none⟩,F1 d),(⟨w.heap.size,5,none⟩,F1 e),(⟨w.heap.size,6,none⟩,F1 f),(⟨w.heap.size,7,none⟩,F1 wd),(⟨w.heap.size,8,none⟩,.int .i64 nx),(⟨w.heap.size,9,none⟩,.int .i64 ny),(⟨w.heap.size,10,none⟩,F1 lx),(⟨w.heap.size,11,none⟩,F1 ly),(⟨w.heap.size,12,none⟩,F1 lz),(⟨w.heap.size,13,none⟩,F1 near),(⟨w.heap.size,14,none⟩,F1 most),(⟨w.heap.size,15,none⟩,.int .i64 st)] [] W1:=by
   subst hW;simp only [Kept,ka,kb,kc,kd,ke,kfa,kga];(first | (go_simp;done) | (simp [World.cell?,World.frozen?,World.alloc,Array.getElem?_push];done))
  clear hW
  have hK:=hkept;simp only [Kept,ka,kb,kc,kd,ke,kfa,kga] at hK
  go_wp2_with (go_at_call 43;refine (hsz _ W1b).mono ?_;rintro _ w2 ⟨rfl,hb2⟩;have W1b:=below_step W1b hb2)
  go_ret
  exact ⟨rfl,W1b⟩
 obtain ⟨hsm,hnsm⟩:=szS_small (by omega) (by omega) hneg
 have hpos:0 ≤ szS ns 1048576:=by omega
 clear hneg
 generalize szS ns 1048576 = sz at *
 have hnum:∀ n ∈ ns,n.nums.length < 10000000:=fun n hn => by have:=hnsm n hn;omega
 have hl7:ns.length < 10000000:=by omega
 have hto:∀ w',Below w.heap.size w w' → Calls Tryz.prog 45 #[.agg #[.slice bp ns.length cap,F1 a,F1 b,F1 c,F1 d,F1 e,F1 f,F1 wd,.int .i64 nx,.int .i64 ny,F1 lx,F1 ly,F1 lz,F1 near,F1 most,.int .i64 st]] w' (RetVw ns a b c d e f wd nx ny lx ly lz near most st w'):=fun w' hb => to_view ns bp cap a b c d e f wd nx ny lx ly lz near most st w' (fun w'' hb' => to_shape ns hsm hnsm bp nb no cap w'' (hns.keep (below_step hb hb')))
 have hsp:=fun G w' hn => s_rshared_any ns hnum G 0 ns.length a b c d e f wd nx ny lx ly lz near most st (some ⟨G,0,none⟩) w' (fun _ => rfl) hn hl7 (fun h => (valid_ok (by rw [← valid_same];exact h)).2) size wk
 have him:=fun G w' hn => rshared_any ns hnum G 0 ns.length a b c d e f wd nx ny lx ly lz near most st (some ⟨G,0,none⟩) w' (fun _ => rfl) hn hl7 size wk
 rw [valid_same] at hsp
 unfold RetPic at hsp him
 simp only [pic_same] at hsp
 generalize (viewOk (validF ns) (cv a b c) (cv d e f) (cn .f32 wd) nx ny (cv lx ly lz) (cn .f32 near) (cn .f32 most) st && (tileOk nx ny 0 0 nx ny && shOk size wk)) = bv at *
 generalize (if bv = true then picB (fun x y => shadeF (topF ns) capF (fun F T mo => marchGo (topF ns) F T (slopeF ns) (cn .f32 near) mo st.toNat 1 0) (cv a b c) (wayP (cv a b c) (cv d e f) (cn .f32 wd) nx ny x y) (cv lx ly lz) (cn .f32 near) (cn .f32 most)) 0 0 nx.toNat ny.toNat else []) = L at *
 have hspec:∀ G (w':World),(∀ i (h:i < ns.length),NodeNew ns[i] G (0 + i * 4) w') → Calls Tryz.prog 51 #[.agg #[.slice (some ⟨G,0,none⟩) ns.length ns.length,F1 a,F1 b,F1 c,F1 d,F1 e,F1 f,F1 wd,.int .i64 nx,.int .i64 ny,F1 lx,F1 ly,F1 lz,F1 near,F1 most,.int .i64 st],.int .i64 size,.int .i64 wk] w' (fun e' w'' => e' = .returned (.tuple #[.string ⟨L.toArray⟩,.bool bv]) ∧ Below w'.heap.size w' w''):=fun G w' hn => hsp G w' (fun i h => (hn i h).into)
 have himpl:∀ G (w':World),(∀ i (h:i < ns.length),NodeNew ns[i] G (0 + i * 4) w') → Calls Tryz.prog 52 #[.agg #[.slice (some ⟨G,0,none⟩) ns.length ns.length,F1 a,F1 b,F1 c,F1 d,F1 e,F1 f,F1 wd,.int .i64 nx,.int .i64 ny,F1 lx,F1 ly,F1 lz,F1 near,F1 most,.int .i64 st],.int .i64 size,.int .i64 wk] w' (fun e' w'' => e' = .returned (.tuple #[.string ⟨L.toArray⟩,.bool bv]) ∧ Below w'.heap.size w' w''):=fun G w' hn => him G w' (fun i h => (hn i h).into)
 clear hsp him
 have heq:∀ G H (w':World),(∀ i (h:i < ns.length),NodeNew ns[i] G (0 + i * 4) w') → (∀ i (h:i < ns.length),NodeNew ns[i] H (0 + i * 4) w') → Calls Tryz.prog 48 #[.agg #[.slice (some ⟨G,0,none⟩) ns.length ns.length,F1 a,F1 b,F1 c,F1 d,F1 e,F1 f,F1 wd,.int .i64 nx,.int .i64 ny,F1 lx,F1 ly,F1 lz,F1 near,F1 most,.int .i64 st],.agg #[.slice (some ⟨H,0,none⟩) ns.length ns.length,F1 a,F1 b,F1 c,F1 d,F1 e,F1 f,F1 wd,.int .i64 nx,.int .i64 ny,F1 lx,F1 ly,F1 lz,F1 near,F1 most,.int .i64 st]] w' (fun e w'' => e = .returned (.bool true) ∧ Below w'.heap.size w' w'') :=
  fun G H w' h1 h2 => eq_view ns G H a b c d e f wd nx ny lx ly lz near most st w' (fun w'' hb => eq_shape ns hsm hnsm G H _ _ w'' (fun i h => (h1 i h).keep hb) (fun i h => (h2 i h).keep hb))
 exact walk_rendershared ns bp cap a b c d e f wd nx ny lx ly lz near most st size wk w sz hpos bv L hsz hto hspec himpl heq
end Go.Proofs.YtbiacfkiakddiaaGreat

namespace Go.Proofs.YtbiacfkiakddiaaGreat
open Go.RowKit Go.Fl Go.ChangeShapes Go.WideShapes Go.ChangeAt
theorem okW_int {P:Program} {w:World} {r:Reach} {b0:Nat} {t:TypeId} {k:IntKind} {v:Value} (ht:P.underlying t = some (.int k)) (h:Value.okWide P w r b0 t v):∃ b,v = .int k b:=by
 simp only [Value.okWide,ht,Cell.okWide] at h
 cases v <;> simp_all [Cell.ok]

theorem trodAll_3 {H:Type} {enc:TypeId × Value → H} {P:Program} {w:World} {base:Nat} {spare:Nat → Bool} {held:Bool} {t0 t1 t2:TypeId} {args:Array Value} {ds:List (DataW H)} {ps:List MemPlace} (h:DataW.TrodAll enc P w base spare held [t0,t1,t2] args.toList ds ps) :
  ∃ v0 v1 v2 d0 d1 d2 p0 p1 p2,args = #[v0,v1,v2] ∧ ds = [d0,d1,d2] ∧ ps = p0 ++ (p1 ++ (p2 ++ [])) ∧ DataW.Trod enc P w base spare held t0 v0 d0 p0 ∧ DataW.Trod enc P w base spare held t1 v1 d1 p1 ∧ DataW.Trod enc P w base spare held t2 v2 d2 p2:=by
 obtain ⟨v0,vs0,d0,ds0,p0,q0,hargs,rfl,rfl,hd0,hrest⟩:=trodAll_cons h
 obtain ⟨v1,vs1,d1,ds1,p1,q1,rfl,rfl,rfl,hd1,hrest⟩:=trodAll_cons hrest
 obtain ⟨v2,vs2,d2,ds2,p2,q2,rfl,rfl,rfl,hd2,hrest⟩:=trodAll_cons hrest
 obtain ⟨rfl,rfl,rfl⟩:=trodAll_nil hrest
 exact ⟨v0,v1,v2,d0,d1,d2,p0,p1,p2,by cases args;simp_all,rfl,rfl,hd0,hd1,hd2⟩

end Go.Proofs.YtbiacfkiakddiaaGreat

namespace Go.Proofs.YtbiacfkiakddiaaGreat
open Go.RowKit Go.Fl Go.ChangeShapes Go.WideShapes Go.ChangeAt
set_option maxRecDepth 100000 in
theorem lifted_render_shared_holds (os:Os) (started:os.Started) (H:Type) (enc:TypeId × Value → H) :
  ReturnsInHanded {} Tryz.checked os 10 .any (Rows.fnExactRenderSharedSpec.pre6 enc Tryz.prog Tryz.f10 Rows.fnExactRenderSharedRow.domain false) (Rows.fnExactRenderSharedSpec.post enc Tryz.prog Tryz.f10 false true false false):=by
 refine returnsInHanded_of_change (C:=Tryz.checked) own_knob started (by kernel_rfl) Tryz.func10
  (ChangeSpec.witness6 (enc:=enc) (C:=Tryz.checked) false ⟨#[],#[.agg #[.slice none 0 0,F1 0,F1 0,F1 0,F1 0,F1 0,F1 0,F1 0,.int .i64 0,.int .i64 0,F1 0,F1 0,F1 0,F1 0,F1 0,.int .i64 0],.int .i64 0,.int .i64 0],[]⟩ 12 (by kernel_rfl) (by kernel_rfl) (by kernel_rfl) (by kernel_rfl)) ?_
 intro W base args ds gs before hval0 hW hcnd _
 have hval:∀ (j:Nat) t v,Tryz.f10.params[j]? = some t → args[j]? = some v → Value.okWide Tryz.prog W .any base t v:=hval0
 have hW':=hW
 obtain ⟨p,q,hA0,hV,rfl,hfz,hnd⟩:=hW
 have hA:DataW.TrodAll enc Tryz.prog W 0 (fun _ => true) true Tryz.f10.params.toList args.toList ds p:=hA0
 rw [Tryz.params10] at hA hval
 obtain ⟨v0,v1,v2,d0,d1,d2,p0,p1,p2,rfl,rfl,rfl,h0,h1,h2⟩:=trodAll_3 hA
 obtain ⟨rfl,rfl⟩:=trodVars_none hV
 obtain ⟨ns,bp,nb,no,cap,a,b,c,d,e,f,wd,nx,ny,lx,ly,lz,near,most,st,rfl,hns⟩:=open_view (hval 0 78 v0 rfl rfl) h0
 obtain ⟨size,rfl⟩:=okW_int Tryz.underlying2 (hval 1 2 v1 rfl rfl)
 obtain ⟨wk,rfl⟩:=okW_int Tryz.underlying2 (hval 2 2 v2 rfl rfl)
 clear hA0 hval0
 simp only [List.append_nil] at hW'
 have hlt:∀ m ∈ p0 ++ (p1 ++ (p2)),m.block < W.heap.size:=fun m hm => hW'.lt m hm
 refine (law_rendershared ns bp nb no cap a b c d e f wd nx ny lx ly lz near most st size wk W hns).mono fun e W' ⟨he,hg⟩ => ?_
 subst he
 have m0:∀ m ∈ p0,m ∈ p0 ++ (p1 ++ (p2)):=fun m h => by simp [h]
 have m1:∀ m ∈ p1,m ∈ p0 ++ (p1 ++ (p2)):=fun m h => by simp [h]
 have m2:∀ m ∈ p2,m ∈ p0 ++ (p1 ++ (p2)):=fun m h => by simp [h]
 refine ⟨_,rfl,post_below (pa:=p0 ++ (p1 ++ (p2 ++ []))) (pv:=[]) hW' (fun _ _ _ => (trodAll_cons_mk (shut_bool Tryz.underlying4 _) trodAll_mk0)) (fun sp hsp => ?_) (fun _ _ => rfl) (by simp) hg (ok_one (by kernel_rfl) rfl (okWide_bool_mk Tryz.underlying4 _))⟩
 refine trodAll_cons_mk (WideElems.Trod_stays laid_out (by kernel_rfl) (of_decide_eq_true (by kernel_rfl)) h0 (fun m hm => hg.same (hlt m (m0 m hm))) (fun m hm => hsp m (m0 m hm))) ?_
 refine trodAll_cons_mk (WideElems.Trod_stays laid_out (by kernel_rfl) (of_decide_eq_true (by kernel_rfl)) h1 (fun m hm => hg.same (hlt m (m1 m hm))) (fun m hm => hsp m (m1 m hm))) ?_
 exact trodAll_cons_mk (WideElems.Trod_stays laid_out (by kernel_rfl) (of_decide_eq_true (by kernel_rfl)) h2 (fun m hm => hg.same (hlt m (m2 m hm))) (fun m hm => hsp m (m2 m hm))) trodAll_mk0

set_option maxRecDepth 100000 in
set_option maxHeartbeats 64000000 in
theorem closed_render_shared_holds:joinedFacts Tryz.prog 10 Tryz.f10 Rows.fnExactRenderSharedSpec Rows.fnExactRenderSharedRow = true:=by
 unfold joinedFacts
 repeat' (with_reducible refine and_mk ?_ ?_)
 all_goals (as_aux_lemma => kernel_rfl)

set_option maxRecDepth 100000 in
theorem render_shared_holds:Rows.FnExactRenderSharedSaid :=
 OpenClaim.holds_of_wide 10 Tryz.f10 rfl rfl rfl rfl rfl rfl rfl ⟨rfl,rfl,rfl,rfl,rfl⟩ rfl rfl rfl rfl rfl (by kernel_rfl) Tryz.func10 closed_render_shared_holds
  (of_decide_eq_true (by kernel_rfl)) (by unfold Func.isWrapper;first | (rw [if_pos (by decide +kernel)];kernel_rfl) | (rw [if_neg (by decide +kernel)];exact ⟨rfl,rfl⟩))
  (fun os started H enc _ => lifted_render_shared_holds os started H enc)
#print axioms render_shared_holds
end Go.Proofs.YtbiacfkiakddiaaGreat
