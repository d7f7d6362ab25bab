/-
 Lemmas: T7.
-/
import Derived.Test.YtbiacfkiakddiaaGreatIae
import Derived.Test.YtbiacfkiakddiaaGreatIaf
set_option linter.unusedVariables false
set_option linter.unusedSimpArgs false
namespace Go.Proofs.YtbiacfkiakddiaaGreat
open Go.RowKit Go.Fl
set_option maxRecDepth 100000 in
set_option maxHeartbeats 16000000 in
theorem walk_checks (ns:List PN) (bp:Option Addr) (nb no cap a b c d e f wd:Nat) (nx ny:Int) (lx ly lz near most:Nat) (st s:Int) (w:World) (hns:NodesIn ns bp nb no w) (sz:Int) (hpos:0 ≤ sz) (hsm:(ns.length:Int) ≤ 1048576) (hnsm:∀ n ∈ ns,(n.nums.length:Int) ≤ 1048576) (bv:Bool) (L:List Int) (hL:L.length ≤ 1000000)
  (hsz:∀ w',Below w.heap.size w w' → Calls Tryz.prog 43 #[.agg #[.slice bp ns.length cap,F1 a,F1 b,F1 c,F1 d,F1 e,F1 f,F1 wd,.int .i64 nx,.int .i64 ny,F1 lx,F1 ly,F1 lz,F1 near,F1 most,.int .i64 st],.int .i64 1048576] w' (fun e w'' => e = .returned (.int .i64 sz) ∧ Below w'.heap.size w' w''))
  (hspec:∀ G (w':World),(∀ i (h:i < ns.length),NodeNew ns[i] G (0 + i * 4) w') → Calls Tryz.prog 56 #[.agg #[.slice (some ⟨G,0,none⟩) ns.length ns.length,F1 a,F1 b,F1 c,F1 d,F1 e,F1 f,F1 wd,.int .i64 nx,.int .i64 ny,F1 lx,F1 ly,F1 lz,F1 near,F1 most,.int .i64 st],.int .i64 s] w' (fun e w'' => ∃ u,e = .returned (.tuple #[u,.bool bv]) ∧ w''.ownsRow w'.heap.size 2 1 u L.length (il L) ∧ Below w'.heap.size w' w''))
  (himpl:∀ G (w':World),(∀ i (h:i < ns.length),NodeNew ns[i] G (0 + i * 4) w') → Calls Tryz.prog 57 #[.agg #[.slice (some ⟨G,0,none⟩) ns.length ns.length,F1 a,F1 b,F1 c,F1 d,F1 e,F1 f,F1 wd,.int .i64 nx,.int .i64 ny,F1 lx,F1 ly,F1 lz,F1 near,F1 most,.int .i64 st],.int .i64 s] w' (fun e w'' => ∃ u,e = .returned (.tuple #[u,.bool bv]) ∧ w''.ownsRow w'.heap.size 2 1 u L.length (il L) ∧ Below w'.heap.size w' w'')) :
  Calls Tryz.prog 12 #[.agg #[.slice bp ns.length cap,F1 a,F1 b,F1 c,F1 d,F1 e,F1 f,F1 wd,.int .i64 nx,.int .i64 ny,F1 lx,F1 ly,F1 lz,F1 near,F1 most,.int .i64 st],.int .i64 s] w (fun e' w' => e' = .returned (.bool true) ∧ Below w.heap.size w w'):=by
 have hto:∀ w',Below w.heap.size w w' → Calls Tryz.prog 45 #[.agg #[.slice bp ns.length cap,F1 a,F1 b,F1 c,F1 d,F1 e,F1 f,F1 wd,.int .i64 nx,.int .i64 ny,F1 lx,F1 ly,F1 lz,F1 near,F1 most,.int .i64 st]] w' (RetVw ns a b c d e f wd nx ny lx ly lz near most st w'):=fun w' hb => to_view ns bp cap a b c d e f wd nx ny lx ly lz near most st w' (fun w'' hb' => to_shape ns hsm hnsm bp nb no cap w'' (hns.keep (below_step hb hb')))
 have htw:∀ w',Below w.heap.size w w' → Calls Tryz.prog 45 #[.agg #[.slice bp ns.length cap,F1 a,F1 b,F1 c,F1 d,F1 e,F1 f,F1 wd,.int .i64 nx,.int .i64 ny,F1 lx,F1 ly,F1 lz,F1 near,F1 most,.int .i64 st]] w' (RetVwW ns a b c d e f wd nx ny lx ly lz near most st w'):=fun w' hb => to_viewW ns bp cap a b c d e f wd nx ny lx ly lz near most st w' (fun w'' hb' => to_shapeW ns hsm hnsm bp nb no cap w'' (hns.keep (below_step hb hb')))
 have heqv:∀ G H (w':World),(∀ i (h:i < ns.length),NodeNew ns[i] G (0 + i * 4) w') → (∀ i (h:i < ns.length),NodeNew ns[i] H (0 + i * 4) w') → Calls Tryz.prog 48 #[.agg #[.slice (some ⟨G,0,none⟩) ns.length ns.length,F1 a,F1 b,F1 c,F1 d,F1 e,F1 f,F1 wd,.int .i64 nx,.int .i64 ny,F1 lx,F1 ly,F1 lz,F1 near,F1 most,.int .i64 st],.agg #[.slice (some ⟨H,0,none⟩) ns.length ns.length,F1 a,F1 b,F1 c,F1 d,F1 e,F1 f,F1 wd,.int .i64 nx,.int .i64 ny,F1 lx,F1 ly,F1 lz,F1 near,F1 most,.int .i64 st]] w' (fun e w'' => e = .returned (.bool true) ∧ Below w'.heap.size w' w'') :=
  fun G H w' h1 h2 => eq_view ns G H a b c d e f wd nx ny lx ly lz near most st w' (fun w'' hb => eq_shape ns hsm hnsm G H _ _ w'' (fun i h => (h1 i h).keep hb) (fun i h => (h2 i h).keep hb))
 have hsN:ns.length ≤ 1048576:=by omega
 have hnsM:=Lib.hid hnsm
 clear hnsm hns hsm
 go_enter Tryz.func12,Tryz.ntmps12
 go_upto_region 2 with fail
 generalize hW:w.alloc (.cells #[.slice bp ns.length cap,F1 a,F1 b,F1 c,F1 d,F1 e,F1 f,F1 wd,.int .i64 nx,.int .i64 ny,F1 lx,F1 ly,F1 lz,F1 near,F1 most,.int .i64 st] 78) = W1 at *
 have W1b:Below w.heap.size w W1:=by subst hW;exact (by repeat' (first | exact Below.refl _ _ | exact Nat.le_refl _ | refine below_drewN ?_ _ | refine Below.alloc ?_ (by simp <;> omega) _ | refine Below.setCell ?_ (by simp <;> omega) _ | refine below_step ?_ (by assumption)))
 have hkept:Kept [(⟨w.heap.size,0,none⟩,.slice bp ns.length cap),(⟨w.heap.size,1,none⟩,F1 a),(⟨w.heap.size,2,none⟩,F1 b),(⟨w.heap.size,3,none⟩,F1 c),(⟨w.heap.size,4,none⟩,F1 d),(⟨w.heap.size,5,none⟩,F1 e),(⟨w.heap.size,6,none⟩,F1 f),(⟨w.heap.size,7,none⟩,F1 wd),(⟨w.heap.size,8,none⟩,.int .i64 nx),(⟨w.heap.size,9,none⟩,.int .i64 ny),(⟨w.heap.size,10,none⟩,F1 lx),(⟨w.heap.size,11,none⟩,F1 ly),(⟨w.heap.size,12,none⟩,F1 lz),(⟨w.heap.size,13,none⟩,F1 near),(⟨w.heap.size,14,none⟩,F1 most),(⟨w.heap.size,15,none⟩,.int .i64 st)] [] W1:=by
  subst hW;simp only [Kept,ka,kb,kc,kd,ke,kfa,kga];(first | (go_simp;done) | (simp [World.cell?,World.frozen?,World.alloc,Array.getElem?_push];done))
 clear hW
 have hK:=hkept;simp only [Kept,ka,kb,kc,kd,ke,kfa,kga] at hK
 go_upto_region 5 with (go_at_call 43;refine (hsz _ W1b).mono ?_;rintro _ w2 ⟨rfl,hb1⟩;have W2b:=below_step W1b hb1;have hkept:=keepT hkept hb1 rfl;clear hK;have hK:=hkept;simp only [Kept,ka,kb,kc,kd,ke,kfa,kga] at hK)
 clear hsz hb1 W1b
 go_upto_region 6 with (first
  | (go_at_call 45;refine (hto _ W2b).mono ?_;rintro _ wA ⟨G,rfl,hnewG,hG,hb1⟩;have WAb:=below_step W2b hb1;have hkept:=keepT hkept hb1 rfl;clear hK;have hK:=hkept;simp only [Kept,ka,kb,kc,kd,ke,kfa,kga] at hK)
  | (go_at_call 56;refine (hspec _ _ hnewG).mono ?_;rintro _ w8 ⟨u8,rfl,hR8,hb1⟩;have W8b:=below_step WAb hb1;have hkept:=keepT hkept hb1 rfl;clear hK;have hK:=hkept;simp only [Kept,ka,kb,kc,kd,ke,kfa,kga] at hK))
 clear hspec hb1
 have hR:=il_read hR8
 clear hR8
 have hkept8:=Lib.hid hkept
 have h08:=W8b.size
 have W6c:=Below.refl w8.heap.size w8
 clear W2b WAb hnewG hG
 as_aux_lemma =>
  go_upto_region 7 with (go_at_call 45;refine (htw _ W8b).mono ?_;rintro _ wC ⟨X,rfl,hnewF,hX,hb1,hXs,hfr⟩)
  have hsw:ShW ns.length X wC.heap.size wC:=shw_new hnsM.out hnewF hXs hfr
  have hb7:Below wC.heap.size wC (wC.alloc (.cells #[.slice (some ⟨X,0,none⟩) ns.length ns.length,F1 a,F1 b,F1 c,F1 d,F1 e,F1 f,F1 wd,.int .i64 nx,.int .i64 ny,F1 lx,F1 ly,F1 lz,F1 near,F1 most,.int .i64 st] 86)):=(Below.refl _ _).alloc (Nat.le_refl _) _
  have hnew:∀ i (h:i < ns.length),NodeNew ns[i] X (0 + i * 4) (wC.alloc (.cells #[.slice (some ⟨X,0,none⟩) ns.length ns.length,F1 a,F1 b,F1 c,F1 d,F1 e,F1 f,F1 wd,.int .i64 nx,.int .i64 ny,F1 lx,F1 ly,F1 lz,F1 near,F1 most,.int .i64 st] 86)):=fun i h => (hnewF i h).1.keep hb7
  have hsw9:=hsw.keep hb7 (Nat.le_refl _)
  have hA9:=hb7.size
  have W6c:=below_step hb1 hb7
  have W9b:=below_step W8b W6c
  have h89:=W6c.size
  have hkept:=kept_app (keep (keep hkept hb1) hb7) (show Kept [(⟨wC.heap.size,0,none⟩,.slice (some ⟨X,0,none⟩) ns.length ns.length),(⟨wC.heap.size,1,none⟩,F1 a),(⟨wC.heap.size,2,none⟩,F1 b),(⟨wC.heap.size,3,none⟩,F1 c),(⟨wC.heap.size,4,none⟩,F1 d),(⟨wC.heap.size,5,none⟩,F1 e),(⟨wC.heap.size,6,none⟩,F1 f),(⟨wC.heap.size,7,none⟩,F1 wd),(⟨wC.heap.size,8,none⟩,.int .i64 nx),(⟨wC.heap.size,9,none⟩,.int .i64 ny),(⟨wC.heap.size,10,none⟩,F1 lx),(⟨wC.heap.size,11,none⟩,F1 ly),(⟨wC.heap.size,12,none⟩,F1 lz),(⟨wC.heap.size,13,none⟩,F1 near),(⟨wC.heap.size,14,none⟩,F1 most),(⟨wC.heap.size,15,none⟩,.int .i64 st)] [] (wC.alloc (.cells #[.slice (some ⟨X,0,none⟩) ns.length ns.length,F1 a,F1 b,F1 c,F1 d,F1 e,F1 f,F1 wd,.int .i64 nx,.int .i64 ny,F1 lx,F1 ly,F1 lz,F1 near,F1 most,.int .i64 st] 86)) by simp only [Kept,ka,kb,kc,kd,ke,kfa,kga];simp)
  clear hK hb1 hb7 W8b hsw hnewF hfr
  generalize wC.alloc (.cells #[.slice (some ⟨X,0,none⟩) ns.length ns.length,F1 a,F1 b,F1 c,F1 d,F1 e,F1 f,F1 wd,.int .i64 nx,.int .i64 ny,F1 lx,F1 ly,F1 lz,F1 near,F1 most,.int .i64 st] 86) = w9 at *
  generalize wC.heap.size = hi at *
  clear hXs
  have hK:=hkept;simp only [Kept,ka,kb,kc,kd,ke,kfa,kga] at hK
  go_upto_region 8 with (go_at_call 57;refine (himpl _ _ hnew).mono ?_;rintro _ w11 ⟨u11,rfl,hO11,hb1⟩;have W11b:=below_step W9b hb1;have W6c:=below_step W6c hb1;have hnew:=(fun i h => (hnew i h).keep hb1);have hsw11:=hsw9.keep hb1 (by omega);have h1011:=hb1.size;have hkept:=keepT hkept hb1 rfl;clear hK;have hK:=hkept;simp only [Kept,ka,kb,kc,kd,ke,kfa,kga] at hK)
  clear hb1 W9b hsw9
  have hRR:(bv != bv) = false:=by simp
  go_upto_region 10 with (go_at_call 35;refine (eq_ints L hL _ _ _ (il_read hO11) (hR.keep W6c)).mono ?_;rintro _ w12 ⟨rfl,hb1⟩;have W12b:=below_step W11b hb1;have W6c:=below_step W6c hb1;have hnew:=(fun i h => (hnew i h).keep hb1);have hsw12:=hsw11.keep hb1 (by omega);have hO12:=owns_below hO11 hb1;have h1012:=Nat.le_trans h1011 hb1.size;have hkept:=keepT hkept hb1 rfl;clear hK;have hK:=hkept;simp only [Kept,ka,kb,kc,kd,ke,kfa,kga] at hK)
  clear hb1 W11b hsw11 hO11 hK
  as_aux_lemma =>
   refine Qg.wp_gd_all (by kernel_rfl) (by kernel_rfl) (PhiVw ns a b c d e f wd nx ny lx ly lz near most st) (GdW ns [] 47 (VwN ns)) [] (gdw_lasts _ _ _ VwN.keep) (gdw_start (by intro d hd;simp at hd;rcases hd with rfl;rfl)) ?_
   intro hC0
   repeat (first
     | (refine Qg.walk_step fun K hK => ?_;apply Qg.one_det hC0 (by intro d hd;cases hd;decide) rfl;(focus (intro w' hw';have HK:=keep hkept hw';simp only [Kept,ka,kb,kc,kd,ke,kfa,kga] at HK;go_simp;first | done | rfl));(focus (intro w' hw' hs;exact gdw_no (by decide) (by decide)));go_simp;refine hK _ ?_;clear hK K)
     | (refine Qg.walk_step fun K hK => ?_;apply Qg.one_call _ _ hC0 (by intro d hd;cases hd;decide) rfl;(focus (intro w' hw';go_simp;first | done | exact ⟨rfl,rfl⟩));(focus (apply Exists.intro;(constructor <;> first | exact (0:Nat) | exact undef)));(focus (intro w' hw' hs; go_at_call 45;(refine (hto _ (below_step W12b hw')).mono ?_);rintro _ wA ⟨G,rfl,hnew,hG,hb1⟩;exact ⟨_,rfl,PhiVw.view _ _,gdw_res (by decide) (VwN.mk hnew),below_step hw' hb1,hb1⟩ ));intro v hv;cases hv;go_simp;refine hK _ ?_;clear hK K)
     | (refine Qg.walk_step fun K hK => ?_;apply Qg.one_call _ _ hC0 (by intro d hd;cases hd;decide) rfl;(focus (intro w' hw';go_simp;first | done | exact ⟨rfl,rfl⟩));(focus (apply Exists.intro;(constructor <;> first | exact (0:Nat) | exact undef)));(focus (intro w' hw' hs; have hq:=(hs 47 (of_decide_eq_true (by kernel_rfl))).2 rfl;rcases hq with hq | hq;(focus (cases hq));go_at_call 48;refine (heqv _ _ _ (fun i h => (hnew i h).keep hw') (hq _ _ _ _ _ _ _ _ _ _ _ _ _ _ _ _ rfl)).mono ?_;rintro _ wA ⟨rfl,hb1⟩;exact ⟨_,rfl,PhiVw.eqv _,gdw_no (by decide) (by decide),below_step hw' hb1,hb1⟩ ));intro v hv;cases hv;go_simp;refine hK _ ?_;clear hK K))
   refine Qg.walk_nil fun w14 hw14 hE => ?_
   clear hE hC0
   have hkept:=keep hkept hw14
   have W14b:=below_step W12b hw14
   have W6c:=below_step W6c hw14
   have hsw14:=hsw12.keep hw14 (by omega)
   have hO14:=owns_below hO12 hw14
   have h1014:=Nat.le_trans h1012 hw14.size
   clear hw14 hsw12 hO12 hnew W12b heqv
   have hK:=hkept;simp only [Kept,ka,kb,kc,kd,ke,kfa,kga] at hK
   have hms:=mark_viewB ns.length hsN X hi a b c d e f wd nx ny lx ly lz near most st 1 ⟨by decide,by decide⟩ w14 hsw14 hsw14.1 (by omega)
   go_upto_region 14 with (go_at_call 58;refine hms.mono ?_;rintro _ w19 ⟨k',rfl,hk',hm,hk2⟩;have hO19:=row_mrk hO14 hm (by omega);have W19b:=W14b.trans (hm.low.mono (Nat.le_trans h08 hX));have W6c:=W6c.trans (hm.low.mono hX);have h1019:=Nat.le_trans h1014 hm.low.size;have hkept:=keep hkept8.out W6c;clear hK;have hK:=hkept;simp only [Kept,ka,kb,kc,kd,ke,kfa,kga] at hK)
   clear hms hsw14 hO14 W14b hm
   go_upto_region 16 with (go_at_call 35;refine (eq_ints L hL _ _ _ (il_read hO19) (hR.keep W6c)).mono ?_;rintro _ w21 ⟨rfl,hb1⟩;have W21b:=below_step W19b hb1;have W6c:=below_step W6c hb1;have hO21:=owns_below hO19 hb1;have h1021:=Nat.le_trans h1019 hb1.size;have hkept:=keepT hkept hb1 rfl;clear hK;have hK:=hkept;simp only [Kept,ka,kb,kc,kd,ke,kfa,kga] at hK)
   clear hb1 W19b hO19
   have hmi:=mark_ints L hL _ _ 1 ⟨by decide,by decide⟩ w21 hO21
   go_upto_region 19 with (go_at_call 38;refine hmi.mono ?_;rintro _ w24 ⟨rfl,hM24,hb24⟩;have W24b:=W21b.trans (hb24.mono (by omega));have W6c:=W6c.trans (hb24.mono (by omega));have hI24:=il_read (xs:=mkI L 1 L.length) (by rw [mkI_len];exact hM24);have hkept:=keep hkept8.out W6c;clear hK;have hK:=hkept;simp only [Kept,ka,kb,kc,kd,ke,kfa,kga] at hK)
   clear hmi hO21 W21b hb24 hM24
   have hQ:(0:Int) ≤ 1 + (L.length:Int):=by omega
   have hQQ:(1 + (L.length:Int) != 1 + (L.length:Int)) = false:=by simp
   have hhe:=fun w' h => held_ints L hL u11 1 ⟨by decide,by decide⟩ w' h
   generalize 1 + (L.length:Int) = Q at *
   go_upto_region 24 with (go_at_call 39;refine (hhe _ hI24).mono ?_;rintro _ w26 ⟨rfl,hb1⟩;have W26b:=below_step W24b hb1;have W6c:=below_step W6c hb1;have hI26:=hI24.keep hb1;have hkept:=keepT hkept hb1 rfl;clear hK;have hK:=hkept;simp only [Kept,ka,kb,kc,kd,ke,kfa,kga] at hK)
   clear hb1 W24b hI24
   as_aux_lemma =>
    go_upto_region 25 with (first
     | (go_at_call 45;refine (hto _ W26b).mono ?_;rintro _ wA ⟨G,rfl,hnewG,hG,hb1⟩;have WAb:=below_step W26b hb1;have W6c:=below_step W6c hb1;have hIA:=hI26.keep hb1;have hkept:=keepT hkept hb1 rfl;clear hK;have hK:=hkept;simp only [Kept,ka,kb,kc,kd,ke,kfa,kga] at hK)
     | (go_at_call 57;refine (himpl _ _ hnewG).mono ?_;rintro _ w31 ⟨u31,rfl,hO31,hb1⟩;have W31b:=below_step WAb hb1;have W6c:=below_step W6c hb1;have hI31:=hIA.keep hb1;have hkept:=keepT hkept hb1 rfl;clear hK;have hK:=hkept;simp only [Kept,ka,kb,kc,kd,ke,kfa,kga] at hK))
    clear himpl hb1 WAb hIA hI26 hnewG
    go_upto_region 27 with (go_at_call 35;refine (eq_ints L hL _ _ _ (il_read hO31) (hR.keep W6c)).mono ?_;rintro _ w32 ⟨rfl,hb1⟩;have W32b:=below_step W31b hb1;have hI32:=hI31.keep hb1;have hkept:=keepT hkept hb1 rfl;clear hK;have hK:=hkept;simp only [Kept,ka,kb,kc,kd,ke,kfa,kga] at hK)
    clear hb1 hO31 hI31 W31b
    go_wp2_with (go_at_call 39;refine (hhe _ hI32).mono ?_;rintro _ w35 ⟨rfl,hb1⟩;have W35b:=below_step W32b hb1)
    go_ret
    exact ⟨rfl,W35b⟩

theorem chk_same (ns:List PN) (f t:Nat × Nat × Nat) (wd:Nat) (nx ny:Int) (l:Nat × Nat × Nat) (near most:Nat) (st:Int) (k:Bool) (ts:List Tl) :
  (if (viewOk (validF ns) f t wd nx ny l near most st && k) = true then chkL (fun x y => shadeF (atS ns) capS (fun F T mo => marchGs (atS ns) F T (slopeF ns) near mo st.toNat 1 0) f (wayP f t wd nx ny x y) l near most) ts else []) = (if (viewOk (validF ns) f t wd nx ny l near most st && k) = true then chkL (fun x y => shadeF (topF ns) capF (fun F T mo => marchGo (topF ns) F T (slopeF ns) near mo st.toNat 1 0) f (wayP f t wd nx ny x y) l near most) ts else []):=by
 by_cases h:(viewOk (validF ns) f t wd nx ny l near most st && k) = true
 ·rw [if_pos h,if_pos h]
  rw [Bool.and_eq_true] at h
  obtain ⟨h1,_,h3⟩:=view_parts h.1
  exact congrArg (fun S => chkL S ts) (funext fun x => funext fun y => shade_same h1 h3 f _ l st.toNat)
 ·rw [if_neg h,if_neg h]

set_option maxRecDepth 100000 in
set_option maxHeartbeats 8000000 in
theorem law_checks (ns:List PN) (bp:Option Addr) (nb no cap a b c d e f wd:Nat) (nx ny:Int) (lx ly lz near most:Nat) (st s:Int) (w:World) (hns:NodesIn ns bp nb no w) :
  Calls Tryz.prog 12 #[.agg #[.slice bp ns.length cap,F1 a,F1 b,F1 c,F1 d,F1 e,F1 f,F1 wd,.int .i64 nx,.int .i64 ny,F1 lx,F1 ly,F1 lz,F1 near,F1 most,.int .i64 st],.int .i64 s] w (fun e' w' => e' = .returned (.bool true) ∧ Below w.heap.size w w'):=by
 have hsz:∀ w',Below w.heap.size w w' → Calls Tryz.prog 43 #[.agg #[.slice bp ns.length cap,F1 a,F1 b,F1 c,F1 d,F1 e,F1 f,F1 wd,.int .i64 nx,.int .i64 ny,F1 lx,F1 ly,F1 lz,F1 near,F1 most,.int .i64 st],.int .i64 1048576] w' (fun e w'' => e = .returned (.int .i64 (szS ns 1048576)) ∧ Below w'.heap.size w' w'') :=
  fun w' hb => sz_view ns bp nb no cap a b c d e f wd nx ny lx ly lz near most st w' (hns.keep hb)
 by_cases hneg:szS ns 1048576 < 0
 ·have hm:=szS_neg hneg
  rw [hm] at hsz
  clear hm hneg hns
  go_enter Tryz.func12,Tryz.ntmps12
  go_upto_region 2 with fail
  generalize hW:w.alloc (.cells #[.slice bp ns.length cap,F1 a,F1 b,F1 c,F1 d,F1 e,F1 f,F1 wd,.int .i64 nx,.int .i64 ny,F1 lx,F1 ly,F1 lz,F1 near,F1 most,.int .i64 st] 78) = W1 at *
  have W1b:Below w.heap.size w W1:=by subst hW;exact (by repeat' (first | exact Below.refl _ _ | exact Nat.le_refl _ | refine below_drewN ?_ _ | refine Below.alloc ?_ (by simp <;> omega) _ | refine Below.setCell ?_ (by simp <;> omega) _ | refine below_step ?_ (by assumption)))
  have hkept:Kept [(⟨w.heap.size,0,none⟩,.slice bp ns.length cap),(⟨w.heap.size,1,none⟩,F1 a),(⟨w.heap.size,2,none⟩,F1 b),(⟨w.heap.size,3,none⟩,F1 c),(⟨w.heap.size,4,none⟩,F1 d),(⟨w.heap.size,5,none⟩,F1 e),(⟨w.heap.size,6,none⟩,F1 f),(⟨w.heap.size,7,none⟩,F1 wd),(⟨w.heap.size,8,none⟩,.int .i64 nx),(⟨w.heap.size,9,none⟩,.int .i64 ny),(⟨w.heap.size,10,none⟩,F1 lx),(⟨w.heap.size,11,none⟩,F1 ly),(⟨w.heap.size,12,none⟩,F1 lz),(⟨w.heap.size,13,none⟩,F1 near),(⟨w.heap.size,14,none⟩,F1 most),(⟨w.heap.size,15,none⟩,.int .i64 st)] [] W1:=by
   subst hW;simp only [Kept,ka,kb,kc,kd,ke,kfa,kga];(first | (go_simp;done) | (simp [World.cell?,World.frozen?,World.alloc,Array.getElem?_push];done))
  clear hW
  have hK:=hkept;simp only [Kept,ka,kb,kc,kd,ke,kfa,kga] at hK
  go_wp2_with (go_at_call 43;refine (hsz _ W1b).mono ?_;rintro _ w2 ⟨rfl,hb2⟩;have W1b:=below_step W1b hb2)
  go_ret
  exact ⟨rfl,W1b⟩
 obtain ⟨hsm,hnsm⟩:=szS_small (by omega) (by omega) hneg
 have hpos:0 ≤ szS ns 1048576:=by omega
 clear hneg
 generalize szS ns 1048576 = sz at *
 have hnum:∀ n ∈ ns,n.nums.length < 10000000:=fun n hn => by have:=hnsm n hn;omega
 have hl7:ns.length < 10000000:=by omega
 have hsp:=fun G w' hn => s_checks_any ns hnum G 0 ns.length a b c d e f wd nx ny lx ly lz near most st (some ⟨G,0,none⟩) w' (fun _ => rfl) hn hl7 (fun h => (valid_ok (by rw [← valid_same];exact h)).2) s
 have him:=fun G w' hn => checks_any ns hnum G 0 ns.length a b c d e f wd nx ny lx ly lz near most st (some ⟨G,0,none⟩) w' (fun _ => rfl) hn hl7 s
 rw [valid_same] at hsp
 unfold RetIl at hsp him
 simp only [chk_same] at hsp
 have hlen:(if (viewOk (validF ns) (cv a b c) (cv d e f) (cn .f32 wd) nx ny (cv lx ly lz) (cn .f32 near) (cn .f32 most) st && szOk s) = true then chkL (fun x y => shadeF (topF ns) capF (fun F T mo => marchGo (topF ns) F T (slopeF ns) (cn .f32 near) mo st.toNat 1 0) (cv a b c) (wayP (cv a b c) (cv d e f) (cn .f32 wd) nx ny x y) (cv lx ly lz) (cn .f32 near) (cn .f32 most)) (tilL nx ny s) else []).length ≤ 1000000:=by
  have h1:(tilL nx ny s).length ≤ 144:=tilesT_len nx ny s 12 0
  split
  ·unfold chkL;rw [List.length_map];omega
  ·simp
 generalize (viewOk (validF ns) (cv a b c) (cv d e f) (cn .f32 wd) nx ny (cv lx ly lz) (cn .f32 near) (cn .f32 most) st && szOk s) = bv at *
 generalize (if bv = true then chkL (fun x y => shadeF (topF ns) capF (fun F T mo => marchGo (topF ns) F T (slopeF ns) (cn .f32 near) mo st.toNat 1 0) (cv a b c) (wayP (cv a b c) (cv d e f) (cn .f32 wd) nx ny x y) (cv lx ly lz) (cn .f32 near) (cn .f32 most)) (tilL nx ny s) else []) = L at *
 have hio:∀ {lo:Nat} {v:Value} {w:World},IlOwn lo v L w → w.ownsRow lo 2 1 v L.length (il L):=fun h => by
  rcases h with ⟨rfl,rfl⟩ | h
  ·exact row_nil ..
  ·exact h
 exact walk_checks ns bp nb no cap a b c d e f wd nx ny lx ly lz near most st s w hns sz hpos hsm hnsm bv L hlen hsz
  (fun G w' hn => (hsp G w' (fun i h => (hn i h).into)).mono fun e w'' ⟨u,h1,h2,h3⟩ => ⟨u,h1,hio h2,h3⟩)
  (fun G w' hn => (him G w' (fun i h => (hn i h).into)).mono fun e w'' ⟨u,h1,h2,h3⟩ => ⟨u,h1,hio h2,h3⟩)
end Go.Proofs.YtbiacfkiakddiaaGreat
