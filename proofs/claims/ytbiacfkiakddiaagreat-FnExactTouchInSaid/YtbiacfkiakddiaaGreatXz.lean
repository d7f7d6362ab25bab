/-
 Lemmas: Ab,R19.
-/
import Derived.Test.YtbiacfkiakddiaaGreatXca
import Derived.Test.YtbiacfkiakddiaaGreatXcg
set_option linter.unusedVariables false
set_option linter.unusedSimpArgs false
set_option maxHeartbeats 64000000
namespace Go.Proofs.YtbiacfkiakddiaaGreat
open Go.RowKit Go.Fl
inductive PhiTt (bv:Bool) (kk nn:Int):FuncId→Array Value→Value→Prop
 | shape (bp:Option Addr) (l cap G:Nat):PhiTt bv kk nn 15 #[.agg #[.slice bp l cap]] (.agg #[.slice (some ⟨G,0,none⟩) l l])
 | box (a b c d e f:Nat):PhiTt bv kk nn 16 #[ug a b c d e f] (ug a b c d e f)
 | spec (args:Array Value) (x y z:Nat):PhiTt bv kk nn 28 args (.tuple #[zkj kk nn x y z,.bool bv])
 | impl (args:Array Value) (x y z:Nat):PhiTt bv kk nn 29 args (.tuple #[zkj kk nn x y z,.bool bv])
 | eqs (args:Array Value):PhiTt bv kk nn 19 args (.bool true)

set_option maxRecDepth 100000 in
theorem zof (ns:List PN) (bp:Option Addr) (nb no cap:Nat) (ms:List PN) (bp2:Option Addr) (mb mo cap2 a b c d e f:Nat) (s:Int) (w:World) (z1 z2:Int) (hz1:0≤z1) (hz2:0≤z2) (bv:Bool) (kk nn:Int) (V:Nat × Nat × Nat)
  (hsz1:∀ w',Below w.heap.size w w'→Calls Tryz.prog 13 #[.agg #[.slice bp ns.length cap],.int .i64 1048576] w' (fun e w''=>e=.returned (.int .i64 z1)∧Below w'.heap.size w' w''))
  (hsz2:∀ w',Below w.heap.size w w'→Calls Tryz.prog 13 #[.agg #[.slice bp2 ms.length cap2],.int .i64 z1] w' (fun e w''=>e=.returned (.int .i64 z2)∧Below w'.heap.size w' w''))
  (hto1:∀ w',Below w.heap.size w w'→Calls Tryz.prog 15 #[.agg #[.slice bp ns.length cap]] w' (zvl ns w'))
  (hto2:∀ w',Below w.heap.size w w'→Calls Tryz.prog 15 #[.agg #[.slice bp2 ms.length cap2]] w' (zvl ms w'))
  (hspec:∀ G H (w':World),(∀ i (h:i<ns.length),NodeNew ns[i] G (0+i*4) w')→(∀ i (h:i<ms.length),NodeNew ms[i] H (0+i*4) w')→Calls Tryz.prog 28 #[.agg #[.slice (some ⟨G,0,none⟩) ns.length ns.length],.agg #[.slice (some ⟨H,0,none⟩) ms.length ms.length],ug a b c d e f,.int .i64 s] w' (fun e w''=>∃ x y z,e=.returned (.tuple #[zkj kk nn x y z,.bool bv])∧(cn .f32 x,cn .f32 y,cn .f32 z)=V∧Below w'.heap.size w' w''))
  (himpl:∀ G H (w':World),(∀ i (h:i<ns.length),NodeNew ns[i] G (0+i*4) w')→(∀ i (h:i<ms.length),NodeNew ms[i] H (0+i*4) w')→Calls Tryz.prog 29 #[.agg #[.slice (some ⟨G,0,none⟩) ns.length ns.length],.agg #[.slice (some ⟨H,0,none⟩) ms.length ms.length],ug a b c d e f,.int .i64 s] w' (fun e w''=>∃ x y z,e=.returned (.tuple #[zkj kk nn x y z,.bool bv])∧(cn .f32 x,cn .f32 y,cn .f32 z)=V∧Below w'.heap.size w' w''))
  (heq1:∀ G H (w':World),(∀ i (h:i<ns.length),NodeNew ns[i] G (0+i*4) w')→(∀ i (h:i<ns.length),NodeNew ns[i] H (0+i*4) w')→Calls Tryz.prog 19 #[.agg #[.slice (some ⟨G,0,none⟩) ns.length ns.length],.agg #[.slice (some ⟨H,0,none⟩) ns.length ns.length]] w' (fun e w''=>e=.returned (.bool true)∧Below w'.heap.size w' w''))
  (heq2:∀ G H (w':World),(∀ i (h:i<ms.length),NodeNew ms[i] G (0+i*4) w')→(∀ i (h:i<ms.length),NodeNew ms[i] H (0+i*4) w')→Calls Tryz.prog 19 #[.agg #[.slice (some ⟨G,0,none⟩) ms.length ms.length],.agg #[.slice (some ⟨H,0,none⟩) ms.length ms.length]] w' (fun e w''=>e=.returned (.bool true)∧Below w'.heap.size w' w'')) :
  Calls Tryz.prog 5 #[.agg #[.slice bp ns.length cap],.agg #[.slice bp2 ms.length cap2],ug a b c d e f,.int .i64 s] w (fun e' w'=>e'=.returned (.bool true)∧Below w.heap.size w w'):=by
 have t1:True:=trivial
 go_enter Tryz.func5,Tryz.ntmps5
 go_upto_region 2 with fail
 generalize hW:((w.alloc (.cells #[.slice bp ns.length cap] 24)).alloc (.cells #[.slice bp2 ms.length cap2] 24)).alloc (.cells #[F1 a,F1 b,F1 c,F1 d,F1 e,F1 f] 29)=W1 at *
 have W1b:Below w.heap.size w W1:=by subst hW;exact vc ..
 have hkept:=xg false false false hW;simp only[zr,zq,zo,zv,Nat.reduceAdd]at hkept;clear hW
 have hK:=hkept;simp only[zc,ka,kb,zb,kfa,kga]at hK
 go_upto_region 8 with (first
  | (clear t1;go_at_call 13;refine (hsz1 _ W1b).mono ?_;rintro _ w2⟨rfl,hb1⟩;have W1b:=za W1b hb1;have hkept:=zn hkept hb1 rfl;replace hK:=hkept;simp only[zc,ka,kb,zb,kfa,kga]at hK)
  | (go_at_call 13;refine (hsz2 _ W1b).mono ?_;rintro _ w3⟨rfl,hb1⟩;have W3b:=za W1b hb1;have hkept:=zn hkept hb1 rfl;replace hK:=hkept;simp only[zc,ka,kb,zb,kfa,kga]at hK))
 clear hK hb1 W1b hsz1 hsz2
 have r1:True:=trivial
 refine Qg.wp_gdH 12 (by kernel_rfl) (by kernel_rfl) (by kernel_rfl) (by intro c a x v w h;cases x<;>exact h) (PhiTt bv kk nn) (Gd2 ns ms w3 [28] 30 [(10,#[.int .i64 0,.int .i64 0,F1 0,F1 0,F1 0],54)] 34 (zyr V)) [10] (zh7 ..) (zig (by intro d hd;simp at hd;rcases hd with rfl|rfl|rfl<;>rfl) rfl rfl) ?_
 intro hC0
 repeat (first
  | (refine Qg.walk_step fun K hK=>?_;apply Qg.one_det hC0 (by intro d hd;cases hd;decide) rfl;(focus (intro w' hw';have HK:=keep hkept hw';simp only[zc,ka,kb,zb,kfa,kga]at HK;go_simp;first|done|rfl));(focus (intro w' hw' hs;exact zby (jy (by decide) (by decide) (by decide)) (by decide)));go_simp;refine hK _ ?_;clear hK K)
  | (refine Qg.walk_step fun K hK=>?_;refine Qg.one_new (.cells #[.int .i64 0,.int .i64 0,F1 0,F1 0,F1 0] 54) hC0 rfl ?_ ?_ ?_ ?_;(focus (intro w' hw';go_simp;first|done|rfl));(focus (intro w' hw';exact hw'.alloc hw'.size _));(focus (intro w' hw';exact zby (zc1 (by decide) (by simp) (by decide) hw') (by decide)));intro _;go_simp;refine hK _ ?_;clear hK K)
  | (clear r1;refine Qg.walk_step fun K hK=>?_;apply Qg.one_call _ _ hC0 (by intro d hd;cases hd;decide) rfl;(focus (intro w' hw';go_simp;first|done|exact⟨rfl,rfl⟩));(focus (apply Exists.intro;(constructor<;>exact (0:Nat))));(focus (intro w' hw' hs; go_at_call 15;(refine (hto1 _ (za W3b hw')).mono ?_);rintro _ wA⟨G,rfl,hnew,hG,hb1⟩;exact⟨_,rfl,PhiTt.shape _ _ _ _,zby (zev hnew (by decide) (by decide)) (by decide),za hw' hb1,hb1⟩ ));intro v hv;cases hv;go_simp;refine hK _ ?_;clear hK K)
  | (refine Qg.walk_step fun K hK=>?_;apply Qg.one_call _ _ hC0 (by intro d hd;cases hd;decide) rfl;(focus (intro w' hw';go_simp;first|done|exact⟨rfl,rfl⟩));(focus (apply Exists.intro;(constructor<;>exact (0:Nat))));(focus (intro w' hw' hs; go_at_call 15;(refine (hto2 _ (za W3b hw')).mono ?_);rintro _ wA⟨G,rfl,hnew,hG,hb1⟩;exact⟨_,rfl,PhiTt.shape _ _ _ _,zpt hnew (by decide) (by decide) (by decide),za hw' hb1,hb1⟩ ));intro v hv;cases hv;go_simp;refine hK _ ?_;clear hK K)
  | (refine Qg.walk_step fun K hK=>?_;apply Qg.one_call _ _ hC0 (by intro d hd;cases hd;decide) rfl;(focus (intro w' hw';go_simp;first|done|exact⟨rfl,rfl⟩));(focus (apply Exists.intro;(constructor<;>exact (0:Nat))));(focus (intro w' hw' hs; go_at_call 16;refine (zvk _ _ _ _ _ _ _).mono ?_;rintro _ wA⟨rfl,hb1⟩;exact⟨_,rfl,PhiTt.box _ _ _ _ _ _,zby (jy (by decide) (by decide) (by decide)) (by decide),za hw' hb1,hb1⟩ ));intro v hv;cases hv;go_simp;refine hK _ ?_;clear hK K)
  | (refine Qg.walk_step fun K hK=>?_;apply Qg.one_call _ _ hC0 (by intro d hd;cases hd;decide) rfl;(focus (intro w' hw';go_simp;first|done|exact⟨rfl,rfl⟩));(focus (apply Exists.intro;(constructor<;>exact (0:Nat))));(focus (intro w' hw' hs; go_at_call 28;refine (hspec _ _ _ ((hs 28 (of_decide_eq_true (by kernel_rfl))).1.1 (by decide) _ rfl) ((hs 30 (of_decide_eq_true (by kernel_rfl))).2 rfl _ rfl)).mono ?_;rintro _ wA⟨x1,y1,z1,rfl,hp,hb1⟩;exact⟨_,rfl,PhiTt.spec _ _ _ _,zby (zpz (by decide) (by decide) (by intro _ _ _ _ _ _ h;obtain⟨rfl,rfl,rfl⟩:=zqn h;exact hp)) (by decide),za hw' hb1,hb1⟩ ));intro v hv;cases hv;go_simp;refine hK _ ?_;clear hK K))
 rename_i G H x1 y1 z1' g10
 refine Qg.walk_nil fun w6 hw6 hE=>?_
 have hp:(cn .f32 x1,cn .f32 y1,cn .f32 z1')=V:=by
  rcases (hE.1 34).1.2.2 rfl with h|h
  ·cases h
  ·exact h _ _ _ _ _ _ rfl
 obtain⟨g,e1,hg10,hgc10⟩:=(hE.1 10).1.2.1 (10,#[.int .i64 0,.int .i64 0,F1 0,F1 0,F1 0],54) (by simp) rfl _ rfl
 injection e1 with e1;injection e1 with e1;subst e1
 clear hE hspec
 obtain⟨⟨p0,p1,p2,p3,p4⟩,q0,q1,q2,q3,q4⟩:=zu9 hgc10
 go_upto_region 9 with fail
 obtain⟨hk6,hb6⟩:=zyl hgc10 hg10 (.int .i64 kk) (.int .i64 nn) (F1 x1) (F1 y1) (F1 z1')
 clear p0 p1 p2 p3 p4 q0 q1 q2 q3 q4 hgc10 hg10
 have hw7:=hw6.trans hb6
 clear hw6 hb6
 generalize ((((w6.setCell ⟨g10,0,none⟩ (.int .i64 kk)).setCell ⟨g10,1,none⟩ (.int .i64 nn)).setCell ⟨g10,2,none⟩ (F1 x1)).setCell ⟨g10,3,none⟩ (F1 y1)).setCell ⟨g10,4,none⟩ (F1 z1')=w7 at *
 have hkept:=ze (keep hkept hw7) hk6
 have W7b:=za W3b hw7
 clear hk6 hw7 hC0
 have hK:=hkept;simp only[zc,ka,kb,zb,kfa,kga]at hK
 go_upto_region 10 with (go_at_call 15;refine (hto1 _ W7b).mono ?_;rintro _ wA⟨X,rfl,hnewX,hX,hb1⟩)
 have hb7:Below wA.heap.size wA (wA.alloc (.cells #[.slice (some ⟨X,0,none⟩) ns.length ns.length] 36)):=zt ..
 have hnewX:∀ i (h:i<ns.length),NodeNew ns[i] X (0+i*4) (wA.alloc (.cells #[.slice (some ⟨X,0,none⟩) ns.length ns.length] 36)):=fun i h=>(hnewX i h).keep hb7
 have W8b:=za (za W7b hb1) hb7
 have hkept:=ze (keep (keep hkept hb1) hb7) (show zc [(⟨wA.heap.size,0,none⟩,.slice (some ⟨X,0,none⟩) ns.length ns.length)] [] (wA.alloc (.cells #[.slice (some ⟨X,0,none⟩) ns.length ns.length] 36)) by simp only[zc,ka,kb,zb,kfa,kga];simp)
 clear hK hb1 hb7 W7b hX
 generalize wA.alloc (.cells #[.slice (some ⟨X,0,none⟩) ns.length ns.length] 36)=w8 at *
 generalize wA.heap.size=gx at *
 have hK:=hkept;simp only[zc,ka,kb,zb,kfa,kga]at hK
 go_upto_region 11 with (go_at_call 15;refine (hto2 _ W8b).mono ?_;rintro _ wB⟨Y,rfl,hnewY,hY,hb1⟩)
 have hb7:Below wB.heap.size wB (wB.alloc (.cells #[.slice (some ⟨Y,0,none⟩) ms.length ms.length] 36)):=zt ..
 have hnewY:∀ i (h:i<ms.length),NodeNew ms[i] Y (0+i*4) (wB.alloc (.cells #[.slice (some ⟨Y,0,none⟩) ms.length ms.length] 36)):=fun i h=>(hnewY i h).keep hb7
 have hnewX:∀ i (h:i<ns.length),NodeNew ns[i] X (0+i*4) (wB.alloc (.cells #[.slice (some ⟨Y,0,none⟩) ms.length ms.length] 36)):=fun i h=>((hnewX i h).keep hb1).keep hb7
 have W9b:=za (za W8b hb1) hb7
 have hkept:=ze (keep (keep hkept hb1) hb7) (show zc [(⟨wB.heap.size,0,none⟩,.slice (some ⟨Y,0,none⟩) ms.length ms.length)] [] (wB.alloc (.cells #[.slice (some ⟨Y,0,none⟩) ms.length ms.length] 36)) by simp only[zc,ka,kb,zb,kfa,kga];simp)
 clear hK hb1 hb7 W8b hY
 generalize wB.alloc (.cells #[.slice (some ⟨Y,0,none⟩) ms.length ms.length] 36)=w9 at *
 generalize wB.heap.size=gy at *
 refine Qg.wp_gdH 10 (by kernel_rfl) (by kernel_rfl) (by kernel_rfl) (by intro c a x v w h;cases x<;>exact h) (PhiTt bv kk nn) (Gd2 ns ms w9 [] 100000 [(14,#[.int .i64 0,.int .i64 0,F1 0,F1 0,F1 0],54)] 47 (zyr V)) [14] (zh7 ..) (zig (by intro d hd;simp at hd;rcases hd with rfl|rfl<;>rfl) rfl rfl) ?_
 intro hC0
 repeat (first
  | (refine Qg.walk_step fun K hK=>?_;apply Qg.one_det hC0 (by intro d hd;cases hd;decide) rfl;(focus (intro w' hw';have HK:=keep hkept hw';simp only[zc,ka,kb,zb,kfa,kga]at HK;go_simp;first|done|rfl));(focus (intro w' hw' hs;exact zby (jy (by decide) (by decide) (by decide)) (by decide)));go_simp;refine hK _ ?_;clear hK K)
  | (refine Qg.walk_step fun K hK=>?_;refine Qg.one_new (.cells #[.int .i64 0,.int .i64 0,F1 0,F1 0,F1 0] 54) hC0 rfl ?_ ?_ ?_ ?_;(focus (intro w' hw';go_simp;first|done|rfl));(focus (intro w' hw';exact hw'.alloc hw'.size _));(focus (intro w' hw';exact zby (zc1 (by decide) (by simp) (by decide) hw') (by decide)));intro _;go_simp;refine hK _ ?_;clear hK K)
  | (refine Qg.walk_step fun K hK=>?_;apply Qg.one_call _ _ hC0 (by intro d hd;cases hd;decide) rfl;(focus (intro w' hw';go_simp;first|done|exact⟨rfl,rfl⟩));(focus (apply Exists.intro;(constructor<;>exact (0:Nat))));(focus (intro w' hw' hs; go_at_call 16;refine (zvk _ _ _ _ _ _ _).mono ?_;rintro _ wA⟨rfl,hb1⟩;exact⟨_,rfl,PhiTt.box _ _ _ _ _ _,zby (jy (by decide) (by decide) (by decide)) (by decide),za hw' hb1,hb1⟩ ));intro v hv;cases hv;go_simp;refine hK _ ?_;clear hK K)
  | (refine Qg.walk_step fun K hK=>?_;apply Qg.one_call _ _ hC0 (by intro d hd;cases hd;decide) rfl;(focus (intro w' hw';go_simp;first|done|exact⟨rfl,rfl⟩));(focus (apply Exists.intro;(constructor<;>exact (0:Nat))));(focus (intro w' hw' hs; go_at_call 29;refine (himpl _ _ _ (fun i h=>(hnewX i h).keep hw') (fun i h=>(hnewY i h).keep hw')).mono ?_;rintro _ wA⟨x2,y2,z2,rfl,hq,hb1⟩;exact⟨_,rfl,PhiTt.impl _ _ _ _,zby (zpz (by decide) (by decide) (by intro _ _ _ _ _ _ h;obtain⟨rfl,rfl,rfl⟩:=zqn h;exact hq)) (by decide),za hw' hb1,hb1⟩ ));intro v hv;cases hv;go_simp;refine hK _ ?_;clear hK K))
 rename_i x2 y2 z2' g14
 refine Qg.walk_nil fun w10 hw10 hE=>?_
 have hq:(cn .f32 x2,cn .f32 y2,cn .f32 z2')=V:=by
  rcases (hE.1 47).1.2.2 rfl with h|h
  ·cases h
  ·exact h _ _ _ _ _ _ rfl
 obtain⟨g,e1,hg14,hgc14⟩:=(hE.1 14).1.2.1 (14,#[.int .i64 0,.int .i64 0,F1 0,F1 0,F1 0],54) (by simp) rfl _ rfl
 injection e1 with e1;injection e1 with e1;subst e1
 clear hE himpl
 have hpq:=hq.trans hp.symm
 rw[Prod.mk.injEq,Prod.mk.injEq]at hpq
 obtain⟨e1,e2,e3⟩:=hpq
 clear hp hq
 obtain⟨⟨p0,p1,p2,p3,p4⟩,q0,q1,q2,q3,q4⟩:=zu9 hgc14
 go_upto_region 12 with fail
 obtain⟨hk9,hb9⟩:=zyl hgc14 hg14 (.int .i64 kk) (.int .i64 nn) (F1 x2) (F1 y2) (F1 z2')
 clear p0 p1 p2 p3 p4 q0 q1 q2 q3 q4 hgc14 hg14
 have hw11:=hw10.trans hb9
 clear hw10 hb9
 generalize ((((w10.setCell ⟨g14,0,none⟩ (.int .i64 kk)).setCell ⟨g14,1,none⟩ (.int .i64 nn)).setCell ⟨g14,2,none⟩ (F1 x2)).setCell ⟨g14,3,none⟩ (F1 y2)).setCell ⟨g14,4,none⟩ (F1 z2')=w11 at *
 have hkept:=ze (keep hkept hw11) hk9
 have W11b:=za W9b hw11
 have hnewX:=fun i h=>NodeNew.keep (hnewX i h) hw11
 have hnewY:=fun i h=>NodeNew.keep (hnewY i h) hw11
 clear hk9 hw11 hC0
 have hK:=hkept;simp only[zc,ka,kb,zb,kfa,kga]at hK
 have hRR:(bv != bv)=false:=by simp
 go_upto_region 14 with (go_at_call 30;refine (zvj _ _ _ _ _ _ _ _ (by with_reducible assumption) (by with_reducible assumption) (by with_reducible assumption) _).mono ?_;rintro _ w12⟨rfl,hb1⟩;have W12b:=za W11b hb1;have hnewX:=fun i h=>NodeNew.keep (hnewX i h) hb1;have hnewY:=fun i h=>NodeNew.keep (hnewY i h) hb1;have hkept:=zn hkept hb1 rfl;replace hK:=hkept;simp only[zc,ka,kb,zb,kfa,kga]at hK)
 clear hK e1 e2 e3 hb1 W11b
 refine Qg.wp_gd_all (by kernel_rfl) (by kernel_rfl) (PhiTt bv kk nn) (GdL ns w12 [61] [] 1000 (fun _=>True)) [] (qk ..) (ki (by intro d hd;simp at hd;rcases hd with rfl|rfl<;>rfl) rfl) ?_
 intro hC0
 repeat (first
  | (refine Qg.walk_step fun K hK=>?_;apply Qg.one_det hC0 (by intro d hd;cases hd;decide) rfl;(focus (intro w' hw';have HK:=keep hkept hw';simp only[zc,ka,kb,zb,kfa,kga]at HK;go_simp;first|done|rfl));(focus (intro w' hw' hs;exact jy (by decide) (by decide) (by decide)));go_simp;refine hK _ ?_;clear hK K)
  | (refine Qg.walk_step fun K hK=>?_;apply Qg.one_call _ _ hC0 (by intro d hd;cases hd;decide) rfl;(focus (intro w' hw';go_simp;first|done|exact⟨rfl,rfl⟩));(focus (apply Exists.intro;(constructor<;>exact (0:Nat))));(focus (intro w' hw' hs; go_at_call 15;(refine (hto1 _ (za W12b hw')).mono ?_);rintro _ wA⟨G,rfl,hnew,hG,hb1⟩;exact⟨_,rfl,PhiTt.shape _ _ _ _,zev hnew (by decide) (by decide),za hw' hb1,hb1⟩ ));intro v hv;cases hv;go_simp;refine hK _ ?_;clear hK K)
  | (refine Qg.walk_step fun K hK=>?_;apply Qg.one_call _ _ hC0 (by intro d hd;cases hd;decide) rfl;(focus (intro w' hw';go_simp;first|done|exact⟨rfl,rfl⟩));(focus (apply Exists.intro;(constructor<;>exact (0:Nat))));(focus (intro w' hw' hs; go_at_call 19;refine (heq1 _ _ _ (fun i h=>(hnewX i h).keep hw') ((hs 61 (of_decide_eq_true (by kernel_rfl))).1 (by decide) _ rfl)).mono ?_;rintro _ wA⟨rfl,hb1⟩;exact⟨_,rfl,PhiTt.eqs _,jy (by decide) (by decide) (by decide),za hw' hb1,hb1⟩ ));intro v hv;cases hv;go_simp;refine hK _ ?_;clear hK K))
 refine Qg.walk_nil fun w13 hw13 hE=>?_
 have W13b:=za W12b hw13
 have hkept:=keep hkept hw13
 have hnewY:=fun i h=>NodeNew.keep (hnewY i h) hw13
 clear hE hC0 hnewX W12b hw13
 go_upto_region 16 with fail
 refine Qg.wp_gd_all (by kernel_rfl) (by kernel_rfl) (PhiTt bv kk nn) (GdL ms w13 [66] [] 1000 (fun _=>True)) [] (qk ..) (ki (by intro d hd;simp at hd;rcases hd with rfl|rfl<;>rfl) rfl) ?_
 intro hC0
 repeat (first
  | (refine Qg.walk_step fun K hK=>?_;apply Qg.one_det hC0 (by intro d hd;cases hd;decide) rfl;(focus (intro w' hw';have HK:=keep hkept hw';simp only[zc,ka,kb,zb,kfa,kga]at HK;go_simp;first|done|rfl));(focus (intro w' hw' hs;exact jy (by decide) (by decide) (by decide)));go_simp;refine hK _ ?_;clear hK K)
  | (refine Qg.walk_step fun K hK=>?_;apply Qg.one_call _ _ hC0 (by intro d hd;cases hd;decide) rfl;(focus (intro w' hw';go_simp;first|done|exact⟨rfl,rfl⟩));(focus (apply Exists.intro;(constructor<;>exact (0:Nat))));(focus (intro w' hw' hs; go_at_call 15;(refine (hto2 _ (za W13b hw')).mono ?_);rintro _ wA⟨G,rfl,hnew,hG,hb1⟩;exact⟨_,rfl,PhiTt.shape _ _ _ _,zev hnew (by decide) (by decide),za hw' hb1,hb1⟩ ));intro v hv;cases hv;go_simp;refine hK _ ?_;clear hK K)
  | (refine Qg.walk_step fun K hK=>?_;apply Qg.one_call _ _ hC0 (by intro d hd;cases hd;decide) rfl;(focus (intro w' hw';go_simp;first|done|exact⟨rfl,rfl⟩));(focus (apply Exists.intro;(constructor<;>exact (0:Nat))));(focus (intro w' hw' hs; go_at_call 19;refine (heq2 _ _ _ (fun i h=>(hnewY i h).keep hw') ((hs 66 (of_decide_eq_true (by kernel_rfl))).1 (by decide) _ rfl)).mono ?_;rintro _ wA⟨rfl,hb1⟩;exact⟨_,rfl,PhiTt.eqs _,jy (by decide) (by decide) (by decide),za hw' hb1,hb1⟩ ));intro v hv;cases hv;go_simp;refine hK _ ?_;clear hK K))
 refine Qg.walk_nil fun w14 hw14 hE=>?_
 have W14b:=za W13b hw14
 clear hE
 go_wp2_with fail
 go_ret
 exact⟨rfl,W14b⟩

set_option maxRecDepth 100000 in
theorem zsk (ns:List PN) (bp:Option Addr) (nb no cap:Nat) (ms:List PN) (bp2:Option Addr) (mb mo cap2 a b c d e f:Nat) (s:Int) (w:World) (hns:NodesIn ns bp nb no w) (hms:NodesIn ms bp2 mb mo w) :
  Calls Tryz.prog 5 #[.agg #[.slice bp ns.length cap],.agg #[.slice bp2 ms.length cap2],ug a b c d e f,.int .i64 s] w (fun e' w'=>e'=.returned (.bool true)∧Below w.heap.size w w'):=by
 have hsz1:∀ w',Below w.heap.size w w'→Calls Tryz.prog 13 #[.agg #[.slice bp ns.length cap],.int .i64 1048576] w' (fun e w''=>e=.returned (.int .i64 (szS ns 1048576))∧Below w'.heap.size w' w'') :=
  fun w' hb=>zmb ns bp nb no cap 1048576 w' (hns.keep hb) (by omega)
 by_cases hneg:szS ns 1048576<0
 ·have hm:=zji hneg
  rw[hm]at hsz1
  clear hm hneg hns hms
  go_enter Tryz.func5,Tryz.ntmps5
  go_upto_region 2 with fail
  generalize hW:((w.alloc (.cells #[.slice bp ns.length cap] 24)).alloc (.cells #[.slice bp2 ms.length cap2] 24)).alloc (.cells #[F1 a,F1 b,F1 c,F1 d,F1 e,F1 f] 29)=W1 at *
  have W1b:Below w.heap.size w W1:=by subst hW;exact vc ..
  have hkept:=xg false false false hW;simp only[zr,zq,zo,zv,Nat.reduceAdd]at hkept;clear hW
  have hK:=hkept;simp only[zc,ka,kb,zb,kfa,kga]at hK
  go_wp2_with (go_at_call 13;refine (hsz1 _ W1b).mono ?_;rintro _ w2⟨rfl,hb2⟩;have W1b:=za W1b hb2)
  go_ret
  exact⟨rfl,W1b⟩
 obtain⟨hsm,hnsm⟩:=zip (by omega) (by omega) hneg
 have hz1:0≤szS ns 1048576:=by omega
 have hz1u:szS ns 1048576≤1048576:=zxo _ _ (by omega)
 generalize szS ns 1048576=z1 at *
 have hsz2:∀ w',Below w.heap.size w w'→Calls Tryz.prog 13 #[.agg #[.slice bp2 ms.length cap2],.int .i64 z1] w' (fun e w''=>e=.returned (.int .i64 (szS ms z1))∧Below w'.heap.size w' w'') :=
  fun w' hb=>zmb ms bp2 mb mo cap2 z1 w' (hms.keep hb) (by omega)
 by_cases hneg2:szS ms z1<0
 ·have hm:=zji hneg2
  rw[hm]at hsz2
  clear hm hneg hneg2 hns hms hnsm hsm
  have t1:True:=trivial
  go_enter Tryz.func5,Tryz.ntmps5
  go_upto_region 2 with fail
  generalize hW:((w.alloc (.cells #[.slice bp ns.length cap] 24)).alloc (.cells #[.slice bp2 ms.length cap2] 24)).alloc (.cells #[F1 a,F1 b,F1 c,F1 d,F1 e,F1 f] 29)=W1 at *
  have W1b:Below w.heap.size w W1:=by subst hW;exact vc ..
  have hkept:=xg false false false hW;simp only[zr,zq,zo,zv,Nat.reduceAdd]at hkept;clear hW
  have hK:=hkept;simp only[zc,ka,kb,zb,kfa,kga]at hK
  go_wp2_with (first
   | (clear t1;go_at_call 13;refine (hsz1 _ W1b).mono ?_;rintro _ w2⟨rfl,hb1⟩;have W1b:=za W1b hb1;have hkept:=zn hkept hb1 rfl;replace hK:=hkept;simp only[zc,ka,kb,zb,kfa,kga]at hK)
   | (go_at_call 13;refine (hsz2 _ W1b).mono ?_;rintro _ w3⟨rfl,hb1⟩;have W1b:=za W1b hb1))
  go_ret
  exact⟨rfl,W1b⟩
 obtain⟨hsm2,hnsm2⟩:=zip hz1 hz1u hneg2
 have hz2:0≤szS ms z1:=by omega
 generalize szS ms z1=z2 at *
 have hnum:∀ n∈ns,n.nums.length<10000000:=fun n hn=>by have:=hnsm n hn;omega
 have hnum2:∀ n∈ms,n.nums.length<10000000:=fun n hn=>by have:=hnsm2 n hn;omega
 have hl7:ns.length<10000000:=by omega
 have hl72:ms.length<10000000:=by omega
 have hsp:=fun G H w' hn hn2=>zlm ns ms hnum hnum2 G 0 ns.length H 0 ms.length a b c d e f s (some ⟨G,0,none⟩) (some ⟨H,0,none⟩) w' (fun _=>rfl) (fun _=>rfl) hn hn2 hl7 hl72 (fun h=>(zcf (by rw[← zam];exact h)).2) (fun h=>(zcf (by rw[← zam];exact h)).2)
 have him:=fun G H w' hn hn2=>zsd ns ms hnum hnum2 G 0 ns.length H 0 ms.length a b c d e f s (some ⟨G,0,none⟩) (some ⟨H,0,none⟩) w' (fun _=>rfl) (fun _=>rfl) hn hn2 hl7 hl72
 rw[zam,zam]at hsp
 simp only[zwb]at hsp
 unfold zd7 at hsp him
 generalize (if jp (xd ns) (xd ms) (cnB a b c d e f) s=true then kqc xk (lfF ns ms) (zcc ns ms) s.toNat [cnB a b c d e f] 0 else none)=R at *
 generalize (tcD R).1=kk at *
 generalize (tcD R).2.1=nn at *
 generalize (tcD R).2.2=V at *
 generalize R.isSome=bv at *
 exact zof ns bp nb no cap ms bp2 mb mo cap2 a b c d e f s w z1 z2 hz1 hz2 bv kk nn V hsz1 hsz2
  (fun w' hb=>zmp ns hsm hnsm bp nb no cap w' (hns.keep hb)) (fun w' hb=>zmp ms hsm2 hnsm2 bp2 mb mo cap2 w' (hms.keep hb))
  (fun G H w' h1 h2=>hsp G H w' (fun i h=>(h1 i h).into) (fun i h=>(h2 i h).into))
  (fun G H w' h1 h2=>him G H w' (fun i h=>(h1 i h).into) (fun i h=>(h2 i h).into))
  (fun G H w' h1 h2=>zlz ns hsm hnsm G H _ _ w' h1 h2) (fun G H w' h1 h2=>zlz ms hsm2 hnsm2 G H _ _ w' h1 h2)
end Go.Proofs.YtbiacfkiakddiaaGreat

namespace Go.Proofs.YtbiacfkiakddiaaGreat
open Go.RowKit Go.Fl Go.ChangeShapes Go.WideShapes Go.ChangeAt
set_option maxRecDepth 100000 in
theorem lifted_touch_in_holds (os:Os) (started:os.Started) (H:Type) (enc:TypeId × Value→H) :
  ReturnsInHanded {} Tryz.checked os 5 .any (Rows.fnExactTouchInSpec.pre6 enc Tryz.prog Tryz.f5 Rows.fnExactTouchInRow.domain false) (Rows.fnExactTouchInSpec.post enc Tryz.prog Tryz.f5 false true false false):=by
 refine returnsInHanded_of_change (C:=Tryz.checked) ztt started (by kernel_rfl) Tryz.func5
  (ChangeSpec.witness6 (enc:=enc) (C:=Tryz.checked) false ⟨#[],#[.agg #[.slice none 0 0],.agg #[.slice none 0 0],.agg #[F1 0,F1 0,F1 0,F1 0,F1 0,F1 0],.int .i64 0],[]⟩ 12 (by kernel_rfl) (by kernel_rfl) (by kernel_rfl) (by kernel_rfl)) ?_
 intro W base args ds gs before hval0 hW hcnd _
 have hval:∀ (j:Nat) t v,Tryz.f5.params[j]? = some t→args[j]? = some v→Value.okWide Tryz.prog W .any base t v:=hval0
 have hW':=hW
 obtain⟨p,q,hA0,hV,rfl,hfz,hnd⟩:=hW
 have hA:DataW.TrodAll enc Tryz.prog W 0 (fun _=>true) true Tryz.f5.params.toList args.toList ds p:=hA0
 rw[Tryz.params5]at hA hval
 obtain⟨v0,v1,v2,v3,d0,d1,d2,d3,p0,p1,p2,p3,rfl,rfl,rfl,h0,h1,h2,h3⟩:=zrl hA
 obtain⟨rfl,rfl⟩:=trodVars_none hV
 obtain⟨ns,bp,nb,no,cap,rfl,hns⟩:=zg7 (hval 0 24 v0 rfl rfl) h0
 obtain⟨ns2,bp2,nb2,no2,cap2,rfl,hns2⟩:=zg7 (hval 1 24 v1 rfl rfl) h1
 obtain⟨a,b,c,d,e,f,rfl⟩:=ztu (hval 2 29 v2 rfl rfl) h2
 obtain⟨s,rfl⟩:=zwm Tryz.underlying2 (hval 3 2 v3 rfl rfl)
 clear hA0 hval0
 simp only[List.append_nil]at hW'
 have hlt:∀ m∈p0++(p1++(p2++(p3))),m.block<W.heap.size:=fun m hm=>hW'.lt m hm
 refine (zsk ns bp nb no cap ns2 bp2 nb2 no2 cap2 a b c d e f s W hns hns2).mono fun e W' ⟨he,hg⟩=>?_
 subst he
 have m0:∀ m∈p0,m∈p0++(p1++(p2++(p3))):=fun m h=>by simp[h]
 have m1:∀ m∈p1,m∈p0++(p1++(p2++(p3))):=fun m h=>by simp[h]
 have m2:∀ m∈p2,m∈p0++(p1++(p2++(p3))):=fun m h=>by simp[h]
 have m3:∀ m∈p3,m∈p0++(p1++(p2++(p3))):=fun m h=>by simp[h]
 refine⟨_,rfl,zn4 (pa:=p0++(p1++(p2++(p3++[])))) (pv:=[]) hW' (fun _ _ _=>(trodAll_cons_mk (shut_bool Tryz.underlying4 _) trodAll_mk0)) (fun sp hsp=>?_) (fun _ _=>rfl) (by simp) hg (ok_one (by kernel_rfl) rfl (okWide_bool_mk Tryz.underlying4 _))⟩
 refine trodAll_cons_mk (WideElems.Trod_stays zd0 (by kernel_rfl) (of_decide_eq_true (by kernel_rfl)) h0 (fun m hm=>hg.same (hlt m (m0 m hm))) (fun m hm=>hsp m (m0 m hm))) ?_
 refine trodAll_cons_mk (WideElems.Trod_stays zd0 (by kernel_rfl) (of_decide_eq_true (by kernel_rfl)) h1 (fun m hm=>hg.same (hlt m (m1 m hm))) (fun m hm=>hsp m (m1 m hm))) ?_
 refine trodAll_cons_mk (WideElems.Trod_stays zd0 (by kernel_rfl) (of_decide_eq_true (by kernel_rfl)) h2 (fun m hm=>hg.same (hlt m (m2 m hm))) (fun m hm=>hsp m (m2 m hm))) ?_
 exact trodAll_cons_mk (WideElems.Trod_stays zd0 (by kernel_rfl) (of_decide_eq_true (by kernel_rfl)) h3 (fun m hm=>hg.same (hlt m (m3 m hm))) (fun m hm=>hsp m (m3 m hm))) trodAll_mk0

set_option maxRecDepth 100000 in
theorem closed_touch_in_holds:joinedFacts Tryz.prog 5 Tryz.f5 Rows.fnExactTouchInSpec Rows.fnExactTouchInRow=true:=by
 unfold joinedFacts
 repeat' (with_reducible refine zxl ?_ ?_)
 all_goals (as_aux_lemma=>kernel_rfl)

set_option maxRecDepth 100000 in
theorem touch_in_holds:Rows.FnExactTouchInSaid :=
 OpenClaim.holds_of_wide 5 Tryz.f5 rfl rfl rfl rfl rfl rfl rfl ⟨rfl,rfl,rfl,rfl,rfl⟩ rfl rfl rfl rfl rfl (by kernel_rfl) Tryz.func5 closed_touch_in_holds
  (of_decide_eq_true (by kernel_rfl)) (by unfold Func.isWrapper;first|(rw[if_pos (by decide +kernel)];kernel_rfl)|(rw[if_neg (by decide +kernel)];exact⟨rfl,rfl⟩))
  (fun os started H enc _=>lifted_touch_in_holds os started H enc)
#print axioms touch_in_holds
end Go.Proofs.YtbiacfkiakddiaaGreat
