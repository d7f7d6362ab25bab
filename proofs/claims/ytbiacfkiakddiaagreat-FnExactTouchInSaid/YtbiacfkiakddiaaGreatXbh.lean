/-
 Lemmas: V11,V14.
-/
import Derived.Test.YtbiacfkiakddiaaGreatXbg
set_option linter.unusedVariables false
set_option linter.unusedSimpArgs false
set_option maxHeartbeats 2000000
namespace Go.Proofs.YtbiacfkiakddiaaGreat
open Go.RowKit Go.Fl
abbrev Rg3 (x0 x1 y0 y1 z0 z1:Nat):Value:=.agg #[F1 x0,F1 x1,F1 y0,F1 y1,F1 z0,F1 z1]
def za5 (b:Bool) (r:Nat × Nat):Nat × Nat:=if b then r else (zaz,kl)
def zdi (G:Nat→Nat→Nat→Nat) (x y z:Nat × Nat):Nat × Nat:=(G (yz x).1 (yz y).1 (yz z).1,G (yz x).2 (yz y).2 (yz z).2)
def x9 (r:Nat × Nat):Bool:=zba r.1 && zba r.2
theorem jf (a b:Nat):(!([a,b]:List Nat).any (fun x=>!qn x))=x9 (cn .f32 a,cn .f32 b):=by
 unfold x9 zba
 simp only[List.any_cons,List.any_nil,qn,Bool.or_false,Bool.not_or,Bool.not_not]


theorem zqd (a b:Nat):(cn .f32 (yz (cn .f32 a,cn .f32 b)).1,cn .f32 (yz (cn .f32 a,cn .f32 b)).2)=yz (cn .f32 a,cn .f32 b):=by
 unfold yz z7 un
 repeat' split
 all_goals first|rfl|(simp only[zyf,ye];done)

inductive PhiLf (b o:Nat) (G:Nat→Nat→Nat→Nat):FuncId→Array Value→Value→Prop
 | leaf (x y z r:Nat) (h:cn .f32 r=G (cn .f32 x) (cn .f32 y) (cn .f32 z)):PhiLf b o G 217 #[.pointer (some ⟨b,o,none⟩),V3 x y z] (F1 r)

theorem zve {w:World} {g k m B:Nat} {a b a' b' a2 b2:Value} {T T' T2:TypeId} (hg:w.heap[g]? = some (.cells #[a,b] T (0,0))) (hk:w.heap[k]? = some (.cells #[a',b'] T' (0,0))) (hm:w.heap[m]? = some (.cells #[a2,b2] T2 (0,0))) (h1:g ≠ k) (h2:g ≠ m) (h3:k ≠ m) (hB1:B≤g) (hB2:B≤k) (hB3:B≤m) (x y x' y' x2 y2:Value) :
  zc [(⟨g,0,none⟩,x),(⟨g,1,none⟩,y),(⟨k,0,none⟩,x'),(⟨k,1,none⟩,y'),(⟨m,0,none⟩,x2),(⟨m,1,none⟩,y2)] [] ((((((w.setCell ⟨g,0,none⟩ x).setCell ⟨g,1,none⟩ y).setCell ⟨k,0,none⟩ x').setCell ⟨k,1,none⟩ y').setCell ⟨m,0,none⟩ x2).setCell ⟨m,1,none⟩ y2)∧Below B w ((((((w.setCell ⟨g,0,none⟩ x).setCell ⟨g,1,none⟩ y).setCell ⟨k,0,none⟩ x').setCell ⟨k,1,none⟩ y').setCell ⟨m,0,none⟩ x2).setCell ⟨m,1,none⟩ y2):=by
 obtain⟨c1,d1⟩:=zay hg x y
 have hk':((w.setCell ⟨g,0,none⟩ x).setCell ⟨g,1,none⟩ y).heap[k]? = some (.cells #[a',b'] T' (0,0)):=by
  simp only[World.setCell,Array.getElem?_modify,if_neg h1];exact hk
 have hm':((w.setCell ⟨g,0,none⟩ x).setCell ⟨g,1,none⟩ y).heap[m]? = some (.cells #[a2,b2] T2 (0,0)):=by
  simp only[World.setCell,Array.getElem?_modify,if_neg h2];exact hm
 generalize (w.setCell ⟨g,0,none⟩ x).setCell ⟨g,1,none⟩ y=w1 at *
 obtain⟨c2,d2⟩:=zay hk' x' y'
 have hm2:((w1.setCell ⟨k,0,none⟩ x').setCell ⟨k,1,none⟩ y').heap[m]? = some (.cells #[a2,b2] T2 (0,0)):=by
  simp only[World.setCell,Array.getElem?_modify,if_neg h3];exact hm'
 have hg2:((w1.setCell ⟨k,0,none⟩ x').setCell ⟨k,1,none⟩ y').heap[g]? = some (.cells #[x,y] T (0,0)):=by
  simp only[World.setCell,Array.getElem?_modify,if_neg (Ne.symm h1)];exact c1
 generalize (w1.setCell ⟨k,0,none⟩ x').setCell ⟨k,1,none⟩ y'=w2 at *
 obtain⟨c3,d3⟩:=zay hm2 x2 y2
 have hg3:((w2.setCell ⟨m,0,none⟩ x2).setCell ⟨m,1,none⟩ y2).heap[g]? = some (.cells #[x,y] T (0,0)):=by
  simp only[World.setCell,Array.getElem?_modify,if_neg (Ne.symm h2)];exact hg2
 have hk3:((w2.setCell ⟨m,0,none⟩ x2).setCell ⟨m,1,none⟩ y2).heap[k]? = some (.cells #[x',y'] T' (0,0)):=by
  simp only[World.setCell,Array.getElem?_modify,if_neg (Ne.symm h3)];exact c2
 obtain⟨p0,p1,-⟩:=xc hg3
 obtain⟨q0,q1,-⟩:=xc hk3
 obtain⟨r0,r1,-⟩:=xc c3
 refine⟨?_,((d1.mono hB1).trans (d2.mono hB2)).trans (d3.mono hB3)⟩
 simp only[zc,ka,kb,zb,kfa,kga]
 simp[p0,p1,q0,q1,r0,r1]


set_option maxRecDepth 100000 in
theorem zod {b o bv ov cap r0 x0 x1 y0 y1 z0 z1:Nat} {w:World} (hN:zc [(⟨b,o,none⟩,.int .i64 0),(⟨b,o+3,none⟩,.slice (some ⟨bv,ov,none⟩) 1 cap),(⟨bv,ov,none⟩,F1 r0)] [] w) :
  Calls Tryz.prog 135 #[.pointer (some ⟨b,o,none⟩),Rg3 x0 x1 y0 y1 z0 z1] w (x6 (za5 (x9 (cn .f32 x0,cn .f32 x1) && x9 (cn .f32 y0,cn .f32 y1) && x9 (cn .f32 z0,cn .f32 z1)) (zdi (fun x y z=>zdg x y z (cn .f32 r0)) (cn .f32 x0,cn .f32 x1) (cn .f32 y0,cn .f32 y1) (cn .f32 z0,cn .f32 z1))) w):=by
 have hX:=jf x0 x1
 have hY:=jf y0 y1
 have hZ:=jf z0 z1
 generalize x9 (cn .f32 x0,cn .f32 x1)=FX at *
 generalize x9 (cn .f32 y0,cn .f32 y1)=FY at *
 generalize x9 (cn .f32 z0,cn .f32 z1)=FZ at *
 have hK:=hN
 simp only[zc,ka,kb,zb,kfa,kga]at hK
 have hb:b<w.heap.size:=zg (a:=⟨b,o,none⟩) (by rw[hK.1];rfl)
 go_enter Tryz.func135,Tryz.ntmps135
 go_upto_region 1 with fail
 clear hK
 generalize hW:(w.alloc (.cells #[F1 x0,F1 x1,F1 y0,F1 y1,F1 z0,F1 z1] 197)).alloc (.cells #[F1 0,F1 0] 118)=W1 at *
 have W1b:Below w.heap.size w W1:=by subst hW;exact xa ..
 have hkept:=yt false true hW;simp only[zr,zq,zo,zv,Nat.reduceAdd]at hkept;clear hW
 have hkept:=ze (keep hN W1b) hkept
 clear hN
 have hK:=hkept;simp only[zc,ka,kb,zb,kfa,kga]at hK
 have hb1:b<W1.heap.size:=Nat.lt_of_lt_of_le hb W1b.size
 go_upto_region 2 with fail
 have hbA:Below W1.heap.size W1 (W1.alloc (.cells #[.slice (some ⟨bv,ov,none⟩) 1 cap] 140)):=zt ..
 have hkept:=ze (keep hkept hbA) (show zc [(⟨W1.heap.size,0,none⟩,.slice (some ⟨bv,ov,none⟩) 1 cap)] [] (W1.alloc (.cells #[.slice (some ⟨bv,ov,none⟩) 1 cap] 140)) by simp only[zc,ka,kb,zb,kfa,kga];simp)
 have W2b:=za W1b hbA
 generalize W1.alloc (.cells #[.slice (some ⟨bv,ov,none⟩) 1 cap] 140)=W2 at *
 clear hK hbA
 have hK:=hkept;simp only[zc,ka,kb,zb,kfa,kga]at hK
 go_upto_region 3 with fail
 go_loopw [18] (fun i wr=>∃ m:Nat,i=.int .i64 (m:Int)∧(m=0∨(m=1∧FX=true)∨(m=2∧FX=true∧FY=true)∨(m=3∧FX=true∧FY=true∧FZ=true))∧Below W2.heap.size W2 wr) (fun i _=>3-(intOf i).toNat)
 case atStart=>exact⟨0,rfl,.inl rfl,zi _ _⟩
 case round =>
  obtain⟨m,rfl,hm,hwr⟩:=hrel
  have hkept:=keep hkept hwr
  clear hK
  have hK:=hkept;simp only[zc,ka,kb,zb,kfa,kga]at hK
  have W3b:=za W2b hwr
  rcases hm with rfl|⟨rfl,rfl⟩|⟨rfl,rfl,rfl⟩|⟨rfl,rfl,rfl,rfl⟩
  ·cases FX
   ·go_upto_region 4 with fail
    refine wp_region_lit ?_
    refine Fl.wp_op rfl (RgV x0 x1) wr (by kernel_rfl) ?_
    go_simp
    go_wp2_with (first|(go_at_call 204;refine (yf [x0,x1] (some ⟨_,0,none⟩) _ 0 2 _ (fun _=>rfl) ?_ (by simp)).mono ?_;(focus (intro i hi;have h3:i=0∨i=1:=(by simp at hi;omega);rcases h3 with rfl|rfl<;>simp));rintro _ w8⟨rfl,hb1⟩;have hbx:=za ((hwr.alloc hwr.size _).alloc (Nat.le_trans hwr.size (by simp)) _) hb1;have hkept:=zn (keep (keep hkept (zt ..)) (zt ..)) hb1 rfl;replace hK:=hkept;simp only[zc,ka,kb,zb,kfa,kga]at hK;rw[hX])|(go_at_call 138;refine (z8 _).mono ?_;rintro _ w9⟨l1,u1,rfl,e1,hb1⟩;have hbx:=za hbx hb1;have hkept:=zn hkept hb1 rfl;replace hK:=hkept;simp only[zc,ka,kb,zb,kfa,kga]at hK))
    exact bodyPost_ret (v:=RgV l1 u1) (by simp[results,Tryz.results135,go_sem,hK,zf,zh];first|done|exact⟨rfl,rfl⟩) rfl ⟨_,_,rfl,by rw[e1];simp only[Bool.false_and,Bool.and_false,Bool.true_and];rfl,y4 (za W2b hbx) (by omega) ..⟩
   ·go_upto_region 4 with fail
    refine wp_region_lit ?_
    refine Fl.wp_op rfl (RgV x0 x1) wr (by kernel_rfl) ?_
    go_simp
    go_wp2_with (first|(go_at_call 204;refine (yf [x0,x1] (some ⟨_,0,none⟩) _ 0 2 _ (fun _=>rfl) ?_ (by simp)).mono ?_;(focus (intro i hi;have h3:i=0∨i=1:=(by simp at hi;omega);rcases h3 with rfl|rfl<;>simp));rintro _ w8⟨rfl,hb1⟩;have hbx:=za ((hwr.alloc hwr.size _).alloc (Nat.le_trans hwr.size (by simp)) _) hb1;have hkept:=zn (keep (keep hkept (zt ..)) (zt ..)) hb1 rfl;replace hK:=hkept;simp only[zc,ka,kb,zb,kfa,kga]at hK;rw[hX])|(go_at_call 138;refine (z8 _).mono ?_;rintro _ w9⟨l1,u1,rfl,e1,hb1⟩;have hbx:=za hbx hb1;have hkept:=zn hkept hb1 rfl;replace hK:=hkept;simp only[zc,ka,kb,zb,kfa,kga]at hK))
    exact⟨⟨1,rfl,by simp,hbx⟩,by simp[intOf]⟩
  ·cases FY
   ·go_upto_region 4 with fail
    refine wp_region_lit ?_
    refine Fl.wp_op rfl (RgV y0 y1) wr (by kernel_rfl) ?_
    go_simp
    go_wp2_with (first|(go_at_call 204;refine (yf [y0,y1] (some ⟨_,0,none⟩) _ 0 2 _ (fun _=>rfl) ?_ (by simp)).mono ?_;(focus (intro i hi;have h3:i=0∨i=1:=(by simp at hi;omega);rcases h3 with rfl|rfl<;>simp));rintro _ w8⟨rfl,hb1⟩;have hbx:=za ((hwr.alloc hwr.size _).alloc (Nat.le_trans hwr.size (by simp)) _) hb1;have hkept:=zn (keep (keep hkept (zt ..)) (zt ..)) hb1 rfl;replace hK:=hkept;simp only[zc,ka,kb,zb,kfa,kga]at hK;rw[hY])|(go_at_call 138;refine (z8 _).mono ?_;rintro _ w9⟨l1,u1,rfl,e1,hb1⟩;have hbx:=za hbx hb1;have hkept:=zn hkept hb1 rfl;replace hK:=hkept;simp only[zc,ka,kb,zb,kfa,kga]at hK))
    exact bodyPost_ret (v:=RgV l1 u1) (by simp[results,Tryz.results135,go_sem,hK,zf,zh];first|done|exact⟨rfl,rfl⟩) rfl ⟨_,_,rfl,by rw[e1];simp only[Bool.false_and,Bool.and_false,Bool.true_and];rfl,y4 (za W2b hbx) (by omega) ..⟩
   ·go_upto_region 4 with fail
    refine wp_region_lit ?_
    refine Fl.wp_op rfl (RgV y0 y1) wr (by kernel_rfl) ?_
    go_simp
    go_wp2_with (first|(go_at_call 204;refine (yf [y0,y1] (some ⟨_,0,none⟩) _ 0 2 _ (fun _=>rfl) ?_ (by simp)).mono ?_;(focus (intro i hi;have h3:i=0∨i=1:=(by simp at hi;omega);rcases h3 with rfl|rfl<;>simp));rintro _ w8⟨rfl,hb1⟩;have hbx:=za ((hwr.alloc hwr.size _).alloc (Nat.le_trans hwr.size (by simp)) _) hb1;have hkept:=zn (keep (keep hkept (zt ..)) (zt ..)) hb1 rfl;replace hK:=hkept;simp only[zc,ka,kb,zb,kfa,kga]at hK;rw[hY])|(go_at_call 138;refine (z8 _).mono ?_;rintro _ w9⟨l1,u1,rfl,e1,hb1⟩;have hbx:=za hbx hb1;have hkept:=zn hkept hb1 rfl;replace hK:=hkept;simp only[zc,ka,kb,zb,kfa,kga]at hK))
    exact⟨⟨2,rfl,by simp,hbx⟩,by simp[intOf]⟩
  ·cases FZ
   ·go_upto_region 4 with fail
    refine wp_region_lit ?_
    refine Fl.wp_op rfl (RgV z0 z1) wr (by kernel_rfl) ?_
    go_simp
    go_wp2_with (first|(go_at_call 204;refine (yf [z0,z1] (some ⟨_,0,none⟩) _ 0 2 _ (fun _=>rfl) ?_ (by simp)).mono ?_;(focus (intro i hi;have h3:i=0∨i=1:=(by simp at hi;omega);rcases h3 with rfl|rfl<;>simp));rintro _ w8⟨rfl,hb1⟩;have hbx:=za ((hwr.alloc hwr.size _).alloc (Nat.le_trans hwr.size (by simp)) _) hb1;have hkept:=zn (keep (keep hkept (zt ..)) (zt ..)) hb1 rfl;replace hK:=hkept;simp only[zc,ka,kb,zb,kfa,kga]at hK;rw[hZ])|(go_at_call 138;refine (z8 _).mono ?_;rintro _ w9⟨l1,u1,rfl,e1,hb1⟩;have hbx:=za hbx hb1;have hkept:=zn hkept hb1 rfl;replace hK:=hkept;simp only[zc,ka,kb,zb,kfa,kga]at hK))
    exact bodyPost_ret (v:=RgV l1 u1) (by simp[results,Tryz.results135,go_sem,hK,zf,zh];first|done|exact⟨rfl,rfl⟩) rfl ⟨_,_,rfl,by rw[e1];simp only[Bool.false_and,Bool.and_false,Bool.true_and];rfl,y4 (za W2b hbx) (by omega) ..⟩
   ·go_upto_region 4 with fail
    refine wp_region_lit ?_
    refine Fl.wp_op rfl (RgV z0 z1) wr (by kernel_rfl) ?_
    go_simp
    go_wp2_with (first|(go_at_call 204;refine (yf [z0,z1] (some ⟨_,0,none⟩) _ 0 2 _ (fun _=>rfl) ?_ (by simp)).mono ?_;(focus (intro i hi;have h3:i=0∨i=1:=(by simp at hi;omega);rcases h3 with rfl|rfl<;>simp));rintro _ w8⟨rfl,hb1⟩;have hbx:=za ((hwr.alloc hwr.size _).alloc (Nat.le_trans hwr.size (by simp)) _) hb1;have hkept:=zn (keep (keep hkept (zt ..)) (zt ..)) hb1 rfl;replace hK:=hkept;simp only[zc,ka,kb,zb,kfa,kga]at hK;rw[hZ])|(go_at_call 138;refine (z8 _).mono ?_;rintro _ w9⟨l1,u1,rfl,e1,hb1⟩;have hbx:=za hbx hb1;have hkept:=zn hkept hb1 rfl;replace hK:=hkept;simp only[zc,ka,kb,zb,kfa,kga]at hK))
    exact⟨⟨3,rfl,by simp,hbx⟩,by simp[intOf]⟩
  ·clear hX hY hZ
   go_upto_region 11 with fail
   refine Qg.wp_gd 12 (by kernel_rfl) (by kernel_rfl) PhiRg (GdL [] wr [] [(8,#[F1 0,F1 0],118),(9,#[F1 0,F1 0],118),(10,#[F1 0,F1 0],118)] 1000 (fun _=>True)) [8,9,10] (qk ..) (ki (by intro d hd;simp at hd;rcases hd with rfl|rfl|rfl|rfl<;>rfl) rfl) ?_
   intro hC0
   repeat (first|(refine Qg.walk_step fun K hK=>?_;apply Qg.one_det hC0 (by intro d hd;cases hd;decide) rfl;(focus (intro w' hw';have HK:=keep hkept hw';simp only[zc,ka,kb,zb,kfa,kga]at HK;go_simp;first|done|rfl));(focus (intro w' hw' hs;exact jy (by decide) (by decide) (by decide)));go_simp;refine hK _ ?_;clear hK K)|(refine Qg.walk_step fun K hK=>?_;refine Qg.one_new (.cells #[F1 0,F1 0] 118) hC0 rfl ?_ ?_ ?_ ?_;(focus (intro w' hw';go_simp;first|done|rfl));(focus (intro w' hw';exact hw'.alloc hw'.size _));(focus (intro w' hw';exact zc1 (by decide) (by simp) (by decide) hw'));intro _;go_simp;refine hK _ ?_;clear hK K)|(refine Qg.walk_step fun K hK=>?_;apply Qg.one_call _ _ hC0 (by intro d hd;cases hd;decide) rfl;(focus (intro w' hw';go_simp;first|done|exact⟨rfl,rfl⟩));(focus (exact⟨_,PhiRg.sizer _ _ _ _ (zqd _ _)⟩));(focus (intro w' hw' hs;go_at_call 215;refine (xq _ _ _).mono ?_;rintro _ wA⟨l1,u1,rfl,e1,hb1⟩;exact⟨_,rfl,PhiRg.sizer _ _ _ _ e1,jy (by decide) (by decide) (by decide),za hw' hb1,hb1⟩));intro v hv;cases hv;go_simp;refine hK _ ?_;clear hK K))
   rename_i l1 u1 e1 l2 u2 e2 l3 u3 e3 ga gb gc
   refine Qg.walk_nil fun w6 hw6 hE=>?_
   obtain⟨g,ee,hga,hca⟩:=(hE.1 8).2.1 (8,#[F1 0,F1 0],118) (by simp) rfl _ rfl
   injection ee with ee;injection ee with ee;subst ee
   obtain⟨g,ee,hgb,hcb⟩:=(hE.1 9).2.1 (9,#[F1 0,F1 0],118) (by simp) rfl _ rfl
   injection ee with ee;injection ee with ee;subst ee
   obtain⟨g,ee,hgc,hcc⟩:=(hE.1 10).2.1 (10,#[F1 0,F1 0],118) (by simp) rfl _ rfl
   injection ee with ee;injection ee with ee;subst ee
   have n1:ga ≠ gb:=fun h=>hE.2.2 8 (by simp) 9 (by simp) (by decide) ga rfl (by rw[h];rfl)
   have n2:ga ≠ gc:=fun h=>hE.2.2 8 (by simp) 10 (by simp) (by decide) ga rfl (by rw[h];rfl)
   have n3:gb ≠ gc:=fun h=>hE.2.2 9 (by simp) 10 (by simp) (by decide) gb rfl (by rw[h];rfl)
   clear hE hC0
   obtain⟨hset,hbw⟩:=zve hca hcb hcc n1 n2 n3 hga hgb hgc (F1 l1) (F1 u1) (F1 l2) (F1 u2) (F1 l3) (F1 u3)
   have hbw:=hw6.trans hbw
   obtain⟨pa0,pa1,fa0,fa1⟩:=xc hca
   obtain⟨pb0,pb1,fb0,fb1⟩:=xc hcb
   obtain⟨pc0,pc1,fc0,fc1⟩:=xc hcc
   clear hca hcb hcc
   go_upto_region 12 with fail
   clear pa0 pa1 fa0 fa1 pb0 pb1 fb0 fb1 pc0 pc1 fc0 fc1
   have hkept:=ze (keep hkept hbw) hset
   have W7b:=za W3b hbw
   clear hset hK hw6
   generalize ((((((w6.setCell ⟨ga,0,none⟩ (F1 l1)).setCell ⟨ga,1,none⟩ (F1 u1)).setCell ⟨gb,0,none⟩ (F1 l2)).setCell ⟨gb,1,none⟩ (F1 u2)).setCell ⟨gc,0,none⟩ (F1 l3)).setCell ⟨gc,1,none⟩ (F1 u3))=w7 at *
   have hK:=hkept;simp only[zc,ka,kb,zb,kfa,kga]at hK
   refine Qr.wp_below 19 (by kernel_rfl) (by kernel_rfl) (PhiLf b o (fun x y z=>zdg x y z (cn .f32 r0))) ?_
   repeat (refine Qr.walk_plain rfl fun K hK=>?_;(first|(apply Qr.one_det;(focus (intro w' hw';have HK:=keep hkept hw';simp only[zc,ka,kb,zb,kfa,kga]at HK;go_simp;first|done|rfl)))|(apply Qr.one_call;(focus (intro w' hw';go_simp;first|done|exact⟨rfl,rfl⟩));(focus (intro w' hw';have HK2:=keep hkept hw';simp only[zc,ka,kb,zb,kfa,kga]at HK2;go_at_call 217;refine (zi1 b o bv ov cap r0 _ _ _ _ (by simp only[HK2]) (by simp only[HK2]) (by simp only[HK2])).mono ?_;rintro _ w2⟨r1,rfl,hr1,hb1⟩;exact⟨_,rfl,.leaf _ _ _ _ hr1,za hw' ‹_›,by assumption⟩));intro v hv;cases hv));go_simp;refine hK _ ?_;clear hK K)
   rename_i r1 h1 r2 h2
   refine Qr.walk_nil fun w8 hw8=>?_
   have hkept:=keep hkept hw8
   have W8b:=za W7b hw8
   clear hK
   have hK:=hkept
   simp only[zc,ka,kb,zb,kfa,kga]at hK
   go_wp2_with fail
   exact bodyPost_ret (v:=RgV r1 r2) (by simp[results,Tryz.results135,go_sem,hK,zf,zh];first|done|exact⟨rfl,rfl⟩) rfl ⟨_,_,rfl,by rw[h1,h2];simp only[za5,zdi,Bool.and_self,if_true];rw[← e1,← e2,← e3],y4 W8b (by omega) ..⟩
set_option maxRecDepth 100000 in
theorem zr9 {b o bv ov cap r0 r1 r2 x0 x1 y0 y1 z0 z1:Nat} {w:World} (hN:zc [(⟨b,o,none⟩,.int .i64 1),(⟨b,o+3,none⟩,.slice (some ⟨bv,ov,none⟩) 3 cap),(⟨bv,ov,none⟩,F1 r0),(⟨bv,ov+1,none⟩,F1 r1),(⟨bv,ov+2,none⟩,F1 r2)] [] w) :
  Calls Tryz.prog 135 #[.pointer (some ⟨b,o,none⟩),Rg3 x0 x1 y0 y1 z0 z1] w (x6 (za5 (x9 (cn .f32 x0,cn .f32 x1) && x9 (cn .f32 y0,cn .f32 y1) && x9 (cn .f32 z0,cn .f32 z1)) (zdi (fun x y z=>zce x y z (cn .f32 r0) (cn .f32 r1) (cn .f32 r2)) (cn .f32 x0,cn .f32 x1) (cn .f32 y0,cn .f32 y1) (cn .f32 z0,cn .f32 z1))) w):=by
 have hX:=jf x0 x1
 have hY:=jf y0 y1
 have hZ:=jf z0 z1
 generalize x9 (cn .f32 x0,cn .f32 x1)=FX at *
 generalize x9 (cn .f32 y0,cn .f32 y1)=FY at *
 generalize x9 (cn .f32 z0,cn .f32 z1)=FZ at *
 have hK:=hN
 simp only[zc,ka,kb,zb,kfa,kga]at hK
 have hb:b<w.heap.size:=zg (a:=⟨b,o,none⟩) (by rw[hK.1];rfl)
 go_enter Tryz.func135,Tryz.ntmps135
 go_upto_region 1 with fail
 clear hK
 generalize hW:(w.alloc (.cells #[F1 x0,F1 x1,F1 y0,F1 y1,F1 z0,F1 z1] 197)).alloc (.cells #[F1 0,F1 0] 118)=W1 at *
 have W1b:Below w.heap.size w W1:=by subst hW;exact xa ..
 have hkept:=yt false true hW;simp only[zr,zq,zo,zv,Nat.reduceAdd]at hkept;clear hW
 have hkept:=ze (keep hN W1b) hkept
 clear hN
 have hK:=hkept;simp only[zc,ka,kb,zb,kfa,kga]at hK
 have hb1:b<W1.heap.size:=Nat.lt_of_lt_of_le hb W1b.size
 go_upto_region 2 with fail
 have hbA:Below W1.heap.size W1 (W1.alloc (.cells #[.slice (some ⟨bv,ov,none⟩) 3 cap] 140)):=zt ..
 have hkept:=ze (keep hkept hbA) (show zc [(⟨W1.heap.size,0,none⟩,.slice (some ⟨bv,ov,none⟩) 3 cap)] [] (W1.alloc (.cells #[.slice (some ⟨bv,ov,none⟩) 3 cap] 140)) by simp only[zc,ka,kb,zb,kfa,kga];simp)
 have W2b:=za W1b hbA
 generalize W1.alloc (.cells #[.slice (some ⟨bv,ov,none⟩) 3 cap] 140)=W2 at *
 clear hK hbA
 have hK:=hkept;simp only[zc,ka,kb,zb,kfa,kga]at hK
 go_upto_region 3 with fail
 go_loopw [18] (fun i wr=>∃ m:Nat,i=.int .i64 (m:Int)∧(m=0∨(m=1∧FX=true)∨(m=2∧FX=true∧FY=true)∨(m=3∧FX=true∧FY=true∧FZ=true))∧Below W2.heap.size W2 wr) (fun i _=>3-(intOf i).toNat)
 case atStart=>exact⟨0,rfl,.inl rfl,zi _ _⟩
 case round =>
  obtain⟨m,rfl,hm,hwr⟩:=hrel
  have hkept:=keep hkept hwr
  clear hK
  have hK:=hkept;simp only[zc,ka,kb,zb,kfa,kga]at hK
  have W3b:=za W2b hwr
  rcases hm with rfl|⟨rfl,rfl⟩|⟨rfl,rfl,rfl⟩|⟨rfl,rfl,rfl,rfl⟩
  ·cases FX
   ·go_upto_region 4 with fail
    refine wp_region_lit ?_
    refine Fl.wp_op rfl (RgV x0 x1) wr (by kernel_rfl) ?_
    go_simp
    go_wp2_with (first|(go_at_call 204;refine (yf [x0,x1] (some ⟨_,0,none⟩) _ 0 2 _ (fun _=>rfl) ?_ (by simp)).mono ?_;(focus (intro i hi;have h3:i=0∨i=1:=(by simp at hi;omega);rcases h3 with rfl|rfl<;>simp));rintro _ w8⟨rfl,hb1⟩;have hbx:=za ((hwr.alloc hwr.size _).alloc (Nat.le_trans hwr.size (by simp)) _) hb1;have hkept:=zn (keep (keep hkept (zt ..)) (zt ..)) hb1 rfl;replace hK:=hkept;simp only[zc,ka,kb,zb,kfa,kga]at hK;rw[hX])|(go_at_call 138;refine (z8 _).mono ?_;rintro _ w9⟨l1,u1,rfl,e1,hb1⟩;have hbx:=za hbx hb1;have hkept:=zn hkept hb1 rfl;replace hK:=hkept;simp only[zc,ka,kb,zb,kfa,kga]at hK))
    exact bodyPost_ret (v:=RgV l1 u1) (by simp[results,Tryz.results135,go_sem,hK,zf,zh];first|done|exact⟨rfl,rfl⟩) rfl ⟨_,_,rfl,by rw[e1];simp only[Bool.false_and,Bool.and_false,Bool.true_and];rfl,y4 (za W2b hbx) (by omega) ..⟩
   ·go_upto_region 4 with fail
    refine wp_region_lit ?_
    refine Fl.wp_op rfl (RgV x0 x1) wr (by kernel_rfl) ?_
    go_simp
    go_wp2_with (first|(go_at_call 204;refine (yf [x0,x1] (some ⟨_,0,none⟩) _ 0 2 _ (fun _=>rfl) ?_ (by simp)).mono ?_;(focus (intro i hi;have h3:i=0∨i=1:=(by simp at hi;omega);rcases h3 with rfl|rfl<;>simp));rintro _ w8⟨rfl,hb1⟩;have hbx:=za ((hwr.alloc hwr.size _).alloc (Nat.le_trans hwr.size (by simp)) _) hb1;have hkept:=zn (keep (keep hkept (zt ..)) (zt ..)) hb1 rfl;replace hK:=hkept;simp only[zc,ka,kb,zb,kfa,kga]at hK;rw[hX])|(go_at_call 138;refine (z8 _).mono ?_;rintro _ w9⟨l1,u1,rfl,e1,hb1⟩;have hbx:=za hbx hb1;have hkept:=zn hkept hb1 rfl;replace hK:=hkept;simp only[zc,ka,kb,zb,kfa,kga]at hK))
    exact⟨⟨1,rfl,by simp,hbx⟩,by simp[intOf]⟩
  ·cases FY
   ·go_upto_region 4 with fail
    refine wp_region_lit ?_
    refine Fl.wp_op rfl (RgV y0 y1) wr (by kernel_rfl) ?_
    go_simp
    go_wp2_with (first|(go_at_call 204;refine (yf [y0,y1] (some ⟨_,0,none⟩) _ 0 2 _ (fun _=>rfl) ?_ (by simp)).mono ?_;(focus (intro i hi;have h3:i=0∨i=1:=(by simp at hi;omega);rcases h3 with rfl|rfl<;>simp));rintro _ w8⟨rfl,hb1⟩;have hbx:=za ((hwr.alloc hwr.size _).alloc (Nat.le_trans hwr.size (by simp)) _) hb1;have hkept:=zn (keep (keep hkept (zt ..)) (zt ..)) hb1 rfl;replace hK:=hkept;simp only[zc,ka,kb,zb,kfa,kga]at hK;rw[hY])|(go_at_call 138;refine (z8 _).mono ?_;rintro _ w9⟨l1,u1,rfl,e1,hb1⟩;have hbx:=za hbx hb1;have hkept:=zn hkept hb1 rfl;replace hK:=hkept;simp only[zc,ka,kb,zb,kfa,kga]at hK))
    exact bodyPost_ret (v:=RgV l1 u1) (by simp[results,Tryz.results135,go_sem,hK,zf,zh];first|done|exact⟨rfl,rfl⟩) rfl ⟨_,_,rfl,by rw[e1];simp only[Bool.false_and,Bool.and_false,Bool.true_and];rfl,y4 (za W2b hbx) (by omega) ..⟩
   ·go_upto_region 4 with fail
    refine wp_region_lit ?_
    refine Fl.wp_op rfl (RgV y0 y1) wr (by kernel_rfl) ?_
    go_simp
    go_wp2_with (first|(go_at_call 204;refine (yf [y0,y1] (some ⟨_,0,none⟩) _ 0 2 _ (fun _=>rfl) ?_ (by simp)).mono ?_;(focus (intro i hi;have h3:i=0∨i=1:=(by simp at hi;omega);rcases h3 with rfl|rfl<;>simp));rintro _ w8⟨rfl,hb1⟩;have hbx:=za ((hwr.alloc hwr.size _).alloc (Nat.le_trans hwr.size (by simp)) _) hb1;have hkept:=zn (keep (keep hkept (zt ..)) (zt ..)) hb1 rfl;replace hK:=hkept;simp only[zc,ka,kb,zb,kfa,kga]at hK;rw[hY])|(go_at_call 138;refine (z8 _).mono ?_;rintro _ w9⟨l1,u1,rfl,e1,hb1⟩;have hbx:=za hbx hb1;have hkept:=zn hkept hb1 rfl;replace hK:=hkept;simp only[zc,ka,kb,zb,kfa,kga]at hK))
    exact⟨⟨2,rfl,by simp,hbx⟩,by simp[intOf]⟩
  ·cases FZ
   ·go_upto_region 4 with fail
    refine wp_region_lit ?_
    refine Fl.wp_op rfl (RgV z0 z1) wr (by kernel_rfl) ?_
    go_simp
    go_wp2_with (first|(go_at_call 204;refine (yf [z0,z1] (some ⟨_,0,none⟩) _ 0 2 _ (fun _=>rfl) ?_ (by simp)).mono ?_;(focus (intro i hi;have h3:i=0∨i=1:=(by simp at hi;omega);rcases h3 with rfl|rfl<;>simp));rintro _ w8⟨rfl,hb1⟩;have hbx:=za ((hwr.alloc hwr.size _).alloc (Nat.le_trans hwr.size (by simp)) _) hb1;have hkept:=zn (keep (keep hkept (zt ..)) (zt ..)) hb1 rfl;replace hK:=hkept;simp only[zc,ka,kb,zb,kfa,kga]at hK;rw[hZ])|(go_at_call 138;refine (z8 _).mono ?_;rintro _ w9⟨l1,u1,rfl,e1,hb1⟩;have hbx:=za hbx hb1;have hkept:=zn hkept hb1 rfl;replace hK:=hkept;simp only[zc,ka,kb,zb,kfa,kga]at hK))
    exact bodyPost_ret (v:=RgV l1 u1) (by simp[results,Tryz.results135,go_sem,hK,zf,zh];first|done|exact⟨rfl,rfl⟩) rfl ⟨_,_,rfl,by rw[e1];simp only[Bool.false_and,Bool.and_false,Bool.true_and];rfl,y4 (za W2b hbx) (by omega) ..⟩
   ·go_upto_region 4 with fail
    refine wp_region_lit ?_
    refine Fl.wp_op rfl (RgV z0 z1) wr (by kernel_rfl) ?_
    go_simp
    go_wp2_with (first|(go_at_call 204;refine (yf [z0,z1] (some ⟨_,0,none⟩) _ 0 2 _ (fun _=>rfl) ?_ (by simp)).mono ?_;(focus (intro i hi;have h3:i=0∨i=1:=(by simp at hi;omega);rcases h3 with rfl|rfl<;>simp));rintro _ w8⟨rfl,hb1⟩;have hbx:=za ((hwr.alloc hwr.size _).alloc (Nat.le_trans hwr.size (by simp)) _) hb1;have hkept:=zn (keep (keep hkept (zt ..)) (zt ..)) hb1 rfl;replace hK:=hkept;simp only[zc,ka,kb,zb,kfa,kga]at hK;rw[hZ])|(go_at_call 138;refine (z8 _).mono ?_;rintro _ w9⟨l1,u1,rfl,e1,hb1⟩;have hbx:=za hbx hb1;have hkept:=zn hkept hb1 rfl;replace hK:=hkept;simp only[zc,ka,kb,zb,kfa,kga]at hK))
    exact⟨⟨3,rfl,by simp,hbx⟩,by simp[intOf]⟩
  ·clear hX hY hZ
   go_upto_region 11 with fail
   refine Qg.wp_gd 12 (by kernel_rfl) (by kernel_rfl) PhiRg (GdL [] wr [] [(8,#[F1 0,F1 0],118),(9,#[F1 0,F1 0],118),(10,#[F1 0,F1 0],118)] 1000 (fun _=>True)) [8,9,10] (qk ..) (ki (by intro d hd;simp at hd;rcases hd with rfl|rfl|rfl|rfl<;>rfl) rfl) ?_
   intro hC0
   repeat (first|(refine Qg.walk_step fun K hK=>?_;apply Qg.one_det hC0 (by intro d hd;cases hd;decide) rfl;(focus (intro w' hw';have HK:=keep hkept hw';simp only[zc,ka,kb,zb,kfa,kga]at HK;go_simp;first|done|rfl));(focus (intro w' hw' hs;exact jy (by decide) (by decide) (by decide)));go_simp;refine hK _ ?_;clear hK K)|(refine Qg.walk_step fun K hK=>?_;refine Qg.one_new (.cells #[F1 0,F1 0] 118) hC0 rfl ?_ ?_ ?_ ?_;(focus (intro w' hw';go_simp;first|done|rfl));(focus (intro w' hw';exact hw'.alloc hw'.size _));(focus (intro w' hw';exact zc1 (by decide) (by simp) (by decide) hw'));intro _;go_simp;refine hK _ ?_;clear hK K)|(refine Qg.walk_step fun K hK=>?_;apply Qg.one_call _ _ hC0 (by intro d hd;cases hd;decide) rfl;(focus (intro w' hw';go_simp;first|done|exact⟨rfl,rfl⟩));(focus (exact⟨_,PhiRg.sizer _ _ _ _ (zqd _ _)⟩));(focus (intro w' hw' hs;go_at_call 215;refine (xq _ _ _).mono ?_;rintro _ wA⟨l1,u1,rfl,e1,hb1⟩;exact⟨_,rfl,PhiRg.sizer _ _ _ _ e1,jy (by decide) (by decide) (by decide),za hw' hb1,hb1⟩));intro v hv;cases hv;go_simp;refine hK _ ?_;clear hK K))
   rename_i l1 u1 e1 l2 u2 e2 l3 u3 e3 ga gb gc
   refine Qg.walk_nil fun w6 hw6 hE=>?_
   obtain⟨g,ee,hga,hca⟩:=(hE.1 8).2.1 (8,#[F1 0,F1 0],118) (by simp) rfl _ rfl
   injection ee with ee;injection ee with ee;subst ee
   obtain⟨g,ee,hgb,hcb⟩:=(hE.1 9).2.1 (9,#[F1 0,F1 0],118) (by simp) rfl _ rfl
   injection ee with ee;injection ee with ee;subst ee
   obtain⟨g,ee,hgc,hcc⟩:=(hE.1 10).2.1 (10,#[F1 0,F1 0],118) (by simp) rfl _ rfl
   injection ee with ee;injection ee with ee;subst ee
   have n1:ga ≠ gb:=fun h=>hE.2.2 8 (by simp) 9 (by simp) (by decide) ga rfl (by rw[h];rfl)
   have n2:ga ≠ gc:=fun h=>hE.2.2 8 (by simp) 10 (by simp) (by decide) ga rfl (by rw[h];rfl)
   have n3:gb ≠ gc:=fun h=>hE.2.2 9 (by simp) 10 (by simp) (by decide) gb rfl (by rw[h];rfl)
   clear hE hC0
   obtain⟨hset,hbw⟩:=zve hca hcb hcc n1 n2 n3 hga hgb hgc (F1 l1) (F1 u1) (F1 l2) (F1 u2) (F1 l3) (F1 u3)
   have hbw:=hw6.trans hbw
   obtain⟨pa0,pa1,fa0,fa1⟩:=xc hca
   obtain⟨pb0,pb1,fb0,fb1⟩:=xc hcb
   obtain⟨pc0,pc1,fc0,fc1⟩:=xc hcc
   clear hca hcb hcc
   go_upto_region 12 with fail
   clear pa0 pa1 fa0 fa1 pb0 pb1 fb0 fb1 pc0 pc1 fc0 fc1
   have hkept:=ze (keep hkept hbw) hset
   have W7b:=za W3b hbw
   clear hset hK hw6
   generalize ((((((w6.setCell ⟨ga,0,none⟩ (F1 l1)).setCell ⟨ga,1,none⟩ (F1 u1)).setCell ⟨gb,0,none⟩ (F1 l2)).setCell ⟨gb,1,none⟩ (F1 u2)).setCell ⟨gc,0,none⟩ (F1 l3)).setCell ⟨gc,1,none⟩ (F1 u3))=w7 at *
   have hK:=hkept;simp only[zc,ka,kb,zb,kfa,kga]at hK
   refine Qr.wp_below 19 (by kernel_rfl) (by kernel_rfl) (PhiLf b o (fun x y z=>zce x y z (cn .f32 r0) (cn .f32 r1) (cn .f32 r2))) ?_
   repeat (refine Qr.walk_plain rfl fun K hK=>?_;(first|(apply Qr.one_det;(focus (intro w' hw';have HK:=keep hkept hw';simp only[zc,ka,kb,zb,kfa,kga]at HK;go_simp;first|done|rfl)))|(apply Qr.one_call;(focus (intro w' hw';go_simp;first|done|exact⟨rfl,rfl⟩));(focus (intro w' hw';have HK2:=keep hkept hw';simp only[zc,ka,kb,zb,kfa,kga]at HK2;go_at_call 217;refine (zlu b o bv ov cap r0 r1 r2 _ _ _ _ (by simp only[HK2]) (by simp only[HK2]) (by simp only[HK2]) (by simp only[HK2]) (by simp only[HK2])).mono ?_;rintro _ w2⟨r1,rfl,hr1,hb1⟩;exact⟨_,rfl,.leaf _ _ _ _ hr1,za hw' ‹_›,by assumption⟩));intro v hv;cases hv));go_simp;refine hK _ ?_;clear hK K)
   rename_i q1 h1 q2 h2
   refine Qr.walk_nil fun w8 hw8=>?_
   have hkept:=keep hkept hw8
   have W8b:=za W7b hw8
   clear hK
   have hK:=hkept
   simp only[zc,ka,kb,zb,kfa,kga]at hK
   go_wp2_with fail
   exact bodyPost_ret (v:=RgV q1 q2) (by simp[results,Tryz.results135,go_sem,hK,zf,zh];first|done|exact⟨rfl,rfl⟩) rfl ⟨_,_,rfl,by rw[h1,h2];simp only[za5,zdi,Bool.and_self,if_true];rw[← e1,← e2,← e3],y4 W8b (by omega) ..⟩
set_option maxRecDepth 100000 in
theorem zkn {b o bv ov cap r0 c p x0 x1 y0 y1 z0 z1:Nat} {w:World} (hN:zc [(⟨b,o,none⟩,.int .i64 0),(⟨b,o+3,none⟩,.slice (some ⟨bv,ov,none⟩) 1 cap),(⟨bv,ov,none⟩,F1 r0),(⟨c,p,none⟩,F1 x0),(⟨c,p+1,none⟩,F1 x1),(⟨c,p+2,none⟩,F1 y0),(⟨c,p+3,none⟩,F1 y1),(⟨c,p+4,none⟩,F1 z0),(⟨c,p+5,none⟩,F1 z1)] [] w) :
  Calls Tryz.prog 123 #[.pointer (some ⟨b,o,none⟩),.pointer (some ⟨c,p,none⟩)] w (x6 (zdi (fun x y z=>zdg x y z (cn .f32 r0)) (cn .f32 x0,cn .f32 x1) (cn .f32 y0,cn .f32 y1) (cn .f32 z0,cn .f32 z1)) w):=by
 have hK:=hN
 simp only[zc,ka,kb,zb,kfa,kga]at hK
 have hb:b<w.heap.size:=zg (a:=⟨b,o,none⟩) (by rw[hK.1];rfl)
 go_enter Tryz.func123,Tryz.ntmps123
 go_upto_region 1 with fail
 clear hK
 generalize hW:w.alloc (.cells #[F1 0,F1 0] 118)=W1 at *
 have W1b:Below w.heap.size w W1:=by subst hW;exact zt ..
 have hkept:=jg true hW;simp only[zr,zq,zo,zv,Nat.reduceAdd]at hkept;clear hW
 have hkept:=ze (keep hN W1b) hkept
 clear hN
 have hK:=hkept;simp only[zc,ka,kb,zb,kfa,kga]at hK
 have hb1:b<W1.heap.size:=Nat.lt_of_lt_of_le hb W1b.size
 go_upto_region 5 with (go_at_call 194;refine (yu _ _ _).mono ?_;rintro _ wA⟨l1,u1,rfl,e1,hb2⟩;have hb1:=hb2;have hkept:=zn hkept hb1 rfl;replace hK:=hkept;simp only[zc,ka,kb,zb,kfa,kga]at hK)
 have hbA:Below wA.heap.size wA (wA.alloc (.cells #[F1 l1,F1 u1] 118)):=zt ..
 have hkept:=ze (keep hkept hbA) (show zc [(⟨wA.heap.size,0,none⟩,F1 l1),(⟨wA.heap.size,1,none⟩,F1 u1)] [] (wA.alloc (.cells #[F1 l1,F1 u1] 118)) by simp only[zc,ka,kb,zb,kfa,kga];simp)
 have V1b:=za (za W1b hb2) hbA
 generalize wA.alloc (.cells #[F1 l1,F1 u1] 118)=V1 at *
 clear hK hb2 hbA
 have hK:=hkept;simp only[zc,ka,kb,zb,kfa,kga]at hK
 go_upto_region 6 with (go_at_call 194;refine (yu _ _ _).mono ?_;rintro _ wA⟨l2,u2,rfl,e2,hb2⟩;have hb1:=hb2;have hkept:=zn hkept hb1 rfl;replace hK:=hkept;simp only[zc,ka,kb,zb,kfa,kga]at hK)
 have hbA:Below wA.heap.size wA (wA.alloc (.cells #[F1 l2,F1 u2] 118)):=zt ..
 have hkept:=ze (keep hkept hbA) (show zc [(⟨wA.heap.size,0,none⟩,F1 l2),(⟨wA.heap.size,1,none⟩,F1 u2)] [] (wA.alloc (.cells #[F1 l2,F1 u2] 118)) by simp only[zc,ka,kb,zb,kfa,kga];simp)
 have V2b:=za (za V1b hb2) hbA
 generalize wA.alloc (.cells #[F1 l2,F1 u2] 118)=V2 at *
 clear hK hb2 hbA
 have hK:=hkept;simp only[zc,ka,kb,zb,kfa,kga]at hK
 go_upto_region 7 with (go_at_call 194;refine (yu _ _ _).mono ?_;rintro _ wA⟨l3,u3,rfl,e3,hb2⟩;have hb1:=hb2;have hkept:=zn hkept hb1 rfl;replace hK:=hkept;simp only[zc,ka,kb,zb,kfa,kga]at hK)
 have hbA:Below wA.heap.size wA (wA.alloc (.cells #[F1 l3,F1 u3] 118)):=zt ..
 have hkept:=ze (keep hkept hbA) (show zc [(⟨wA.heap.size,0,none⟩,F1 l3),(⟨wA.heap.size,1,none⟩,F1 u3)] [] (wA.alloc (.cells #[F1 l3,F1 u3] 118)) by simp only[zc,ka,kb,zb,kfa,kga];simp)
 have V3b:=za (za V2b hb2) hbA
 generalize wA.alloc (.cells #[F1 l3,F1 u3] 118)=V3 at *
 clear hK hb2 hbA
 have hK:=hkept;simp only[zc,ka,kb,zb,kfa,kga]at hK
 go_upto_region 8 with (go_at_call 196;refine (zcm b o bv ov cap r0 _ _ _ _ (by simp only[hK]) (by simp only[hK]) (by simp only[hK])).mono ?_;rintro _ wB⟨q1,rfl,h1,hb1⟩;have V4b:=za V3b hb1;have hkept:=zn hkept hb1 rfl;replace hK:=hkept;simp only[zc,ka,kb,zb,kfa,kga]at hK)
 go_wp2_with (go_at_call 196;refine (zcm b o bv ov cap r0 _ _ _ _ (by simp only[hK]) (by simp only[hK]) (by simp only[hK])).mono ?_;rintro _ wB⟨q2,rfl,h2,hb1⟩;have V5b:=za V4b hb1;have hkept:=zn hkept hb1 rfl;replace hK:=hkept;simp only[zc,ka,kb,zb,kfa,kga]at hK)
 exact bodyPost_ret (v:=RgV q1 q2) (by simp[results,Tryz.results123,go_sem,hK,zf,zh];first|done|exact⟨rfl,rfl⟩) rfl ⟨_,_,rfl,by rw[h1,h2];simp only[zdi];rw[← e1,← e2,← e3],y4 V5b (by omega) ..⟩

set_option maxRecDepth 100000 in
theorem zmz {b o bv ov cap r0 r1 r2 c p x0 x1 y0 y1 z0 z1:Nat} {w:World} (hN:zc [(⟨b,o,none⟩,.int .i64 1),(⟨b,o+3,none⟩,.slice (some ⟨bv,ov,none⟩) 3 cap),(⟨bv,ov,none⟩,F1 r0),(⟨bv,ov+1,none⟩,F1 r1),(⟨bv,ov+2,none⟩,F1 r2),(⟨c,p,none⟩,F1 x0),(⟨c,p+1,none⟩,F1 x1),(⟨c,p+2,none⟩,F1 y0),(⟨c,p+3,none⟩,F1 y1),(⟨c,p+4,none⟩,F1 z0),(⟨c,p+5,none⟩,F1 z1)] [] w) :
  Calls Tryz.prog 123 #[.pointer (some ⟨b,o,none⟩),.pointer (some ⟨c,p,none⟩)] w (x6 (zdi (fun x y z=>ja x y z (cn .f32 r0) (cn .f32 r1) (cn .f32 r2)) (cn .f32 x0,cn .f32 x1) (cn .f32 y0,cn .f32 y1) (cn .f32 z0,cn .f32 z1)) w):=by
 have hK:=hN
 simp only[zc,ka,kb,zb,kfa,kga]at hK
 have hb:b<w.heap.size:=zg (a:=⟨b,o,none⟩) (by rw[hK.1];rfl)
 go_enter Tryz.func123,Tryz.ntmps123
 go_upto_region 1 with fail
 clear hK
 generalize hW:w.alloc (.cells #[F1 0,F1 0] 118)=W1 at *
 have W1b:Below w.heap.size w W1:=by subst hW;exact zt ..
 have hkept:=jg true hW;simp only[zr,zq,zo,zv,Nat.reduceAdd]at hkept;clear hW
 have hkept:=ze (keep hN W1b) hkept
 clear hN
 have hK:=hkept;simp only[zc,ka,kb,zb,kfa,kga]at hK
 have hb1:b<W1.heap.size:=Nat.lt_of_lt_of_le hb W1b.size
 go_upto_region 5 with (go_at_call 194;refine (yu _ _ _).mono ?_;rintro _ wA⟨l1,u1,rfl,e1,hb2⟩;have hb1:=hb2;have hkept:=zn hkept hb1 rfl;replace hK:=hkept;simp only[zc,ka,kb,zb,kfa,kga]at hK)
 have hbA:Below wA.heap.size wA (wA.alloc (.cells #[F1 l1,F1 u1] 118)):=zt ..
 have hkept:=ze (keep hkept hbA) (show zc [(⟨wA.heap.size,0,none⟩,F1 l1),(⟨wA.heap.size,1,none⟩,F1 u1)] [] (wA.alloc (.cells #[F1 l1,F1 u1] 118)) by simp only[zc,ka,kb,zb,kfa,kga];simp)
 have V1b:=za (za W1b hb2) hbA
 generalize wA.alloc (.cells #[F1 l1,F1 u1] 118)=V1 at *
 clear hK hb2 hbA
 have hK:=hkept;simp only[zc,ka,kb,zb,kfa,kga]at hK
 go_upto_region 6 with (go_at_call 194;refine (yu _ _ _).mono ?_;rintro _ wA⟨l2,u2,rfl,e2,hb2⟩;have hb1:=hb2;have hkept:=zn hkept hb1 rfl;replace hK:=hkept;simp only[zc,ka,kb,zb,kfa,kga]at hK)
 have hbA:Below wA.heap.size wA (wA.alloc (.cells #[F1 l2,F1 u2] 118)):=zt ..
 have hkept:=ze (keep hkept hbA) (show zc [(⟨wA.heap.size,0,none⟩,F1 l2),(⟨wA.heap.size,1,none⟩,F1 u2)] [] (wA.alloc (.cells #[F1 l2,F1 u2] 118)) by simp only[zc,ka,kb,zb,kfa,kga];simp)
 have V2b:=za (za V1b hb2) hbA
 generalize wA.alloc (.cells #[F1 l2,F1 u2] 118)=V2 at *
 clear hK hb2 hbA
 have hK:=hkept;simp only[zc,ka,kb,zb,kfa,kga]at hK
 go_upto_region 7 with (go_at_call 194;refine (yu _ _ _).mono ?_;rintro _ wA⟨l3,u3,rfl,e3,hb2⟩;have hb1:=hb2;have hkept:=zn hkept hb1 rfl;replace hK:=hkept;simp only[zc,ka,kb,zb,kfa,kga]at hK)
 have hbA:Below wA.heap.size wA (wA.alloc (.cells #[F1 l3,F1 u3] 118)):=zt ..
 have hkept:=ze (keep hkept hbA) (show zc [(⟨wA.heap.size,0,none⟩,F1 l3),(⟨wA.heap.size,1,none⟩,F1 u3)] [] (wA.alloc (.cells #[F1 l3,F1 u3] 118)) by simp only[zc,ka,kb,zb,kfa,kga];simp)
 have V3b:=za (za V2b hb2) hbA
 generalize wA.alloc (.cells #[F1 l3,F1 u3] 118)=V3 at *
 clear hK hb2 hbA
 have hK:=hkept;simp only[zc,ka,kb,zb,kfa,kga]at hK
 go_upto_region 8 with (go_at_call 196;refine (zdk b o bv ov cap r0 r1 r2 _ _ _ _ (by simp only[hK]) (by simp only[hK]) (by simp only[hK]) (by simp only[hK]) (by simp only[hK])).mono ?_;rintro _ wB⟨q1,rfl,h1,hb1⟩;have V4b:=za V3b hb1;have hkept:=zn hkept hb1 rfl;replace hK:=hkept;simp only[zc,ka,kb,zb,kfa,kga]at hK)
 go_wp2_with (go_at_call 196;refine (zdk b o bv ov cap r0 r1 r2 _ _ _ _ (by simp only[hK]) (by simp only[hK]) (by simp only[hK]) (by simp only[hK]) (by simp only[hK])).mono ?_;rintro _ wB⟨q2,rfl,h2,hb1⟩;have V5b:=za V4b hb1;have hkept:=zn hkept hb1 rfl;replace hK:=hkept;simp only[zc,ka,kb,zb,kfa,kga]at hK)
 exact bodyPost_ret (v:=RgV q1 q2) (by simp[results,Tryz.results123,go_sem,hK,zf,zh];first|done|exact⟨rfl,rfl⟩) rfl ⟨_,_,rfl,by rw[h1,h2];simp only[zdi];rw[← e1,← e2,← e3],y4 V5b (by omega) ..⟩

end Go.Proofs.YtbiacfkiakddiaaGreat
