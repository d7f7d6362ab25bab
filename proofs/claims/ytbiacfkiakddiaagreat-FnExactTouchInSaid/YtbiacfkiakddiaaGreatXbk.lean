/-
 Lemmas: V12.
-/
import Derived.Test.YtbiacfkiakddiaaGreatXbh
set_option linter.unusedVariables false
set_option linter.unusedSimpArgs false
set_option maxHeartbeats 2000000
namespace Go.Proofs.YtbiacfkiakddiaaGreat
open Go.RowKit Go.Fl
inductive PhiTb:FuncId→Array Value→Value→Prop
 | long (a b c d e f l h:Nat) (q:(cn .f32 l,cn .f32 h)=zal (cn .f32 a,cn .f32 b) (cn .f32 c,cn .f32 d) (cn .f32 e,cn .f32 f)):PhiTb 220 #[RgV a b,RgV c d,RgV e f] (RgV l h)
 | down (a b v l h:Nat) (e:(cn .f32 l,cn .f32 h)=uf (cn .f32 a,cn .f32 b) (cn .f32 v)):PhiTb 208 #[RgV a b,F1 v] (RgV l h)
 | times (a b v l h:Nat) (e:(cn .f32 l,cn .f32 h)=xw (cn .f32 a,cn .f32 b) (cn .f32 v)):PhiTb 212 #[RgV a b,F1 v] (RgV l h)
 | plus (a b c d l h:Nat) (e:(cn .f32 l,cn .f32 h)=zbn (cn .f32 a,cn .f32 b) (cn .f32 c,cn .f32 d)):PhiTb 213 #[RgV a b,RgV c d] (RgV l h)


set_option maxRecDepth 100000 in
theorem znk {b o bv ov cap r0 r1 r2 r3 x0 x1 y0 y1 z0 z1:Nat} {w:World} (hN:zc [(⟨b,o,none⟩,.int .i64 4),(⟨b,o+3,none⟩,.slice (some ⟨bv,ov,none⟩) 4 cap),(⟨bv,ov,none⟩,F1 r0),(⟨bv,ov+1,none⟩,F1 r1),(⟨bv,ov+2,none⟩,F1 r2),(⟨bv,ov+3,none⟩,F1 r3)] [] w) :
  Calls Tryz.prog 135 #[.pointer (some ⟨b,o,none⟩),Rg3 x0 x1 y0 y1 z0 z1] w (x6 (za5 (x9 (cn .f32 x0,cn .f32 x1) && x9 (cn .f32 y0,cn .f32 y1) && x9 (cn .f32 z0,cn .f32 z1)) (uf (zbn (zbn (xw (cn .f32 x0,cn .f32 x1) (cn .f32 r0)) (xw (cn .f32 y0,cn .f32 y1) (cn .f32 r1))) (xw (cn .f32 z0,cn .f32 z1) (cn .f32 r2))) (cn .f32 r3))) w):=by
 have hX:=jf x0 x1
 have hY:=jf y0 y1
 have hZ:=jf z0 z1
 generalize x9 (cn .f32 x0,cn .f32 x1)=FX at *
 generalize x9 (cn .f32 y0,cn .f32 y1)=FY at *
 generalize x9 (cn .f32 z0,cn .f32 z1)=FZ at *
 have hK:=hN
 simp only[zc,ka,kb,zb,kfa,kga]at hK
 have hb:b<w.heap.size:=zg (a:=⟨b,o,none⟩) (by rw[hK.1];rfl)
 go_enter Tryz.func135,Tryz.ntmps135
 go_upto_region 1 with fail
 clear hK
 generalize hW:(w.alloc (.cells #[F1 x0,F1 x1,F1 y0,F1 y1,F1 z0,F1 z1] 197)).alloc (.cells #[F1 0,F1 0] 118)=W1 at *
 have W1b:Below w.heap.size w W1:=by subst hW;exact xa ..
 have hkept:=yt false true hW;simp only[zr,zq,zo,zv,Nat.reduceAdd]at hkept;clear hW
 have hkept:=ze (keep hN W1b) hkept
 clear hN
 have hK:=hkept;simp only[zc,ka,kb,zb,kfa,kga]at hK
 have hb1:b<W1.heap.size:=Nat.lt_of_lt_of_le hb W1b.size
 go_upto_region 2 with fail
 have hbA:Below W1.heap.size W1 (W1.alloc (.cells #[.slice (some ⟨bv,ov,none⟩) 4 cap] 140)):=zt ..
 have hkept:=ze (keep hkept hbA) (show zc [(⟨W1.heap.size,0,none⟩,.slice (some ⟨bv,ov,none⟩) 4 cap)] [] (W1.alloc (.cells #[.slice (some ⟨bv,ov,none⟩) 4 cap] 140)) by simp only[zc,ka,kb,zb,kfa,kga];simp)
 have W2b:=za W1b hbA
 generalize W1.alloc (.cells #[.slice (some ⟨bv,ov,none⟩) 4 cap] 140)=W2 at *
 clear hK hbA
 have hK:=hkept;simp only[zc,ka,kb,zb,kfa,kga]at hK
 go_upto_region 3 with fail
 go_loopw [18] (fun i wr=>∃ m:Nat,i=.int .i64 (m:Int)∧(m=0∨(m=1∧FX=true)∨(m=2∧FX=true∧FY=true)∨(m=3∧FX=true∧FY=true∧FZ=true))∧Below W2.heap.size W2 wr) (fun i _=>3-(intOf i).toNat)
 case atStart=>exact⟨0,rfl,.inl rfl,zi _ _⟩
 case round =>
  obtain⟨m,rfl,hm,hwr⟩:=hrel
  have hkept:=keep hkept hwr
  clear hK
  have hK:=hkept;simp only[zc,ka,kb,zb,kfa,kga]at hK
  have W3b:=za W2b hwr
  rcases hm with rfl|⟨rfl,rfl⟩|⟨rfl,rfl,rfl⟩|⟨rfl,rfl,rfl,rfl⟩
  ·cases FX
   ·go_upto_region 4 with fail
    refine wp_region_lit ?_
    refine Fl.wp_op rfl (RgV x0 x1) wr (by kernel_rfl) ?_
    go_simp
    go_wp2_with (first|(go_at_call 204;refine (yf [x0,x1] (some ⟨_,0,none⟩) _ 0 2 _ (fun _=>rfl) ?_ (by simp)).mono ?_;(focus (intro i hi;have h3:i=0∨i=1:=(by simp at hi;omega);rcases h3 with rfl|rfl<;>simp));rintro _ w8⟨rfl,hb1⟩;have hbx:=za ((hwr.alloc hwr.size _).alloc (Nat.le_trans hwr.size (by simp)) _) hb1;have hkept:=zn (keep (keep hkept (zt ..)) (zt ..)) hb1 rfl;replace hK:=hkept;simp only[zc,ka,kb,zb,kfa,kga]at hK;rw[hX])|(go_at_call 138;refine (z8 _).mono ?_;rintro _ w9⟨l1,u1,rfl,e1,hb1⟩;have hbx:=za hbx hb1;have hkept:=zn hkept hb1 rfl;replace hK:=hkept;simp only[zc,ka,kb,zb,kfa,kga]at hK))
    exact bodyPost_ret (v:=RgV l1 u1) (by simp[results,Tryz.results135,go_sem,hK,zf,zh];first|done|exact⟨rfl,rfl⟩) rfl ⟨_,_,rfl,by rw[e1];simp only[Bool.false_and,Bool.and_false,Bool.true_and];rfl,y4 (za W2b hbx) (by omega) ..⟩
   ·go_upto_region 4 with fail
    refine wp_region_lit ?_
    refine Fl.wp_op rfl (RgV x0 x1) wr (by kernel_rfl) ?_
    go_simp
    go_wp2_with (first|(go_at_call 204;refine (yf [x0,x1] (some ⟨_,0,none⟩) _ 0 2 _ (fun _=>rfl) ?_ (by simp)).mono ?_;(focus (intro i hi;have h3:i=0∨i=1:=(by simp at hi;omega);rcases h3 with rfl|rfl<;>simp));rintro _ w8⟨rfl,hb1⟩;have hbx:=za ((hwr.alloc hwr.size _).alloc (Nat.le_trans hwr.size (by simp)) _) hb1;have hkept:=zn (keep (keep hkept (zt ..)) (zt ..)) hb1 rfl;replace hK:=hkept;simp only[zc,ka,kb,zb,kfa,kga]at hK;rw[hX])|(go_at_call 138;refine (z8 _).mono ?_;rintro _ w9⟨l1,u1,rfl,e1,hb1⟩;have hbx:=za hbx hb1;have hkept:=zn hkept hb1 rfl;replace hK:=hkept;simp only[zc,ka,kb,zb,kfa,kga]at hK))
    exact⟨⟨1,rfl,by simp,hbx⟩,by simp[intOf]⟩
  ·cases FY
   ·go_upto_region 4 with fail
    refine wp_region_lit ?_
    refine Fl.wp_op rfl (RgV y0 y1) wr (by kernel_rfl) ?_
    go_simp
    go_wp2_with (first|(go_at_call 204;refine (yf [y0,y1] (some ⟨_,0,none⟩) _ 0 2 _ (fun _=>rfl) ?_ (by simp)).mono ?_;(focus (intro i hi;have h3:i=0∨i=1:=(by simp at hi;omega);rcases h3 with rfl|rfl<;>simp));rintro _ w8⟨rfl,hb1⟩;have hbx:=za ((hwr.alloc hwr.size _).alloc (Nat.le_trans hwr.size (by simp)) _) hb1;have hkept:=zn (keep (keep hkept (zt ..)) (zt ..)) hb1 rfl;replace hK:=hkept;simp only[zc,ka,kb,zb,kfa,kga]at hK;rw[hY])|(go_at_call 138;refine (z8 _).mono ?_;rintro _ w9⟨l1,u1,rfl,e1,hb1⟩;have hbx:=za hbx hb1;have hkept:=zn hkept hb1 rfl;replace hK:=hkept;simp only[zc,ka,kb,zb,kfa,kga]at hK))
    exact bodyPost_ret (v:=RgV l1 u1) (by simp[results,Tryz.results135,go_sem,hK,zf,zh];first|done|exact⟨rfl,rfl⟩) rfl ⟨_,_,rfl,by rw[e1];simp only[Bool.false_and,Bool.and_false,Bool.true_and];rfl,y4 (za W2b hbx) (by omega) ..⟩
   ·go_upto_region 4 with fail
    refine wp_region_lit ?_
    refine Fl.wp_op rfl (RgV y0 y1) wr (by kernel_rfl) ?_
    go_simp
    go_wp2_with (first|(go_at_call 204;refine (yf [y0,y1] (some ⟨_,0,none⟩) _ 0 2 _ (fun _=>rfl) ?_ (by simp)).mono ?_;(focus (intro i hi;have h3:i=0∨i=1:=(by simp at hi;omega);rcases h3 with rfl|rfl<;>simp));rintro _ w8⟨rfl,hb1⟩;have hbx:=za ((hwr.alloc hwr.size _).alloc (Nat.le_trans hwr.size (by simp)) _) hb1;have hkept:=zn (keep (keep hkept (zt ..)) (zt ..)) hb1 rfl;replace hK:=hkept;simp only[zc,ka,kb,zb,kfa,kga]at hK;rw[hY])|(go_at_call 138;refine (z8 _).mono ?_;rintro _ w9⟨l1,u1,rfl,e1,hb1⟩;have hbx:=za hbx hb1;have hkept:=zn hkept hb1 rfl;replace hK:=hkept;simp only[zc,ka,kb,zb,kfa,kga]at hK))
    exact⟨⟨2,rfl,by simp,hbx⟩,by simp[intOf]⟩
  ·cases FZ
   ·go_upto_region 4 with fail
    refine wp_region_lit ?_
    refine Fl.wp_op rfl (RgV z0 z1) wr (by kernel_rfl) ?_
    go_simp
    go_wp2_with (first|(go_at_call 204;refine (yf [z0,z1] (some ⟨_,0,none⟩) _ 0 2 _ (fun _=>rfl) ?_ (by simp)).mono ?_;(focus (intro i hi;have h3:i=0∨i=1:=(by simp at hi;omega);rcases h3 with rfl|rfl<;>simp));rintro _ w8⟨rfl,hb1⟩;have hbx:=za ((hwr.alloc hwr.size _).alloc (Nat.le_trans hwr.size (by simp)) _) hb1;have hkept:=zn (keep (keep hkept (zt ..)) (zt ..)) hb1 rfl;replace hK:=hkept;simp only[zc,ka,kb,zb,kfa,kga]at hK;rw[hZ])|(go_at_call 138;refine (z8 _).mono ?_;rintro _ w9⟨l1,u1,rfl,e1,hb1⟩;have hbx:=za hbx hb1;have hkept:=zn hkept hb1 rfl;replace hK:=hkept;simp only[zc,ka,kb,zb,kfa,kga]at hK))
    exact bodyPost_ret (v:=RgV l1 u1) (by simp[results,Tryz.results135,go_sem,hK,zf,zh];first|done|exact⟨rfl,rfl⟩) rfl ⟨_,_,rfl,by rw[e1];simp only[Bool.false_and,Bool.and_false,Bool.true_and];rfl,y4 (za W2b hbx) (by omega) ..⟩
   ·go_upto_region 4 with fail
    refine wp_region_lit ?_
    refine Fl.wp_op rfl (RgV z0 z1) wr (by kernel_rfl) ?_
    go_simp
    go_wp2_with (first|(go_at_call 204;refine (yf [z0,z1] (some ⟨_,0,none⟩) _ 0 2 _ (fun _=>rfl) ?_ (by simp)).mono ?_;(focus (intro i hi;have h3:i=0∨i=1:=(by simp at hi;omega);rcases h3 with rfl|rfl<;>simp));rintro _ w8⟨rfl,hb1⟩;have hbx:=za ((hwr.alloc hwr.size _).alloc (Nat.le_trans hwr.size (by simp)) _) hb1;have hkept:=zn (keep (keep hkept (zt ..)) (zt ..)) hb1 rfl;replace hK:=hkept;simp only[zc,ka,kb,zb,kfa,kga]at hK;rw[hZ])|(go_at_call 138;refine (z8 _).mono ?_;rintro _ w9⟨l1,u1,rfl,e1,hb1⟩;have hbx:=za hbx hb1;have hkept:=zn hkept hb1 rfl;replace hK:=hkept;simp only[zc,ka,kb,zb,kfa,kga]at hK))
    exact⟨⟨3,rfl,by simp,hbx⟩,by simp[intOf]⟩
  ·clear hX hY hZ
   go_upto_region 19 with fail
   refine Qr.wp_below 24 (by kernel_rfl) (by kernel_rfl) PhiTb ?_
   repeat (refine Qr.walk_plain rfl fun K hK=>?_;(first|(refine zk _ _ _ _ _ rfl _ _ _ rfl rfl rfl (fun r hr=>?_))|(apply Qr.one_det;(focus (intro w' hw';have HK:=keep hkept hw';simp only[zc,ka,kb,zb,kfa,kga]at HK;go_simp;first|done|rfl)))|(apply Qr.one_call;(focus (intro w' hw';go_simp;first|done|exact⟨rfl,rfl⟩));(focus (intro w' hw';(first|(go_at_call 220;refine (zc8 _ _ _ _ _ _ _).mono ?_)|(go_at_call 208;refine (ux _ _ _ _).mono ?_)|(go_at_call 212;refine (xm _ _ _ _).mono ?_)|(go_at_call 213;refine (j5 _ _ _ _ _).mono ?_));rintro _ w2⟨l1,u1,rfl,hr1,hb1⟩;exact⟨_,rfl,by constructor<;>assumption,za hw' ‹_›,by assumption⟩));intro v hv;cases hv));go_simp;refine hK _ ?_;clear hK K)
   rename_i l1 u1 h1 l2 u2 h2 l3 u3 h3 l4 u4 h4 l5 u5 h5 q1 q2 h6
   refine Qr.walk_nil fun w8 hw8=>?_
   have hkept:=keep hkept hw8
   have W8b:=za W3b hw8
   clear hK
   have hK:=hkept
   simp only[zc,ka,kb,zb,kfa,kga]at hK
   go_wp2_with fail
   exact bodyPost_ret (v:=RgV q1 q2) (by simp[results,Tryz.results135,go_sem,hK,zf,zh];first|done|exact⟨rfl,rfl⟩) rfl ⟨_,_,rfl,by rw[h6,h5,h4,h3,h2,h1];simp only[za5,Bool.and_self,if_true],y4 W8b (by omega) ..⟩

set_option maxRecDepth 100000 in
theorem zpj {b o bv ov cap r0 r1 x0 x1 y0 y1 z0 z1:Nat} {w:World} (hN:zc [(⟨b,o,none⟩,.int .i64 3),(⟨b,o+3,none⟩,.slice (some ⟨bv,ov,none⟩) 2 cap),(⟨bv,ov,none⟩,F1 r0),(⟨bv,ov+1,none⟩,F1 r1)] [] w) :
  Calls Tryz.prog 135 #[.pointer (some ⟨b,o,none⟩),Rg3 x0 x1 y0 y1 z0 z1] w (x6 (za5 (x9 (cn .f32 x0,cn .f32 x1) && x9 (cn .f32 y0,cn .f32 y1) && x9 (cn .f32 z0,cn .f32 z1)) (uf (zal (uf (zal (cn .f32 x0,cn .f32 x1) (cn .f32 0,cn .f32 0) (cn .f32 z0,cn .f32 z1)) (cn .f32 r0)) (cn .f32 y0,cn .f32 y1) (cn .f32 0,cn .f32 0)) (cn .f32 r1))) w):=by
 have hX:=jf x0 x1
 have hY:=jf y0 y1
 have hZ:=jf z0 z1
 generalize x9 (cn .f32 x0,cn .f32 x1)=FX at *
 generalize x9 (cn .f32 y0,cn .f32 y1)=FY at *
 generalize x9 (cn .f32 z0,cn .f32 z1)=FZ at *
 have hK:=hN
 simp only[zc,ka,kb,zb,kfa,kga]at hK
 have hb:b<w.heap.size:=zg (a:=⟨b,o,none⟩) (by rw[hK.1];rfl)
 go_enter Tryz.func135,Tryz.ntmps135
 go_upto_region 1 with fail
 clear hK
 generalize hW:(w.alloc (.cells #[F1 x0,F1 x1,F1 y0,F1 y1,F1 z0,F1 z1] 197)).alloc (.cells #[F1 0,F1 0] 118)=W1 at *
 have W1b:Below w.heap.size w W1:=by subst hW;exact xa ..
 have hkept:=yt false true hW;simp only[zr,zq,zo,zv,Nat.reduceAdd]at hkept;clear hW
 have hkept:=ze (keep hN W1b) hkept
 clear hN
 have hK:=hkept;simp only[zc,ka,kb,zb,kfa,kga]at hK
 have hb1:b<W1.heap.size:=Nat.lt_of_lt_of_le hb W1b.size
 go_upto_region 2 with fail
 have hbA:Below W1.heap.size W1 (W1.alloc (.cells #[.slice (some ⟨bv,ov,none⟩) 2 cap] 140)):=zt ..
 have hkept:=ze (keep hkept hbA) (show zc [(⟨W1.heap.size,0,none⟩,.slice (some ⟨bv,ov,none⟩) 2 cap)] [] (W1.alloc (.cells #[.slice (some ⟨bv,ov,none⟩) 2 cap] 140)) by simp only[zc,ka,kb,zb,kfa,kga];simp)
 have W2b:=za W1b hbA
 generalize W1.alloc (.cells #[.slice (some ⟨bv,ov,none⟩) 2 cap] 140)=W2 at *
 clear hK hbA
 have hK:=hkept;simp only[zc,ka,kb,zb,kfa,kga]at hK
 go_upto_region 3 with fail
 go_loopw [18] (fun i wr=>∃ m:Nat,i=.int .i64 (m:Int)∧(m=0∨(m=1∧FX=true)∨(m=2∧FX=true∧FY=true)∨(m=3∧FX=true∧FY=true∧FZ=true))∧Below W2.heap.size W2 wr) (fun i _=>3-(intOf i).toNat)
 case atStart=>exact⟨0,rfl,.inl rfl,zi _ _⟩
 case round =>
  obtain⟨m,rfl,hm,hwr⟩:=hrel
  have hkept:=keep hkept hwr
  clear hK
  have hK:=hkept;simp only[zc,ka,kb,zb,kfa,kga]at hK
  have W3b:=za W2b hwr
  rcases hm with rfl|⟨rfl,rfl⟩|⟨rfl,rfl,rfl⟩|⟨rfl,rfl,rfl,rfl⟩
  ·cases FX
   ·go_upto_region 4 with fail
    refine wp_region_lit ?_
    refine Fl.wp_op rfl (RgV x0 x1) wr (by kernel_rfl) ?_
    go_simp
    go_wp2_with (first|(go_at_call 204;refine (yf [x0,x1] (some ⟨_,0,none⟩) _ 0 2 _ (fun _=>rfl) ?_ (by simp)).mono ?_;(focus (intro i hi;have h3:i=0∨i=1:=(by simp at hi;omega);rcases h3 with rfl|rfl<;>simp));rintro _ w8⟨rfl,hb1⟩;have hbx:=za ((hwr.alloc hwr.size _).alloc (Nat.le_trans hwr.size (by simp)) _) hb1;have hkept:=zn (keep (keep hkept (zt ..)) (zt ..)) hb1 rfl;replace hK:=hkept;simp only[zc,ka,kb,zb,kfa,kga]at hK;rw[hX])|(go_at_call 138;refine (z8 _).mono ?_;rintro _ w9⟨l1,u1,rfl,e1,hb1⟩;have hbx:=za hbx hb1;have hkept:=zn hkept hb1 rfl;replace hK:=hkept;simp only[zc,ka,kb,zb,kfa,kga]at hK))
    exact bodyPost_ret (v:=RgV l1 u1) (by simp[results,Tryz.results135,go_sem,hK,zf,zh];first|done|exact⟨rfl,rfl⟩) rfl ⟨_,_,rfl,by rw[e1];simp only[Bool.false_and,Bool.and_false,Bool.true_and];rfl,y4 (za W2b hbx) (by omega) ..⟩
   ·go_upto_region 4 with fail
    refine wp_region_lit ?_
    refine Fl.wp_op rfl (RgV x0 x1) wr (by kernel_rfl) ?_
    go_simp
    go_wp2_with (first|(go_at_call 204;refine (yf [x0,x1] (some ⟨_,0,none⟩) _ 0 2 _ (fun _=>rfl) ?_ (by simp)).mono ?_;(focus (intro i hi;have h3:i=0∨i=1:=(by simp at hi;omega);rcases h3 with rfl|rfl<;>simp));rintro _ w8⟨rfl,hb1⟩;have hbx:=za ((hwr.alloc hwr.size _).alloc (Nat.le_trans hwr.size (by simp)) _) hb1;have hkept:=zn (keep (keep hkept (zt ..)) (zt ..)) hb1 rfl;replace hK:=hkept;simp only[zc,ka,kb,zb,kfa,kga]at hK;rw[hX])|(go_at_call 138;refine (z8 _).mono ?_;rintro _ w9⟨l1,u1,rfl,e1,hb1⟩;have hbx:=za hbx hb1;have hkept:=zn hkept hb1 rfl;replace hK:=hkept;simp only[zc,ka,kb,zb,kfa,kga]at hK))
    exact⟨⟨1,rfl,by simp,hbx⟩,by simp[intOf]⟩
  ·cases FY
   ·go_upto_region 4 with fail
    refine wp_region_lit ?_
    refine Fl.wp_op rfl (RgV y0 y1) wr (by kernel_rfl) ?_
    go_simp
    go_wp2_with (first|(go_at_call 204;refine (yf [y0,y1] (some ⟨_,0,none⟩) _ 0 2 _ (fun _=>rfl) ?_ (by simp)).mono ?_;(focus (intro i hi;have h3:i=0∨i=1:=(by simp at hi;omega);rcases h3 with rfl|rfl<;>simp));rintro _ w8⟨rfl,hb1⟩;have hbx:=za ((hwr.alloc hwr.size _).alloc (Nat.le_trans hwr.size (by simp)) _) hb1;have hkept:=zn (keep (keep hkept (zt ..)) (zt ..)) hb1 rfl;replace hK:=hkept;simp only[zc,ka,kb,zb,kfa,kga]at hK;rw[hY])|(go_at_call 138;refine (z8 _).mono ?_;rintro _ w9⟨l1,u1,rfl,e1,hb1⟩;have hbx:=za hbx hb1;have hkept:=zn hkept hb1 rfl;replace hK:=hkept;simp only[zc,ka,kb,zb,kfa,kga]at hK))
    exact bodyPost_ret (v:=RgV l1 u1) (by simp[results,Tryz.results135,go_sem,hK,zf,zh];first|done|exact⟨rfl,rfl⟩) rfl ⟨_,_,rfl,by rw[e1];simp only[Bool.false_and,Bool.and_false,Bool.true_and];rfl,y4 (za W2b hbx) (by omega) ..⟩
   ·go_upto_region 4 with fail
    refine wp_region_lit ?_
    refine Fl.wp_op rfl (RgV y0 y1) wr (by kernel_rfl) ?_
    go_simp
    go_wp2_with (first|(go_at_call 204;refine (yf [y0,y1] (some ⟨_,0,none⟩) _ 0 2 _ (fun _=>rfl) ?_ (by simp)).mono ?_;(focus (intro i hi;have h3:i=0∨i=1:=(by simp at hi;omega);rcases h3 with rfl|rfl<;>simp));rintro _ w8⟨rfl,hb1⟩;have hbx:=za ((hwr.alloc hwr.size _).alloc (Nat.le_trans hwr.size (by simp)) _) hb1;have hkept:=zn (keep (keep hkept (zt ..)) (zt ..)) hb1 rfl;replace hK:=hkept;simp only[zc,ka,kb,zb,kfa,kga]at hK;rw[hY])|(go_at_call 138;refine (z8 _).mono ?_;rintro _ w9⟨l1,u1,rfl,e1,hb1⟩;have hbx:=za hbx hb1;have hkept:=zn hkept hb1 rfl;replace hK:=hkept;simp only[zc,ka,kb,zb,kfa,kga]at hK))
    exact⟨⟨2,rfl,by simp,hbx⟩,by simp[intOf]⟩
  ·cases FZ
   ·go_upto_region 4 with fail
    refine wp_region_lit ?_
    refine Fl.wp_op rfl (RgV z0 z1) wr (by kernel_rfl) ?_
    go_simp
    go_wp2_with (first|(go_at_call 204;refine (yf [z0,z1] (some ⟨_,0,none⟩) _ 0 2 _ (fun _=>rfl) ?_ (by simp)).mono ?_;(focus (intro i hi;have h3:i=0∨i=1:=(by simp at hi;omega);rcases h3 with rfl|rfl<;>simp));rintro _ w8⟨rfl,hb1⟩;have hbx:=za ((hwr.alloc hwr.size _).alloc (Nat.le_trans hwr.size (by simp)) _) hb1;have hkept:=zn (keep (keep hkept (zt ..)) (zt ..)) hb1 rfl;replace hK:=hkept;simp only[zc,ka,kb,zb,kfa,kga]at hK;rw[hZ])|(go_at_call 138;refine (z8 _).mono ?_;rintro _ w9⟨l1,u1,rfl,e1,hb1⟩;have hbx:=za hbx hb1;have hkept:=zn hkept hb1 rfl;replace hK:=hkept;simp only[zc,ka,kb,zb,kfa,kga]at hK))
    exact bodyPost_ret (v:=RgV l1 u1) (by simp[results,Tryz.results135,go_sem,hK,zf,zh];first|done|exact⟨rfl,rfl⟩) rfl ⟨_,_,rfl,by rw[e1];simp only[Bool.false_and,Bool.and_false,Bool.true_and];rfl,y4 (za W2b hbx) (by omega) ..⟩
   ·go_upto_region 4 with fail
    refine wp_region_lit ?_
    refine Fl.wp_op rfl (RgV z0 z1) wr (by kernel_rfl) ?_
    go_simp
    go_wp2_with (first|(go_at_call 204;refine (yf [z0,z1] (some ⟨_,0,none⟩) _ 0 2 _ (fun _=>rfl) ?_ (by simp)).mono ?_;(focus (intro i hi;have h3:i=0∨i=1:=(by simp at hi;omega);rcases h3 with rfl|rfl<;>simp));rintro _ w8⟨rfl,hb1⟩;have hbx:=za ((hwr.alloc hwr.size _).alloc (Nat.le_trans hwr.size (by simp)) _) hb1;have hkept:=zn (keep (keep hkept (zt ..)) (zt ..)) hb1 rfl;replace hK:=hkept;simp only[zc,ka,kb,zb,kfa,kga]at hK;rw[hZ])|(go_at_call 138;refine (z8 _).mono ?_;rintro _ w9⟨l1,u1,rfl,e1,hb1⟩;have hbx:=za hbx hb1;have hkept:=zn hkept hb1 rfl;replace hK:=hkept;simp only[zc,ka,kb,zb,kfa,kga]at hK))
    exact⟨⟨3,rfl,by simp,hbx⟩,by simp[intOf]⟩
  ·clear hX hY hZ
   go_upto_region 17 with fail
   refine Qr.wp_made 11 10 12 #[F1 0,F1 0] 118 (by kernel_rfl) (by kernel_rfl) PhiTb rfl (by kernel_rfl) ⟨_,rfl,rfl,fun a w=>by go_simp⟩ (by kernel_rfl) ?_
   repeat (first|(refine Qr.walk_plain rfl fun K hK=>?_;refine Qr.one_rel (fun v=>∃ g,v=.pointer (some ⟨g,0,none⟩)) (fun w' hw'=>⟨.pointer (some ⟨w'.heap.size,0,none⟩),_,by go_simp;rfl,⟨_,rfl⟩,hw'.alloc hw'.size _,zt ..⟩) (fun v hv=>?_);obtain⟨g,rfl⟩:=hv;go_simp;refine hK _ ?_;clear hK K)|(refine Qr.walk_plain rfl fun K hK=>?_;(first|(refine zk _ _ _ _ _ rfl _ _ _ rfl rfl rfl (fun r hr=>?_))|(apply Qr.one_det;(focus (intro w' hw';have HK:=keep hkept hw';simp only[zc,ka,kb,zb,kfa,kga]at HK;go_simp;first|done|rfl)))|(apply Qr.one_call;(focus (intro w' hw';go_simp;first|done|exact⟨rfl,rfl⟩));(focus (intro w' hw';(first|(go_at_call 220;refine (zc8 _ _ _ _ _ _ _).mono ?_)|(go_at_call 208;refine (ux _ _ _ _).mono ?_)|(go_at_call 212;refine (xm _ _ _ _).mono ?_)|(go_at_call 213;refine (j5 _ _ _ _ _).mono ?_));rintro _ w2⟨l1,u1,rfl,hr1,hb1⟩;exact⟨_,rfl,by constructor<;>assumption,za hw' ‹_›,by assumption⟩));intro v hv;cases hv));go_simp;refine hK _ ?_;clear hK K))
   rename_i l1 u1 e1 l2 u2 e2
   refine Qr.walk_nil fun w3 hw3 hmade=>?_
   obtain⟨g3,hg3,hgw,hgc⟩:=hmade _ rfl
   injection hg3 with hg3
   injection hg3 with hg3
   subst hg3
   obtain⟨hc0,hc1,hf0,hf1⟩:=xc hgc
   have hset:=zay hgc (F1 l2) (F1 u2)
   have hbw:=hw3.trans (hset.2.mono hgw)
   go_upto_region 18 with fail
   clear hc0 hc1 hf0 hf1 hgc hw3
   generalize (w3.setCell ⟨g,0,none⟩ (F1 l2)).setCell ⟨g,1,none⟩ (F1 u2)=w4 at hset hbw ⊢
   have hkept:=ze (keep hkept hbw) (zdh hset.1)
   have W4b:=za W3b hbw
   clear hset hbw hK
   have hK:=hkept;simp only[zc,ka,kb,zb,kfa,kga]at hK
   refine Qr.wp_below 9 (by kernel_rfl) (by kernel_rfl) PhiTb ?_
   repeat (refine Qr.walk_plain rfl fun K hK=>?_;(first|(refine zk _ _ _ _ _ rfl _ _ _ rfl rfl rfl (fun r hr=>?_))|(apply Qr.one_det;(focus (intro w' hw';have HK:=keep hkept hw';simp only[zc,ka,kb,zb,kfa,kga]at HK;go_simp;first|done|rfl)))|(apply Qr.one_call;(focus (intro w' hw';go_simp;first|done|exact⟨rfl,rfl⟩));(focus (intro w' hw';(first|(go_at_call 220;refine (zc8 _ _ _ _ _ _ _).mono ?_)|(go_at_call 208;refine (ux _ _ _ _).mono ?_)|(go_at_call 212;refine (xm _ _ _ _).mono ?_)|(go_at_call 213;refine (j5 _ _ _ _ _).mono ?_));rintro _ w2⟨l1,u1,rfl,hr1,hb1⟩;exact⟨_,rfl,by constructor<;>assumption,za hw' ‹_›,by assumption⟩));intro v hv;cases hv));go_simp;refine hK _ ?_;clear hK K)
   rename_i l3 u3 e3 q1 q2 e4
   refine Qr.walk_nil fun w8 hw8=>?_
   have hkept:=keep hkept hw8
   have W8b:=za W4b hw8
   clear hK
   have hK:=hkept
   simp only[zc,ka,kb,zb,kfa,kga]at hK
   go_wp2_with fail
   exact bodyPost_ret (v:=RgV q1 q2) (by simp[results,Tryz.results135,go_sem,hK,zf,zh];first|done|exact⟨rfl,rfl⟩) rfl ⟨_,_,rfl,by rw[e4,e3,e2,e1];simp only[za5,Bool.and_self,if_true],y4 W8b (by omega) ..⟩

set_option maxRecDepth 100000 in
theorem zo5 {b o bv ov cap r0 r1 x0 x1 y0 y1 z0 z1:Nat} {w:World} (hN:zc [(⟨b,o,none⟩,.int .i64 2),(⟨b,o+3,none⟩,.slice (some ⟨bv,ov,none⟩) 2 cap),(⟨bv,ov,none⟩,F1 r0),(⟨bv,ov+1,none⟩,F1 r1)] [] w) :
  Calls Tryz.prog 135 #[.pointer (some ⟨b,o,none⟩),Rg3 x0 x1 y0 y1 z0 z1] w (x6 (za5 (x9 (cn .f32 x0,cn .f32 x1) && x9 (cn .f32 y0,cn .f32 y1) && x9 (cn .f32 z0,cn .f32 z1)) (uf (zal (cn .f32 x0,cn .f32 x1) (zb6 (fun y=>zbv y (cn .f32 r0)) (cn .f32 y0,cn .f32 y1)) (cn .f32 z0,cn .f32 z1)) (cn .f32 r1))) w):=by
 have hX:=jf x0 x1
 have hY:=jf y0 y1
 have hZ:=jf z0 z1
 generalize x9 (cn .f32 x0,cn .f32 x1)=FX at *
 generalize x9 (cn .f32 y0,cn .f32 y1)=FY at *
 generalize x9 (cn .f32 z0,cn .f32 z1)=FZ at *
 have hK:=hN
 simp only[zc,ka,kb,zb,kfa,kga]at hK
 have hb:b<w.heap.size:=zg (a:=⟨b,o,none⟩) (by rw[hK.1];rfl)
 go_enter Tryz.func135,Tryz.ntmps135
 go_upto_region 1 with fail
 clear hK
 generalize hW:(w.alloc (.cells #[F1 x0,F1 x1,F1 y0,F1 y1,F1 z0,F1 z1] 197)).alloc (.cells #[F1 0,F1 0] 118)=W1 at *
 have W1b:Below w.heap.size w W1:=by subst hW;exact xa ..
 have hkept:=yt false true hW;simp only[zr,zq,zo,zv,Nat.reduceAdd]at hkept;clear hW
 have hkept:=ze (keep hN W1b) hkept
 clear hN
 have hK:=hkept;simp only[zc,ka,kb,zb,kfa,kga]at hK
 have hb1:b<W1.heap.size:=Nat.lt_of_lt_of_le hb W1b.size
 go_upto_region 2 with fail
 have hbA:Below W1.heap.size W1 (W1.alloc (.cells #[.slice (some ⟨bv,ov,none⟩) 2 cap] 140)):=zt ..
 have hkept:=ze (keep hkept hbA) (show zc [(⟨W1.heap.size,0,none⟩,.slice (some ⟨bv,ov,none⟩) 2 cap)] [] (W1.alloc (.cells #[.slice (some ⟨bv,ov,none⟩) 2 cap] 140)) by simp only[zc,ka,kb,zb,kfa,kga];simp)
 have W2b:=za W1b hbA
 generalize W1.alloc (.cells #[.slice (some ⟨bv,ov,none⟩) 2 cap] 140)=W2 at *
 clear hK hbA
 have hK:=hkept;simp only[zc,ka,kb,zb,kfa,kga]at hK
 go_upto_region 3 with fail
 go_loopw [18] (fun i wr=>∃ m:Nat,i=.int .i64 (m:Int)∧(m=0∨(m=1∧FX=true)∨(m=2∧FX=true∧FY=true)∨(m=3∧FX=true∧FY=true∧FZ=true))∧Below W2.heap.size W2 wr) (fun i _=>3-(intOf i).toNat)
 case atStart=>exact⟨0,rfl,.inl rfl,zi _ _⟩
 case round =>
  obtain⟨m,rfl,hm,hwr⟩:=hrel
  have hkept:=keep hkept hwr
  clear hK
  have hK:=hkept;simp only[zc,ka,kb,zb,kfa,kga]at hK
  have W3b:=za W2b hwr
  rcases hm with rfl|⟨rfl,rfl⟩|⟨rfl,rfl,rfl⟩|⟨rfl,rfl,rfl,rfl⟩
  ·cases FX
   ·go_upto_region 4 with fail
    refine wp_region_lit ?_
    refine Fl.wp_op rfl (RgV x0 x1) wr (by kernel_rfl) ?_
    go_simp
    go_wp2_with (first|(go_at_call 204;refine (yf [x0,x1] (some ⟨_,0,none⟩) _ 0 2 _ (fun _=>rfl) ?_ (by simp)).mono ?_;(focus (intro i hi;have h3:i=0∨i=1:=(by simp at hi;omega);rcases h3 with rfl|rfl<;>simp));rintro _ w8⟨rfl,hb1⟩;have hbx:=za ((hwr.alloc hwr.size _).alloc (Nat.le_trans hwr.size (by simp)) _) hb1;have hkept:=zn (keep (keep hkept (zt ..)) (zt ..)) hb1 rfl;replace hK:=hkept;simp only[zc,ka,kb,zb,kfa,kga]at hK;rw[hX])|(go_at_call 138;refine (z8 _).mono ?_;rintro _ w9⟨l1,u1,rfl,e1,hb1⟩;have hbx:=za hbx hb1;have hkept:=zn hkept hb1 rfl;replace hK:=hkept;simp only[zc,ka,kb,zb,kfa,kga]at hK))
    exact bodyPost_ret (v:=RgV l1 u1) (by simp[results,Tryz.results135,go_sem,hK,zf,zh];first|done|exact⟨rfl,rfl⟩) rfl ⟨_,_,rfl,by rw[e1];simp only[Bool.false_and,Bool.and_false,Bool.true_and];rfl,y4 (za W2b hbx) (by omega) ..⟩
   ·go_upto_region 4 with fail
    refine wp_region_lit ?_
    refine Fl.wp_op rfl (RgV x0 x1) wr (by kernel_rfl) ?_
    go_simp
    go_wp2_with (first|(go_at_call 204;refine (yf [x0,x1] (some ⟨_,0,none⟩) _ 0 2 _ (fun _=>rfl) ?_ (by simp)).mono ?_;(focus (intro i hi;have h3:i=0∨i=1:=(by simp at hi;omega);rcases h3 with rfl|rfl<;>simp));rintro _ w8⟨rfl,hb1⟩;have hbx:=za ((hwr.alloc hwr.size _).alloc (Nat.le_trans hwr.size (by simp)) _) hb1;have hkept:=zn (keep (keep hkept (zt ..)) (zt ..)) hb1 rfl;replace hK:=hkept;simp only[zc,ka,kb,zb,kfa,kga]at hK;rw[hX])|(go_at_call 138;refine (z8 _).mono ?_;rintro _ w9⟨l1,u1,rfl,e1,hb1⟩;have hbx:=za hbx hb1;have hkept:=zn hkept hb1 rfl;replace hK:=hkept;simp only[zc,ka,kb,zb,kfa,kga]at hK))
    exact⟨⟨1,rfl,by simp,hbx⟩,by simp[intOf]⟩
  ·cases FY
   ·go_upto_region 4 with fail
    refine wp_region_lit ?_
    refine Fl.wp_op rfl (RgV y0 y1) wr (by kernel_rfl) ?_
    go_simp
    go_wp2_with (first|(go_at_call 204;refine (yf [y0,y1] (some ⟨_,0,none⟩) _ 0 2 _ (fun _=>rfl) ?_ (by simp)).mono ?_;(focus (intro i hi;have h3:i=0∨i=1:=(by simp at hi;omega);rcases h3 with rfl|rfl<;>simp));rintro _ w8⟨rfl,hb1⟩;have hbx:=za ((hwr.alloc hwr.size _).alloc (Nat.le_trans hwr.size (by simp)) _) hb1;have hkept:=zn (keep (keep hkept (zt ..)) (zt ..)) hb1 rfl;replace hK:=hkept;simp only[zc,ka,kb,zb,kfa,kga]at hK;rw[hY])|(go_at_call 138;refine (z8 _).mono ?_;rintro _ w9⟨l1,u1,rfl,e1,hb1⟩;have hbx:=za hbx hb1;have hkept:=zn hkept hb1 rfl;replace hK:=hkept;simp only[zc,ka,kb,zb,kfa,kga]at hK))
    exact bodyPost_ret (v:=RgV l1 u1) (by simp[results,Tryz.results135,go_sem,hK,zf,zh];first|done|exact⟨rfl,rfl⟩) rfl ⟨_,_,rfl,by rw[e1];simp only[Bool.false_and,Bool.and_false,Bool.true_and];rfl,y4 (za W2b hbx) (by omega) ..⟩
   ·go_upto_region 4 with fail
    refine wp_region_lit ?_
    refine Fl.wp_op rfl (RgV y0 y1) wr (by kernel_rfl) ?_
    go_simp
    go_wp2_with (first|(go_at_call 204;refine (yf [y0,y1] (some ⟨_,0,none⟩) _ 0 2 _ (fun _=>rfl) ?_ (by simp)).mono ?_;(focus (intro i hi;have h3:i=0∨i=1:=(by simp at hi;omega);rcases h3 with rfl|rfl<;>simp));rintro _ w8⟨rfl,hb1⟩;have hbx:=za ((hwr.alloc hwr.size _).alloc (Nat.le_trans hwr.size (by simp)) _) hb1;have hkept:=zn (keep (keep hkept (zt ..)) (zt ..)) hb1 rfl;replace hK:=hkept;simp only[zc,ka,kb,zb,kfa,kga]at hK;rw[hY])|(go_at_call 138;refine (z8 _).mono ?_;rintro _ w9⟨l1,u1,rfl,e1,hb1⟩;have hbx:=za hbx hb1;have hkept:=zn hkept hb1 rfl;replace hK:=hkept;simp only[zc,ka,kb,zb,kfa,kga]at hK))
    exact⟨⟨2,rfl,by simp,hbx⟩,by simp[intOf]⟩
  ·cases FZ
   ·go_upto_region 4 with fail
    refine wp_region_lit ?_
    refine Fl.wp_op rfl (RgV z0 z1) wr (by kernel_rfl) ?_
    go_simp
    go_wp2_with (first|(go_at_call 204;refine (yf [z0,z1] (some ⟨_,0,none⟩) _ 0 2 _ (fun _=>rfl) ?_ (by simp)).mono ?_;(focus (intro i hi;have h3:i=0∨i=1:=(by simp at hi;omega);rcases h3 with rfl|rfl<;>simp));rintro _ w8⟨rfl,hb1⟩;have hbx:=za ((hwr.alloc hwr.size _).alloc (Nat.le_trans hwr.size (by simp)) _) hb1;have hkept:=zn (keep (keep hkept (zt ..)) (zt ..)) hb1 rfl;replace hK:=hkept;simp only[zc,ka,kb,zb,kfa,kga]at hK;rw[hZ])|(go_at_call 138;refine (z8 _).mono ?_;rintro _ w9⟨l1,u1,rfl,e1,hb1⟩;have hbx:=za hbx hb1;have hkept:=zn hkept hb1 rfl;replace hK:=hkept;simp only[zc,ka,kb,zb,kfa,kga]at hK))
    exact bodyPost_ret (v:=RgV l1 u1) (by simp[results,Tryz.results135,go_sem,hK,zf,zh];first|done|exact⟨rfl,rfl⟩) rfl ⟨_,_,rfl,by rw[e1];simp only[Bool.false_and,Bool.and_false,Bool.true_and];rfl,y4 (za W2b hbx) (by omega) ..⟩
   ·go_upto_region 4 with fail
    refine wp_region_lit ?_
    refine Fl.wp_op rfl (RgV z0 z1) wr (by kernel_rfl) ?_
    go_simp
    go_wp2_with (first|(go_at_call 204;refine (yf [z0,z1] (some ⟨_,0,none⟩) _ 0 2 _ (fun _=>rfl) ?_ (by simp)).mono ?_;(focus (intro i hi;have h3:i=0∨i=1:=(by simp at hi;omega);rcases h3 with rfl|rfl<;>simp));rintro _ w8⟨rfl,hb1⟩;have hbx:=za ((hwr.alloc hwr.size _).alloc (Nat.le_trans hwr.size (by simp)) _) hb1;have hkept:=zn (keep (keep hkept (zt ..)) (zt ..)) hb1 rfl;replace hK:=hkept;simp only[zc,ka,kb,zb,kfa,kga]at hK;rw[hZ])|(go_at_call 138;refine (z8 _).mono ?_;rintro _ w9⟨l1,u1,rfl,e1,hb1⟩;have hbx:=za hbx hb1;have hkept:=zn hkept hb1 rfl;replace hK:=hkept;simp only[zc,ka,kb,zb,kfa,kga]at hK))
    exact⟨⟨3,rfl,by simp,hbx⟩,by simp[intOf]⟩
  ·clear hX hY hZ
   go_upto_region 15 with (go_at_call 209;refine (zpu (fun y=>zbv y (cn .f32 r0)) _ _ _ _ (fun x w'' hb=>zty x r0 bv ov 1 cap _ _ w'' ((keep hkept hb).1 (⟨W1.heap.size,0,none⟩,.slice (some ⟨bv,ov,none⟩) 2 cap) (by simp)) ((keep hkept hb).1 (⟨bv,ov,none⟩,F1 r0) (by simp)))).mono ?_;rintro _ wA⟨l1,u1,rfl,e1,hb1⟩;have hkept:=zn hkept hb1 rfl;replace hK:=hkept;simp only[zc,ka,kb,zb,kfa,kga]at hK)
   have hbA:Below wA.heap.size wA (wA.alloc (.cells #[F1 l1,F1 u1] 118)):=zt ..
   have hkept:=ze (keep hkept hbA) (show zc [(⟨wA.heap.size,0,none⟩,F1 l1),(⟨wA.heap.size,1,none⟩,F1 u1)] [] (wA.alloc (.cells #[F1 l1,F1 u1] 118)) by simp only[zc,ka,kb,zb,kfa,kga];simp)
   have W4b:=za (za W3b hb1) hbA
   generalize wA.alloc (.cells #[F1 l1,F1 u1] 118)=w4 at *
   clear hK
   have hK:=hkept;simp only[zc,ka,kb,zb,kfa,kga]at hK
   refine Qr.wp_below 10 (by kernel_rfl) (by kernel_rfl) PhiTb ?_
   repeat (refine Qr.walk_plain rfl fun K hK=>?_;(first|(refine zk _ _ _ _ _ rfl _ _ _ rfl rfl rfl (fun r hr=>?_))|(apply Qr.one_det;(focus (intro w' hw';have HK:=keep hkept hw';simp only[zc,ka,kb,zb,kfa,kga]at HK;go_simp;first|done|rfl)))|(apply Qr.one_call;(focus (intro w' hw';go_simp;first|done|exact⟨rfl,rfl⟩));(focus (intro w' hw';(first|(go_at_call 220;refine (zc8 _ _ _ _ _ _ _).mono ?_)|(go_at_call 208;refine (ux _ _ _ _).mono ?_)|(go_at_call 212;refine (xm _ _ _ _).mono ?_)|(go_at_call 213;refine (j5 _ _ _ _ _).mono ?_));rintro _ w2⟨l1,u1,rfl,hr1,hb1⟩;exact⟨_,rfl,by constructor<;>assumption,za hw' ‹_›,by assumption⟩));intro v hv;cases hv));go_simp;refine hK _ ?_;clear hK K)
   rename_i l3 u3 e3 q1 q2 e4
   refine Qr.walk_nil fun w8 hw8=>?_
   have hkept:=keep hkept hw8
   have W8b:=za W4b hw8
   clear hK
   have hK:=hkept
   simp only[zc,ka,kb,zb,kfa,kga]at hK
   go_wp2_with fail
   exact bodyPost_ret (v:=RgV q1 q2) (by simp[results,Tryz.results135,go_sem,hK,zf,zh];first|done|exact⟨rfl,rfl⟩) rfl ⟨_,_,rfl,by rw[e4,e3,e1];simp only[za5,Bool.and_self,if_true],y4 W8b (by omega) ..⟩

end Go.Proofs.YtbiacfkiakddiaaGreat
