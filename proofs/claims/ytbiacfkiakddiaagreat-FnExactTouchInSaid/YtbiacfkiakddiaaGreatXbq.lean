/-
 Lemmas: V30.
-/
import Derived.Test.YtbiacfkiakddiaaGreatXbl
set_option linter.unusedVariables false
set_option linter.unusedSimpArgs false
set_option maxHeartbeats 2000000
namespace Go.Proofs.YtbiacfkiakddiaaGreat
open Go.RowKit Go.Fl
set_option maxRecDepth 100000 in
theorem zkw {b o bv ov cap r0 x0 x1 y0 y1 z0 z1:Nat} {bp:Option Addr} {w:World} (hN:zc [(⟨b,o,none⟩,.int .i64 12),(⟨b,o+2,none⟩,.int .i64 0),(⟨b,o+3,none⟩,.slice (some ⟨bv,ov,none⟩) 1 cap),(⟨bv,ov,none⟩,F1 r0)] [] w) :
  Calls Tryz.prog 122 #[.pointer (some ⟨b,o,none⟩),Rg3 x0 x1 y0 y1 z0 z1] w (vn ((cn .f32 x0,cn .f32 x1),zb3 (cn .f32 r0) (cn .f32 y0,cn .f32 y1) (cn .f32 z0,cn .f32 z1),zdd (cn .f32 r0) (cn .f32 y0,cn .f32 y1) (cn .f32 z0,cn .f32 z1)) w):=by
 have hK:=hN
 simp only[zc,ka,kb,zb,kfa,kga]at hK
 have hb:b<w.heap.size:=zg (a:=⟨b,o,none⟩) (by first|(rw[hK.1];rfl)|(rw[hK];rfl))
 go_enter Tryz.func122,Tryz.ntmps122
 go_upto_region 1 with fail
 clear hK
 generalize hW:(w.alloc (.cells #[F1 x0,F1 x1,F1 y0,F1 y1,F1 z0,F1 z1] 180)).alloc (.cells #[F1 0,F1 0,F1 0,F1 0,F1 0,F1 0] 180)=W1 at *
 have W1b:Below w.heap.size w W1:=by subst hW;exact xa ..
 have hkept:=yt true true hW;simp only[zr,zq,zo,zv,Nat.reduceAdd]at hkept;clear hW
 have hkept:=ze (keep hN W1b) hkept
 have hK:=hkept;simp only[zc,ka,kb,zb,kfa,kga]at hK
 have hb1:b<W1.heap.size:=Nat.lt_of_lt_of_le hb W1b.size
 go_upto_region 19 with (first|(refine z6 rfl _ _ _ _ _ rfl _ _ _ rfl rfl rfl ?_;intro r n hr)|(go_at_call 189;refine (q7 _ _).mono ?_;rintro _ w2⟨r1,rfl,hr1,hb1⟩;have W1b:=za (by first|exact W1b|exact zd W1b _) hb1;have hkept:=zn hkept hb1 rfl;replace hK:=hkept;simp only[zc,ka,kb,zb,kfa,kga]at hK))
 have hsa:=‹cn .f32 _=jr (cn .f32 r)›
 revert r1;intro sb hsb
 go_upto_region 20 with (go_at_call 190;refine (zdy (x0:=y0) (x1:=y1) (by simp only[zc,ka,kb,zb,kfa,kga];simp[hK])).mono ?_;rintro _ w3⟨rfl,hb1⟩;have W3b:=za W1b hb1;have hkept:=zn hkept hb1 rfl;replace hK:=hkept;simp only[zc,ka,kb,zb,kfa,kga]at hK)
 have hbA:Below w3.heap.size w3 (w3.alloc (.cells #[F1 y0,F1 y1] 118)):=zt ..
 have hltgi:w.heap.size<w3.heap.size:=zg (a:=⟨w.heap.size,0,none⟩) (by simp[hK])
 have hkept:=ze (keep hkept hbA) (show zc [(⟨w3.heap.size,0,none⟩,F1 y0),(⟨w3.heap.size,1,none⟩,F1 y1)] [] (w3.alloc (.cells #[F1 y0,F1 y1] 118)) by simp only[zc,ka,kb,zb,kfa,kga];simp)
 have W4b:=za W3b hbA
 clear hK hbA
 generalize w3.alloc (.cells #[F1 y0,F1 y1] 118)=W4 at *
 obtain⟨gi,hgi,hlggi⟩:∃ gi,gi=w3.heap.size∧w.heap.size<gi:=⟨_,rfl,hltgi⟩
 rw[← hgi]at hkept ⊢
 clear hgi hb1 hltgi
 have hgin:gi ≠ w.heap.size:=by omega
 have hgim:w.heap.size ≠ gi:=by omega
 have hK:=hkept;simp only[zc,ka,kb,zb,kfa,kga]at hK
 go_upto_region 21 with (go_at_call 190;refine (zdx (x0:=z0) (x1:=z1) (by simp only[zc,ka,kb,zb,kfa,kga];simp[hK])).mono ?_;rintro _ w5⟨rfl,hb1⟩;have W5b:=za W4b hb1;have hkept:=zn hkept hb1 rfl;replace hK:=hkept;simp only[zc,ka,kb,zb,kfa,kga]at hK)
 have hbA:Below w5.heap.size w5 (w5.alloc (.cells #[F1 z0,F1 z1] 118)):=zt ..
 have hltgj:w.heap.size<w5.heap.size:=zg (a:=⟨w.heap.size,0,none⟩) (by simp[hK])
 have hkept:=ze (keep hkept hbA) (show zc [(⟨w5.heap.size,0,none⟩,F1 z0),(⟨w5.heap.size,1,none⟩,F1 z1)] [] (w5.alloc (.cells #[F1 z0,F1 z1] 118)) by simp only[zc,ka,kb,zb,kfa,kga];simp)
 have W6b:=za W5b hbA
 clear hK hbA
 generalize w5.alloc (.cells #[F1 z0,F1 z1] 118)=W6 at *
 obtain⟨gj,hgj,hlggj⟩:∃ gj,gj=w5.heap.size∧w.heap.size<gj:=⟨_,rfl,hltgj⟩
 rw[← hgj]at hkept ⊢
 clear hgj hb1 hltgj
 have hgjn:gj ≠ w.heap.size:=by omega
 have hgjm:w.heap.size ≠ gj:=by omega
 have hK:=hkept;simp only[zc,ka,kb,zb,kfa,kga]at hK
 refine Qr.wp_below 8 (by kernel_rfl) (by kernel_rfl) PhiTs ?_
 repeat (refine Qr.walk_plain rfl fun K hK=>?_;(first|(refine zk _ _ _ _ _ rfl _ _ _ rfl rfl rfl (fun r hr=>?_))|(apply Qr.one_det;(focus (intro w' hw';have HK:=keep hkept hw';simp only[zc,ka,kb,zb,kfa,kga]at HK;go_simp;first|done|rfl)))|(apply Qr.one_call;(focus (intro w' hw';go_simp;first|done|exact⟨rfl,rfl⟩));(focus (intro w' hw';(first|(go_at_call 187;refine (yn _ _ _ _ _).mono ?_)|(go_at_call 188;refine (y5 _ _).mono ?_)|(go_at_call 193;refine (yp _ _ _ _).mono ?_)|(go_at_call 192;refine (xp _ _ _ _ _).mono ?_));rintro _ w2⟨l1,u1,rfl,hr1,hb1⟩;exact⟨_,rfl,by constructor<;>assumption,za hw' ‹_›,by assumption⟩));intro v hv;cases hv));go_simp;refine hK _ ?_;clear hK K)
 rename_i l1 u1 e1 l2 u2 e2 l3 u3 e3
 refine Qr.walk_nil fun w7 hw7=>?_
 have hkept:=keep hkept hw7
 have W7b:=za W6b hw7
 clear hK
 have hK:=hkept
 simp only[zc,ka,kb,zb,kfa,kga]at hK
 have ht1:(cn .f32 l3,cn .f32 u3)=zb3 (cn .f32 r0) (cn .f32 y0,cn .f32 y1) (cn .f32 z0,cn .f32 z1):=by rw[e3,e1,e2,hsb,hsa,hr,xe];rfl
 clear e1 e2 e3
 go_upto_region 22 with (go_at_call 191;refine (zfn (x0:=y0) (x1:=y1) (by simp only[zc,ka,kb,zb,kfa,kga];simp[hK])).mono ?_;rintro _ w3⟨rfl,w8,hb8,rfl⟩)
 have hkept:=keep hkept hb8
 have W8b:=za W7b hb8
 clear hK
 have hK:=hkept
 simp only[zc,ka,kb,zb,kfa,kga]at hK
 have W9b:=(W8b.setCell (p:=⟨w.heap.size,2,none⟩) (Nat.le_refl _) (F1 l3)).setCell (p:=⟨w.heap.size,3,none⟩) (Nat.le_refl _) (F1 u3)
 have hset:zc [(⟨w.heap.size,0,none⟩,F1 x0),(⟨w.heap.size,1,none⟩,F1 x1),(⟨w.heap.size,2,none⟩,F1 l3),(⟨w.heap.size,3,none⟩,F1 u3),(⟨w.heap.size,4,none⟩,F1 z0),(⟨w.heap.size,5,none⟩,F1 z1),(⟨w.heap.size+1,0,none⟩,F1 0),(⟨w.heap.size+1,1,none⟩,F1 0),(⟨w.heap.size+1,2,none⟩,F1 0),(⟨w.heap.size+1,3,none⟩,F1 0),(⟨w.heap.size+1,4,none⟩,F1 0),(⟨w.heap.size+1,5,none⟩,F1 0),(⟨gi,0,none⟩,F1 y0),(⟨gi,1,none⟩,F1 y1),(⟨gj,0,none⟩,F1 z0),(⟨gj,1,none⟩,F1 z1)] [⟨w.heap.size,0,none⟩,⟨w.heap.size,1,none⟩,⟨w.heap.size,2,none⟩,⟨w.heap.size,3,none⟩,⟨w.heap.size,4,none⟩,⟨w.heap.size,5,none⟩,⟨w.heap.size+1,0,none⟩,⟨w.heap.size+1,1,none⟩,⟨w.heap.size+1,2,none⟩,⟨w.heap.size+1,3,none⟩,⟨w.heap.size+1,4,none⟩,⟨w.heap.size+1,5,none⟩] ((w8.setCell ⟨w.heap.size,2,none⟩ (F1 l3)).setCell ⟨w.heap.size,3,none⟩ (F1 u3)):=by simp only[zc,ka,kb,zb,kfa,kga];simp[hK,hgin,hgim,hgjn,hgjm,go_sem,zf,zh,yk]
 have hkept:=ze (keep hN W9b) hset
 clear hK hset
 generalize ((w8.setCell ⟨w.heap.size,2,none⟩ (F1 l3)).setCell ⟨w.heap.size,3,none⟩ (F1 u3))=W9 at *
 have hK:=hkept;simp only[zc,ka,kb,zb,kfa,kga]at hK
 refine Qr.wp_below 8 (by kernel_rfl) (by kernel_rfl) PhiTs ?_
 repeat (refine Qr.walk_plain rfl fun K hK=>?_;(first|(refine zk _ _ _ _ _ rfl _ _ _ rfl rfl rfl (fun r hr=>?_))|(apply Qr.one_det;(focus (intro w' hw';have HK:=keep hkept hw';simp only[zc,ka,kb,zb,kfa,kga]at HK;go_simp;first|done|rfl)))|(apply Qr.one_call;(focus (intro w' hw';go_simp;first|done|exact⟨rfl,rfl⟩));(focus (intro w' hw';(first|(go_at_call 187;refine (yn _ _ _ _ _).mono ?_)|(go_at_call 188;refine (y5 _ _).mono ?_)|(go_at_call 193;refine (yp _ _ _ _).mono ?_)|(go_at_call 192;refine (xp _ _ _ _ _).mono ?_));rintro _ w2⟨l1,u1,rfl,hr1,hb1⟩;exact⟨_,rfl,by constructor<;>assumption,za hw' ‹_›,by assumption⟩));intro v hv;cases hv));go_simp;refine hK _ ?_;clear hK K)
 rename_i l4 u4 e4 l5 u5 e5 l6 u6 e6
 refine Qr.walk_nil fun w10 hw10=>?_
 have hkept:=keep hkept hw10
 have W10b:=za W9b hw10
 clear hK
 have hK:=hkept
 simp only[zc,ka,kb,zb,kfa,kga]at hK
 have ht2:(cn .f32 l6,cn .f32 u6)=zdd (cn .f32 r0) (cn .f32 y0,cn .f32 y1) (cn .f32 z0,cn .f32 z1):=by rw[e6,e4,e5,hsb,hsa,hr,xe];rfl
 clear e4 e5 e6
 go_upto_region 27 with (go_at_call 191;refine (zfp (x0:=z0) (x1:=z1) (by simp only[zc,ka,kb,zb,kfa,kga];simp[hK])).mono ?_;rintro _ w3⟨rfl,w11,hb11,rfl⟩)
 have hkept:=keep hkept hb11
 have W11b:=za W10b hb11
 clear hK
 have hK:=hkept
 simp only[zc,ka,kb,zb,kfa,kga]at hK
 have W12b:=(W11b.setCell (p:=⟨w.heap.size,4,none⟩) (Nat.le_refl _) (F1 l6)).setCell (p:=⟨w.heap.size,5,none⟩) (Nat.le_refl _) (F1 u6)
 have hset:zc [(⟨w.heap.size,0,none⟩,F1 x0),(⟨w.heap.size,1,none⟩,F1 x1),(⟨w.heap.size,2,none⟩,F1 l3),(⟨w.heap.size,3,none⟩,F1 u3),(⟨w.heap.size,4,none⟩,F1 l6),(⟨w.heap.size,5,none⟩,F1 u6),(⟨w.heap.size+1,0,none⟩,F1 0),(⟨w.heap.size+1,1,none⟩,F1 0),(⟨w.heap.size+1,2,none⟩,F1 0),(⟨w.heap.size+1,3,none⟩,F1 0),(⟨w.heap.size+1,4,none⟩,F1 0),(⟨w.heap.size+1,5,none⟩,F1 0)] [⟨w.heap.size,0,none⟩,⟨w.heap.size,1,none⟩,⟨w.heap.size,2,none⟩,⟨w.heap.size,3,none⟩,⟨w.heap.size,4,none⟩,⟨w.heap.size,5,none⟩,⟨w.heap.size+1,0,none⟩,⟨w.heap.size+1,1,none⟩,⟨w.heap.size+1,2,none⟩,⟨w.heap.size+1,3,none⟩,⟨w.heap.size+1,4,none⟩,⟨w.heap.size+1,5,none⟩] ((w11.setCell ⟨w.heap.size,4,none⟩ (F1 l6)).setCell ⟨w.heap.size,5,none⟩ (F1 u6)):=by simp only[zc,ka,kb,zb,kfa,kga];simp[hK,go_sem,zf,zh,yk]
 have hkept:=ze (keep hN W12b) hset
 clear hK hset
 generalize ((w11.setCell ⟨w.heap.size,4,none⟩ (F1 l6)).setCell ⟨w.heap.size,5,none⟩ (F1 u6))=W12 at *
 have hK:=hkept;simp only[zc,ka,kb,zb,kfa,kga]at hK
 go_wp2_with fail
 exact bodyPost_ret (v:=Rg3 x0 x1 l3 u3 l6 u6) (by simp[results,Tryz.results122,go_sem,hK,zf,zh];first|done|exact⟨rfl,rfl,rfl,rfl,rfl,rfl⟩) rfl ⟨_,_,_,_,_,_,rfl,rfl,ht1,ht2,xr W12b (by omega) ..⟩

set_option maxRecDepth 100000 in
theorem zm5 {b o bv ov cap r0 x0 x1 y0 y1 z0 z1:Nat} {bp:Option Addr} {w:World} (hN:zc [(⟨b,o,none⟩,.int .i64 12),(⟨b,o+2,none⟩,.int .i64 1),(⟨b,o+3,none⟩,.slice (some ⟨bv,ov,none⟩) 1 cap),(⟨bv,ov,none⟩,F1 r0)] [] w) :
  Calls Tryz.prog 122 #[.pointer (some ⟨b,o,none⟩),Rg3 x0 x1 y0 y1 z0 z1] w (vn (zdd (cn .f32 r0) (cn .f32 z0,cn .f32 z1) (cn .f32 x0,cn .f32 x1),(cn .f32 y0,cn .f32 y1),zb3 (cn .f32 r0) (cn .f32 z0,cn .f32 z1) (cn .f32 x0,cn .f32 x1)) w):=by
 have hK:=hN
 simp only[zc,ka,kb,zb,kfa,kga]at hK
 have hb:b<w.heap.size:=zg (a:=⟨b,o,none⟩) (by first|(rw[hK.1];rfl)|(rw[hK];rfl))
 go_enter Tryz.func122,Tryz.ntmps122
 go_upto_region 1 with fail
 clear hK
 generalize hW:(w.alloc (.cells #[F1 x0,F1 x1,F1 y0,F1 y1,F1 z0,F1 z1] 180)).alloc (.cells #[F1 0,F1 0,F1 0,F1 0,F1 0,F1 0] 180)=W1 at *
 have W1b:Below w.heap.size w W1:=by subst hW;exact xa ..
 have hkept:=yt true true hW;simp only[zr,zq,zo,zv,Nat.reduceAdd]at hkept;clear hW
 have hkept:=ze (keep hN W1b) hkept
 have hK:=hkept;simp only[zc,ka,kb,zb,kfa,kga]at hK
 have hb1:b<W1.heap.size:=Nat.lt_of_lt_of_le hb W1b.size
 go_upto_region 19 with (first|(refine z6 rfl _ _ _ _ _ rfl _ _ _ rfl rfl rfl ?_;intro r n hr)|(go_at_call 189;refine (q7 _ _).mono ?_;rintro _ w2⟨r1,rfl,hr1,hb1⟩;have W1b:=za (by first|exact W1b|exact zd W1b _) hb1;have hkept:=zn hkept hb1 rfl;replace hK:=hkept;simp only[zc,ka,kb,zb,kfa,kga]at hK))
 have hsa:=‹cn .f32 _=jr (cn .f32 r)›
 revert r1;intro sb hsb
 go_upto_region 20 with (go_at_call 190;refine (zdx (x0:=z0) (x1:=z1) (by simp only[zc,ka,kb,zb,kfa,kga];simp[hK])).mono ?_;rintro _ w3⟨rfl,hb1⟩;have W3b:=za W1b hb1;have hkept:=zn hkept hb1 rfl;replace hK:=hkept;simp only[zc,ka,kb,zb,kfa,kga]at hK)
 have hbA:Below w3.heap.size w3 (w3.alloc (.cells #[F1 z0,F1 z1] 118)):=zt ..
 have hltgi:w.heap.size<w3.heap.size:=zg (a:=⟨w.heap.size,0,none⟩) (by simp[hK])
 have hkept:=ze (keep hkept hbA) (show zc [(⟨w3.heap.size,0,none⟩,F1 z0),(⟨w3.heap.size,1,none⟩,F1 z1)] [] (w3.alloc (.cells #[F1 z0,F1 z1] 118)) by simp only[zc,ka,kb,zb,kfa,kga];simp)
 have W4b:=za W3b hbA
 clear hK hbA
 generalize w3.alloc (.cells #[F1 z0,F1 z1] 118)=W4 at *
 obtain⟨gi,hgi,hlggi⟩:∃ gi,gi=w3.heap.size∧w.heap.size<gi:=⟨_,rfl,hltgi⟩
 rw[← hgi]at hkept ⊢
 clear hgi hb1 hltgi
 have hgin:gi ≠ w.heap.size:=by omega
 have hgim:w.heap.size ≠ gi:=by omega
 have hK:=hkept;simp only[zc,ka,kb,zb,kfa,kga]at hK
 go_upto_region 21 with (go_at_call 190;refine (zd8 (x0:=x0) (x1:=x1) (by simp only[zc,ka,kb,zb,kfa,kga];simp[hK])).mono ?_;rintro _ w5⟨rfl,hb1⟩;have W5b:=za W4b hb1;have hkept:=zn hkept hb1 rfl;replace hK:=hkept;simp only[zc,ka,kb,zb,kfa,kga]at hK)
 have hbA:Below w5.heap.size w5 (w5.alloc (.cells #[F1 x0,F1 x1] 118)):=zt ..
 have hltgj:w.heap.size<w5.heap.size:=zg (a:=⟨w.heap.size,0,none⟩) (by simp[hK])
 have hkept:=ze (keep hkept hbA) (show zc [(⟨w5.heap.size,0,none⟩,F1 x0),(⟨w5.heap.size,1,none⟩,F1 x1)] [] (w5.alloc (.cells #[F1 x0,F1 x1] 118)) by simp only[zc,ka,kb,zb,kfa,kga];simp)
 have W6b:=za W5b hbA
 clear hK hbA
 generalize w5.alloc (.cells #[F1 x0,F1 x1] 118)=W6 at *
 obtain⟨gj,hgj,hlggj⟩:∃ gj,gj=w5.heap.size∧w.heap.size<gj:=⟨_,rfl,hltgj⟩
 rw[← hgj]at hkept ⊢
 clear hgj hb1 hltgj
 have hgjn:gj ≠ w.heap.size:=by omega
 have hgjm:w.heap.size ≠ gj:=by omega
 have hK:=hkept;simp only[zc,ka,kb,zb,kfa,kga]at hK
 refine Qr.wp_below 8 (by kernel_rfl) (by kernel_rfl) PhiTs ?_
 repeat (refine Qr.walk_plain rfl fun K hK=>?_;(first|(refine zk _ _ _ _ _ rfl _ _ _ rfl rfl rfl (fun r hr=>?_))|(apply Qr.one_det;(focus (intro w' hw';have HK:=keep hkept hw';simp only[zc,ka,kb,zb,kfa,kga]at HK;go_simp;first|done|rfl)))|(apply Qr.one_call;(focus (intro w' hw';go_simp;first|done|exact⟨rfl,rfl⟩));(focus (intro w' hw';(first|(go_at_call 187;refine (yn _ _ _ _ _).mono ?_)|(go_at_call 188;refine (y5 _ _).mono ?_)|(go_at_call 193;refine (yp _ _ _ _).mono ?_)|(go_at_call 192;refine (xp _ _ _ _ _).mono ?_));rintro _ w2⟨l1,u1,rfl,hr1,hb1⟩;exact⟨_,rfl,by constructor<;>assumption,za hw' ‹_›,by assumption⟩));intro v hv;cases hv));go_simp;refine hK _ ?_;clear hK K)
 rename_i l1 u1 e1 l2 u2 e2 l3 u3 e3
 refine Qr.walk_nil fun w7 hw7=>?_
 have hkept:=keep hkept hw7
 have W7b:=za W6b hw7
 clear hK
 have hK:=hkept
 simp only[zc,ka,kb,zb,kfa,kga]at hK
 have ht1:(cn .f32 l3,cn .f32 u3)=zb3 (cn .f32 r0) (cn .f32 z0,cn .f32 z1) (cn .f32 x0,cn .f32 x1):=by rw[e3,e1,e2,hsb,hsa,hr,xe];rfl
 clear e1 e2 e3
 go_upto_region 22 with (go_at_call 191;refine (zfp (x0:=z0) (x1:=z1) (by simp only[zc,ka,kb,zb,kfa,kga];simp[hK])).mono ?_;rintro _ w3⟨rfl,w8,hb8,rfl⟩)
 have hkept:=keep hkept hb8
 have W8b:=za W7b hb8
 clear hK
 have hK:=hkept
 simp only[zc,ka,kb,zb,kfa,kga]at hK
 have W9b:=(W8b.setCell (p:=⟨w.heap.size,4,none⟩) (Nat.le_refl _) (F1 l3)).setCell (p:=⟨w.heap.size,5,none⟩) (Nat.le_refl _) (F1 u3)
 have hset:zc [(⟨w.heap.size,0,none⟩,F1 x0),(⟨w.heap.size,1,none⟩,F1 x1),(⟨w.heap.size,2,none⟩,F1 y0),(⟨w.heap.size,3,none⟩,F1 y1),(⟨w.heap.size,4,none⟩,F1 l3),(⟨w.heap.size,5,none⟩,F1 u3),(⟨w.heap.size+1,0,none⟩,F1 0),(⟨w.heap.size+1,1,none⟩,F1 0),(⟨w.heap.size+1,2,none⟩,F1 0),(⟨w.heap.size+1,3,none⟩,F1 0),(⟨w.heap.size+1,4,none⟩,F1 0),(⟨w.heap.size+1,5,none⟩,F1 0),(⟨gi,0,none⟩,F1 z0),(⟨gi,1,none⟩,F1 z1),(⟨gj,0,none⟩,F1 x0),(⟨gj,1,none⟩,F1 x1)] [⟨w.heap.size,0,none⟩,⟨w.heap.size,1,none⟩,⟨w.heap.size,2,none⟩,⟨w.heap.size,3,none⟩,⟨w.heap.size,4,none⟩,⟨w.heap.size,5,none⟩,⟨w.heap.size+1,0,none⟩,⟨w.heap.size+1,1,none⟩,⟨w.heap.size+1,2,none⟩,⟨w.heap.size+1,3,none⟩,⟨w.heap.size+1,4,none⟩,⟨w.heap.size+1,5,none⟩] ((w8.setCell ⟨w.heap.size,4,none⟩ (F1 l3)).setCell ⟨w.heap.size,5,none⟩ (F1 u3)):=by simp only[zc,ka,kb,zb,kfa,kga];simp[hK,hgin,hgim,hgjn,hgjm,go_sem,zf,zh,yk]
 have hkept:=ze (keep hN W9b) hset
 clear hK hset
 generalize ((w8.setCell ⟨w.heap.size,4,none⟩ (F1 l3)).setCell ⟨w.heap.size,5,none⟩ (F1 u3))=W9 at *
 have hK:=hkept;simp only[zc,ka,kb,zb,kfa,kga]at hK
 refine Qr.wp_below 8 (by kernel_rfl) (by kernel_rfl) PhiTs ?_
 repeat (refine Qr.walk_plain rfl fun K hK=>?_;(first|(refine zk _ _ _ _ _ rfl _ _ _ rfl rfl rfl (fun r hr=>?_))|(apply Qr.one_det;(focus (intro w' hw';have HK:=keep hkept hw';simp only[zc,ka,kb,zb,kfa,kga]at HK;go_simp;first|done|rfl)))|(apply Qr.one_call;(focus (intro w' hw';go_simp;first|done|exact⟨rfl,rfl⟩));(focus (intro w' hw';(first|(go_at_call 187;refine (yn _ _ _ _ _).mono ?_)|(go_at_call 188;refine (y5 _ _).mono ?_)|(go_at_call 193;refine (yp _ _ _ _).mono ?_)|(go_at_call 192;refine (xp _ _ _ _ _).mono ?_));rintro _ w2⟨l1,u1,rfl,hr1,hb1⟩;exact⟨_,rfl,by constructor<;>assumption,za hw' ‹_›,by assumption⟩));intro v hv;cases hv));go_simp;refine hK _ ?_;clear hK K)
 rename_i l4 u4 e4 l5 u5 e5 l6 u6 e6
 refine Qr.walk_nil fun w10 hw10=>?_
 have hkept:=keep hkept hw10
 have W10b:=za W9b hw10
 clear hK
 have hK:=hkept
 simp only[zc,ka,kb,zb,kfa,kga]at hK
 have ht2:(cn .f32 l6,cn .f32 u6)=zdd (cn .f32 r0) (cn .f32 z0,cn .f32 z1) (cn .f32 x0,cn .f32 x1):=by rw[e6,e4,e5,hsb,hsa,hr,xe];rfl
 clear e4 e5 e6
 go_upto_region 27 with (go_at_call 191;refine (zfd (x0:=x0) (x1:=x1) (by simp only[zc,ka,kb,zb,kfa,kga];simp[hK])).mono ?_;rintro _ w3⟨rfl,w11,hb11,rfl⟩)
 have hkept:=keep hkept hb11
 have W11b:=za W10b hb11
 clear hK
 have hK:=hkept
 simp only[zc,ka,kb,zb,kfa,kga]at hK
 have W12b:=(W11b.setCell (p:=⟨w.heap.size,0,none⟩) (Nat.le_refl _) (F1 l6)).setCell (p:=⟨w.heap.size,1,none⟩) (Nat.le_refl _) (F1 u6)
 have hset:zc [(⟨w.heap.size,0,none⟩,F1 l6),(⟨w.heap.size,1,none⟩,F1 u6),(⟨w.heap.size,2,none⟩,F1 y0),(⟨w.heap.size,3,none⟩,F1 y1),(⟨w.heap.size,4,none⟩,F1 l3),(⟨w.heap.size,5,none⟩,F1 u3),(⟨w.heap.size+1,0,none⟩,F1 0),(⟨w.heap.size+1,1,none⟩,F1 0),(⟨w.heap.size+1,2,none⟩,F1 0),(⟨w.heap.size+1,3,none⟩,F1 0),(⟨w.heap.size+1,4,none⟩,F1 0),(⟨w.heap.size+1,5,none⟩,F1 0)] [⟨w.heap.size,0,none⟩,⟨w.heap.size,1,none⟩,⟨w.heap.size,2,none⟩,⟨w.heap.size,3,none⟩,⟨w.heap.size,4,none⟩,⟨w.heap.size,5,none⟩,⟨w.heap.size+1,0,none⟩,⟨w.heap.size+1,1,none⟩,⟨w.heap.size+1,2,none⟩,⟨w.heap.size+1,3,none⟩,⟨w.heap.size+1,4,none⟩,⟨w.heap.size+1,5,none⟩] ((w11.setCell ⟨w.heap.size,0,none⟩ (F1 l6)).setCell ⟨w.heap.size,1,none⟩ (F1 u6)):=by simp only[zc,ka,kb,zb,kfa,kga];simp[hK,go_sem,zf,zh,yk]
 have hkept:=ze (keep hN W12b) hset
 clear hK hset
 generalize ((w11.setCell ⟨w.heap.size,0,none⟩ (F1 l6)).setCell ⟨w.heap.size,1,none⟩ (F1 u6))=W12 at *
 have hK:=hkept;simp only[zc,ka,kb,zb,kfa,kga]at hK
 go_wp2_with fail
 exact bodyPost_ret (v:=Rg3 l6 u6 y0 y1 l3 u3) (by simp[results,Tryz.results122,go_sem,hK,zf,zh];first|done|exact⟨rfl,rfl,rfl,rfl,rfl,rfl⟩) rfl ⟨_,_,_,_,_,_,rfl,ht2,rfl,ht1,xr W12b (by omega) ..⟩

set_option maxRecDepth 100000 in
theorem zmy {b o bv ov cap r0 x0 x1 y0 y1 z0 z1:Nat} {bp:Option Addr} {w:World} (hN:zc [(⟨b,o,none⟩,.int .i64 12),(⟨b,o+2,none⟩,.int .i64 2),(⟨b,o+3,none⟩,.slice (some ⟨bv,ov,none⟩) 1 cap),(⟨bv,ov,none⟩,F1 r0)] [] w) :
  Calls Tryz.prog 122 #[.pointer (some ⟨b,o,none⟩),Rg3 x0 x1 y0 y1 z0 z1] w (vn (zb3 (cn .f32 r0) (cn .f32 x0,cn .f32 x1) (cn .f32 y0,cn .f32 y1),zdd (cn .f32 r0) (cn .f32 x0,cn .f32 x1) (cn .f32 y0,cn .f32 y1),(cn .f32 z0,cn .f32 z1)) w):=by
 have hK:=hN
 simp only[zc,ka,kb,zb,kfa,kga]at hK
 have hb:b<w.heap.size:=zg (a:=⟨b,o,none⟩) (by first|(rw[hK.1];rfl)|(rw[hK];rfl))
 go_enter Tryz.func122,Tryz.ntmps122
 go_upto_region 1 with fail
 clear hK
 generalize hW:(w.alloc (.cells #[F1 x0,F1 x1,F1 y0,F1 y1,F1 z0,F1 z1] 180)).alloc (.cells #[F1 0,F1 0,F1 0,F1 0,F1 0,F1 0] 180)=W1 at *
 have W1b:Below w.heap.size w W1:=by subst hW;exact xa ..
 have hkept:=yt true true hW;simp only[zr,zq,zo,zv,Nat.reduceAdd]at hkept;clear hW
 have hkept:=ze (keep hN W1b) hkept
 have hK:=hkept;simp only[zc,ka,kb,zb,kfa,kga]at hK
 have hb1:b<W1.heap.size:=Nat.lt_of_lt_of_le hb W1b.size
 go_upto_region 19 with (first|(refine z6 rfl _ _ _ _ _ rfl _ _ _ rfl rfl rfl ?_;intro r n hr)|(go_at_call 189;refine (q7 _ _).mono ?_;rintro _ w2⟨r1,rfl,hr1,hb1⟩;have W1b:=za (by first|exact W1b|exact zd W1b _) hb1;have hkept:=zn hkept hb1 rfl;replace hK:=hkept;simp only[zc,ka,kb,zb,kfa,kga]at hK))
 have hsa:=‹cn .f32 _=jr (cn .f32 r)›
 revert r1;intro sb hsb
 go_upto_region 20 with (go_at_call 190;refine (zd8 (x0:=x0) (x1:=x1) (by simp only[zc,ka,kb,zb,kfa,kga];simp[hK])).mono ?_;rintro _ w3⟨rfl,hb1⟩;have W3b:=za W1b hb1;have hkept:=zn hkept hb1 rfl;replace hK:=hkept;simp only[zc,ka,kb,zb,kfa,kga]at hK)
 have hbA:Below w3.heap.size w3 (w3.alloc (.cells #[F1 x0,F1 x1] 118)):=zt ..
 have hltgi:w.heap.size<w3.heap.size:=zg (a:=⟨w.heap.size,0,none⟩) (by simp[hK])
 have hkept:=ze (keep hkept hbA) (show zc [(⟨w3.heap.size,0,none⟩,F1 x0),(⟨w3.heap.size,1,none⟩,F1 x1)] [] (w3.alloc (.cells #[F1 x0,F1 x1] 118)) by simp only[zc,ka,kb,zb,kfa,kga];simp)
 have W4b:=za W3b hbA
 clear hK hbA
 generalize w3.alloc (.cells #[F1 x0,F1 x1] 118)=W4 at *
 obtain⟨gi,hgi,hlggi⟩:∃ gi,gi=w3.heap.size∧w.heap.size<gi:=⟨_,rfl,hltgi⟩
 rw[← hgi]at hkept ⊢
 clear hgi hb1 hltgi
 have hgin:gi ≠ w.heap.size:=by omega
 have hgim:w.heap.size ≠ gi:=by omega
 have hK:=hkept;simp only[zc,ka,kb,zb,kfa,kga]at hK
 go_upto_region 21 with (go_at_call 190;refine (zdy (x0:=y0) (x1:=y1) (by simp only[zc,ka,kb,zb,kfa,kga];simp[hK])).mono ?_;rintro _ w5⟨rfl,hb1⟩;have W5b:=za W4b hb1;have hkept:=zn hkept hb1 rfl;replace hK:=hkept;simp only[zc,ka,kb,zb,kfa,kga]at hK)
 have hbA:Below w5.heap.size w5 (w5.alloc (.cells #[F1 y0,F1 y1] 118)):=zt ..
 have hltgj:w.heap.size<w5.heap.size:=zg (a:=⟨w.heap.size,0,none⟩) (by simp[hK])
 have hkept:=ze (keep hkept hbA) (show zc [(⟨w5.heap.size,0,none⟩,F1 y0),(⟨w5.heap.size,1,none⟩,F1 y1)] [] (w5.alloc (.cells #[F1 y0,F1 y1] 118)) by simp only[zc,ka,kb,zb,kfa,kga];simp)
 have W6b:=za W5b hbA
 clear hK hbA
 generalize w5.alloc (.cells #[F1 y0,F1 y1] 118)=W6 at *
 obtain⟨gj,hgj,hlggj⟩:∃ gj,gj=w5.heap.size∧w.heap.size<gj:=⟨_,rfl,hltgj⟩
 rw[← hgj]at hkept ⊢
 clear hgj hb1 hltgj
 have hgjn:gj ≠ w.heap.size:=by omega
 have hgjm:w.heap.size ≠ gj:=by omega
 have hK:=hkept;simp only[zc,ka,kb,zb,kfa,kga]at hK
 refine Qr.wp_below 8 (by kernel_rfl) (by kernel_rfl) PhiTs ?_
 repeat (refine Qr.walk_plain rfl fun K hK=>?_;(first|(refine zk _ _ _ _ _ rfl _ _ _ rfl rfl rfl (fun r hr=>?_))|(apply Qr.one_det;(focus (intro w' hw';have HK:=keep hkept hw';simp only[zc,ka,kb,zb,kfa,kga]at HK;go_simp;first|done|rfl)))|(apply Qr.one_call;(focus (intro w' hw';go_simp;first|done|exact⟨rfl,rfl⟩));(focus (intro w' hw';(first|(go_at_call 187;refine (yn _ _ _ _ _).mono ?_)|(go_at_call 188;refine (y5 _ _).mono ?_)|(go_at_call 193;refine (yp _ _ _ _).mono ?_)|(go_at_call 192;refine (xp _ _ _ _ _).mono ?_));rintro _ w2⟨l1,u1,rfl,hr1,hb1⟩;exact⟨_,rfl,by constructor<;>assumption,za hw' ‹_›,by assumption⟩));intro v hv;cases hv));go_simp;refine hK _ ?_;clear hK K)
 rename_i l1 u1 e1 l2 u2 e2 l3 u3 e3
 refine Qr.walk_nil fun w7 hw7=>?_
 have hkept:=keep hkept hw7
 have W7b:=za W6b hw7
 clear hK
 have hK:=hkept
 simp only[zc,ka,kb,zb,kfa,kga]at hK
 have ht1:(cn .f32 l3,cn .f32 u3)=zb3 (cn .f32 r0) (cn .f32 x0,cn .f32 x1) (cn .f32 y0,cn .f32 y1):=by rw[e3,e1,e2,hsb,hsa,hr,xe];rfl
 clear e1 e2 e3
 go_upto_region 22 with (go_at_call 191;refine (zfd (x0:=x0) (x1:=x1) (by simp only[zc,ka,kb,zb,kfa,kga];simp[hK])).mono ?_;rintro _ w3⟨rfl,w8,hb8,rfl⟩)
 have hkept:=keep hkept hb8
 have W8b:=za W7b hb8
 clear hK
 have hK:=hkept
 simp only[zc,ka,kb,zb,kfa,kga]at hK
 have W9b:=(W8b.setCell (p:=⟨w.heap.size,0,none⟩) (Nat.le_refl _) (F1 l3)).setCell (p:=⟨w.heap.size,1,none⟩) (Nat.le_refl _) (F1 u3)
 have hset:zc [(⟨w.heap.size,0,none⟩,F1 l3),(⟨w.heap.size,1,none⟩,F1 u3),(⟨w.heap.size,2,none⟩,F1 y0),(⟨w.heap.size,3,none⟩,F1 y1),(⟨w.heap.size,4,none⟩,F1 z0),(⟨w.heap.size,5,none⟩,F1 z1),(⟨w.heap.size+1,0,none⟩,F1 0),(⟨w.heap.size+1,1,none⟩,F1 0),(⟨w.heap.size+1,2,none⟩,F1 0),(⟨w.heap.size+1,3,none⟩,F1 0),(⟨w.heap.size+1,4,none⟩,F1 0),(⟨w.heap.size+1,5,none⟩,F1 0),(⟨gi,0,none⟩,F1 x0),(⟨gi,1,none⟩,F1 x1),(⟨gj,0,none⟩,F1 y0),(⟨gj,1,none⟩,F1 y1)] [⟨w.heap.size,0,none⟩,⟨w.heap.size,1,none⟩,⟨w.heap.size,2,none⟩,⟨w.heap.size,3,none⟩,⟨w.heap.size,4,none⟩,⟨w.heap.size,5,none⟩,⟨w.heap.size+1,0,none⟩,⟨w.heap.size+1,1,none⟩,⟨w.heap.size+1,2,none⟩,⟨w.heap.size+1,3,none⟩,⟨w.heap.size+1,4,none⟩,⟨w.heap.size+1,5,none⟩] ((w8.setCell ⟨w.heap.size,0,none⟩ (F1 l3)).setCell ⟨w.heap.size,1,none⟩ (F1 u3)):=by simp only[zc,ka,kb,zb,kfa,kga];simp[hK,hgin,hgim,hgjn,hgjm,go_sem,zf,zh,yk]
 have hkept:=ze (keep hN W9b) hset
 clear hK hset
 generalize ((w8.setCell ⟨w.heap.size,0,none⟩ (F1 l3)).setCell ⟨w.heap.size,1,none⟩ (F1 u3))=W9 at *
 have hK:=hkept;simp only[zc,ka,kb,zb,kfa,kga]at hK
 refine Qr.wp_below 8 (by kernel_rfl) (by kernel_rfl) PhiTs ?_
 repeat (refine Qr.walk_plain rfl fun K hK=>?_;(first|(refine zk _ _ _ _ _ rfl _ _ _ rfl rfl rfl (fun r hr=>?_))|(apply Qr.one_det;(focus (intro w' hw';have HK:=keep hkept hw';simp only[zc,ka,kb,zb,kfa,kga]at HK;go_simp;first|done|rfl)))|(apply Qr.one_call;(focus (intro w' hw';go_simp;first|done|exact⟨rfl,rfl⟩));(focus (intro w' hw';(first|(go_at_call 187;refine (yn _ _ _ _ _).mono ?_)|(go_at_call 188;refine (y5 _ _).mono ?_)|(go_at_call 193;refine (yp _ _ _ _).mono ?_)|(go_at_call 192;refine (xp _ _ _ _ _).mono ?_));rintro _ w2⟨l1,u1,rfl,hr1,hb1⟩;exact⟨_,rfl,by constructor<;>assumption,za hw' ‹_›,by assumption⟩));intro v hv;cases hv));go_simp;refine hK _ ?_;clear hK K)
 rename_i l4 u4 e4 l5 u5 e5 l6 u6 e6
 refine Qr.walk_nil fun w10 hw10=>?_
 have hkept:=keep hkept hw10
 have W10b:=za W9b hw10
 clear hK
 have hK:=hkept
 simp only[zc,ka,kb,zb,kfa,kga]at hK
 have ht2:(cn .f32 l6,cn .f32 u6)=zdd (cn .f32 r0) (cn .f32 x0,cn .f32 x1) (cn .f32 y0,cn .f32 y1):=by rw[e6,e4,e5,hsb,hsa,hr,xe];rfl
 clear e4 e5 e6
 go_upto_region 27 with (go_at_call 191;refine (zfn (x0:=y0) (x1:=y1) (by simp only[zc,ka,kb,zb,kfa,kga];simp[hK])).mono ?_;rintro _ w3⟨rfl,w11,hb11,rfl⟩)
 have hkept:=keep hkept hb11
 have W11b:=za W10b hb11
 clear hK
 have hK:=hkept
 simp only[zc,ka,kb,zb,kfa,kga]at hK
 have W12b:=(W11b.setCell (p:=⟨w.heap.size,2,none⟩) (Nat.le_refl _) (F1 l6)).setCell (p:=⟨w.heap.size,3,none⟩) (Nat.le_refl _) (F1 u6)
 have hset:zc [(⟨w.heap.size,0,none⟩,F1 l3),(⟨w.heap.size,1,none⟩,F1 u3),(⟨w.heap.size,2,none⟩,F1 l6),(⟨w.heap.size,3,none⟩,F1 u6),(⟨w.heap.size,4,none⟩,F1 z0),(⟨w.heap.size,5,none⟩,F1 z1),(⟨w.heap.size+1,0,none⟩,F1 0),(⟨w.heap.size+1,1,none⟩,F1 0),(⟨w.heap.size+1,2,none⟩,F1 0),(⟨w.heap.size+1,3,none⟩,F1 0),(⟨w.heap.size+1,4,none⟩,F1 0),(⟨w.heap.size+1,5,none⟩,F1 0)] [⟨w.heap.size,0,none⟩,⟨w.heap.size,1,none⟩,⟨w.heap.size,2,none⟩,⟨w.heap.size,3,none⟩,⟨w.heap.size,4,none⟩,⟨w.heap.size,5,none⟩,⟨w.heap.size+1,0,none⟩,⟨w.heap.size+1,1,none⟩,⟨w.heap.size+1,2,none⟩,⟨w.heap.size+1,3,none⟩,⟨w.heap.size+1,4,none⟩,⟨w.heap.size+1,5,none⟩] ((w11.setCell ⟨w.heap.size,2,none⟩ (F1 l6)).setCell ⟨w.heap.size,3,none⟩ (F1 u6)):=by simp only[zc,ka,kb,zb,kfa,kga];simp[hK,go_sem,zf,zh,yk]
 have hkept:=ze (keep hN W12b) hset
 clear hK hset
 generalize ((w11.setCell ⟨w.heap.size,2,none⟩ (F1 l6)).setCell ⟨w.heap.size,3,none⟩ (F1 u6))=W12 at *
 have hK:=hkept;simp only[zc,ka,kb,zb,kfa,kga]at hK
 go_wp2_with fail
 exact bodyPost_ret (v:=Rg3 l3 u3 l6 u6 z0 z1) (by simp[results,Tryz.results122,go_sem,hK,zf,zh];first|done|exact⟨rfl,rfl,rfl,rfl,rfl,rfl⟩) rfl ⟨_,_,_,_,_,_,rfl,ht1,ht2,rfl,xr W12b (by omega) ..⟩

end Go.Proofs.YtbiacfkiakddiaaGreat
