/-
 Lemmas: V19.
-/
import Derived.Test.YtbiacfkiakddiaaGreatXbl
set_option linter.unusedVariables false
set_option linter.unusedSimpArgs false
set_option maxHeartbeats 2000000
namespace Go.Proofs.YtbiacfkiakddiaaGreat
open Go.RowKit Go.Fl
inductive PhiPt:FuncId→Array Value→Value→Prop
 | sine (a r:Nat) (h:cn .f32 r=jr (cn .f32 a)):PhiPt 211 #[F1 a] (F1 r)
 | times (a b v l h:Nat) (e:(cn .f32 l,cn .f32 h)=xw (cn .f32 a,cn .f32 b) (cn .f32 v)):PhiPt 212 #[RgV a b,F1 v] (RgV l h)
 | plus (a b c d l h:Nat) (e:(cn .f32 l,cn .f32 h)=zbn (cn .f32 a,cn .f32 b) (cn .f32 c,cn .f32 d)):PhiPt 213 #[RgV a b,RgV c d] (RgV l h)
 | less (a b c d l h:Nat) (e:(cn .f32 l,cn .f32 h)=jm (cn .f32 a,cn .f32 b) (cn .f32 c,cn .f32 d)):PhiPt 214 #[RgV a b,RgV c d] (RgV l h)


set_option maxRecDepth 100000 in
theorem zl0 {b o bv ov cap r0 x0 x1 y0 y1 z0 z1:Nat} {bp:Option Addr} {w:World} (hN:zc [(⟨b,o,none⟩,.int .i64 12),(⟨b,o+2,none⟩,.int .i64 0),(⟨b,o+3,none⟩,.slice (some ⟨bv,ov,none⟩) 1 cap),(⟨bv,ov,none⟩,F1 r0)] [] w) :
  Calls Tryz.prog 134 #[.pointer (some ⟨b,o,none⟩),Rg3 x0 x1 y0 y1 z0 z1] w (vn ((cn .f32 x0,cn .f32 x1),zb3 (cn .f32 r0) (cn .f32 y0,cn .f32 y1) (cn .f32 z0,cn .f32 z1),zdd (cn .f32 r0) (cn .f32 y0,cn .f32 y1) (cn .f32 z0,cn .f32 z1)) w):=by
 have hK:=hN
 simp only[zc,ka,kb,zb,kfa,kga]at hK
 have hb:b<w.heap.size:=zg (a:=⟨b,o,none⟩) (by rw[hK.1];rfl)
 go_enter Tryz.func134,Tryz.ntmps134
 go_upto_region 1 with fail
 clear hK
 generalize hW:(w.alloc (.cells #[F1 x0,F1 x1,F1 y0,F1 y1,F1 z0,F1 z1] 197)).alloc (.cells #[F1 0,F1 0,F1 0,F1 0,F1 0,F1 0] 197)=W1 at *
 have W1b:Below w.heap.size w W1:=by subst hW;exact xa ..
 have hkept:=yt true true hW;simp only[zr,zq,zo,zv,Nat.reduceAdd]at hkept;clear hW
 have hkept:=ze (keep hN W1b) hkept
 clear hN
 have hK:=hkept;simp only[zc,ka,kb,zb,kfa,kga]at hK
 have hb1:b<W1.heap.size:=Nat.lt_of_lt_of_le hb W1b.size
 go_upto_region 2 with fail
 refine Qr.wp_below_all (by kernel_rfl) (by kernel_rfl) PhiPt ?_
 repeat (first|(refine Qr.walk_plain rfl fun K hK=>?_;refine zk _ _ _ _ _ rfl _ _ _ rfl rfl rfl (fun r hr=>?_);go_simp;refine hK _ ?_;clear hK K)|(refine Qr.walk_plain rfl fun K hK=>?_;apply Qr.one_det;(focus (intro w' hw';have HK:=keep hkept hw';simp only[zc,ka,kb,zb,kfa,kga]at HK;go_simp;first|done|rfl));go_simp;refine hK _ ?_;clear hK K))
 refine Qr.walk_nil fun w6 hw6=>?_
 have hkept:=keep hkept hw6
 have W6b:=za W1b hw6
 clear hK
 have hK:=hkept
 simp only[zc,ka,kb,zb,kfa,kga]at hK
 rw[show (IntKind.i64.wrap 1).tmod 3=1 by decide,show (IntKind.i64.wrap 2).tmod 3=2 by decide]
 go_upto_region 15 with fail
 refine Qr.wp_below_all (by kernel_rfl) (by kernel_rfl) PhiPt ?_
 repeat (refine Qr.walk_plain rfl fun K hK=>?_;(first|(refine zk _ _ _ _ _ rfl _ _ _ rfl rfl rfl (fun r hr=>?_))|(apply Qr.one_det;(focus (intro w' hw';have HK:=keep hkept hw';simp only[zc,ka,kb,zb,kfa,kga]at HK;go_simp;first|done|rfl)))|(apply Qr.one_call;(focus (intro w' hw';go_simp;first|done|exact⟨rfl,rfl⟩));(focus (intro w' hw';first|(go_at_call 211;refine (yh _ _).mono ?_;rintro _ w2⟨r1,rfl,hr1,hb1⟩;exact⟨_,rfl,by constructor<;>assumption,za hw' ‹_›,by assumption⟩)|((first|(go_at_call 212;refine (xm _ _ _ _).mono ?_)|(go_at_call 213;refine (j5 _ _ _ _ _).mono ?_)|(go_at_call 214;refine (vg _ _ _ _ _).mono ?_));rintro _ w2⟨l1,u1,rfl,hr1,hb1⟩;exact⟨_,rfl,by constructor<;>assumption,za hw' ‹_›,by assumption⟩)));intro v hv;cases hv));go_simp;refine hK _ ?_;clear hK K)
 rename_i sa hsa sb hsb sc hsc
 refine Qr.walk_nil fun w7 hw7=>?_
 have hkept:=keep hkept hw7
 have W7b:=za W6b hw7
 clear hK hw7
 have hK:=hkept
 simp only[zc,ka,kb,zb,kfa,kga]at hK
 go_upto_region 16 with fail
 clear hK
 refine Qu.wp_regionL 25 (by kernel_rfl) (by kernel_rfl) (fun w'=>Below w7.heap.size w7 w') (fun w'=>∃ l u,(cn .f32 l,cn .f32 u)=zb3 (cn .f32 r0) (cn .f32 y0,cn .f32 y1) (cn .f32 z0,cn .f32 z1)∧zc [(⟨w.heap.size,0,none⟩,F1 x0),(⟨w.heap.size,1,none⟩,F1 x1),(⟨w.heap.size,2,none⟩,F1 l),(⟨w.heap.size,3,none⟩,F1 u),(⟨w.heap.size,4,none⟩,F1 z0),(⟨w.heap.size,5,none⟩,F1 z1),(⟨w.heap.size+1,0,none⟩,F1 0),(⟨w.heap.size+1,1,none⟩,F1 0),(⟨w.heap.size+1,2,none⟩,F1 0),(⟨w.heap.size+1,3,none⟩,F1 0),(⟨w.heap.size+1,4,none⟩,F1 0),(⟨w.heap.size+1,5,none⟩,F1 0)] [⟨w.heap.size,4,none⟩,⟨w.heap.size,5,none⟩,⟨w.heap.size+1,0,none⟩,⟨w.heap.size+1,1,none⟩,⟨w.heap.size+1,2,none⟩,⟨w.heap.size+1,3,none⟩,⟨w.heap.size+1,4,none⟩,⟨w.heap.size+1,5,none⟩] w'∧Below w.heap.size w w') PhiPt ((zi _ _).drew) (by kernel_rfl) ?_
 repeat (first|(refine Qu.walkL_any (by kernel_rfl) fun K bl hK=>?_;apply Qu.oneL_det;(focus (intro w';go_simp;first|done|rfl));go_simp;refine hK _ ?_;clear hK K bl)|(refine Qu.walkL_step (by kernel_rfl) (b:=false) (by decide +kernel) fun K hK=>?_;refine Qu.oneL_early ?_;apply Qr.one_det;(focus (intro w' hw';have HK:=keep hkept hw';simp only[zc,ka,kb,zb,kfa,kga]at HK;go_simp;first|done|rfl));go_simp;refine hK _ ?_;clear hK K)|(refine Qu.walkL_step (by kernel_rfl) (b:=false) (by decide +kernel) fun K hK=>?_;refine Qu.oneL_early ?_;apply Qr.one_call;(focus (intro w' hw';go_simp;first|done|exact⟨rfl,rfl⟩));(focus (intro w' hw';go_at_call 212;refine (xm _ _ _ _).mono ?_;rintro _ w2⟨l1,u1,rfl,hr1,hb1⟩ ;exact⟨_,rfl,by constructor<;>assumption,za hw' ‹_›,by assumption⟩));intro v hv;cases hv;go_simp;refine hK _ ?_;clear hK K)|(refine Qu.walkL_step (by kernel_rfl) (b:=false) (by decide +kernel) fun K hK=>?_;refine Qu.oneL_early ?_;apply Qr.one_call;(focus (intro w' hw';go_simp;first|done|exact⟨rfl,rfl⟩));(focus (intro w' hw';go_at_call 213;refine (j5 _ _ _ _ _).mono ?_;rintro _ w2⟨l1,u1,rfl,hr1,hb1⟩ ;exact⟨_,rfl,by constructor<;>assumption,za hw' ‹_›,by assumption⟩));intro v hv;cases hv;go_simp;refine hK _ ?_;clear hK K)|(refine Qu.walkL_step (by kernel_rfl) (b:=false) (by decide +kernel) fun K hK=>?_;refine Qu.oneL_early ?_;apply Qr.one_call;(focus (intro w' hw';go_simp;first|done|exact⟨rfl,rfl⟩));(focus (intro w' hw';go_at_call 214;refine (vg _ _ _ _ _).mono ?_;rintro _ w2⟨l1,u1,rfl,hr1,hb1⟩ ;exact⟨_,rfl,by constructor<;>assumption,za hw' ‹_›,by assumption⟩));intro v hv;cases hv;go_simp;refine hK _ ?_;clear hK K))
 rename_i l1 u1 e1 l2 u2 e2 l3 u3 e3 l4 u4 e4 l5 u5 e5 l6 u6 e6
 have ht1:(cn .f32 l3,cn .f32 u3)=zb3 (cn .f32 r0) (cn .f32 y0,cn .f32 y1) (cn .f32 z0,cn .f32 z1):=by rw[e3,e1,e2,hsb,hsc,hr,xe];rfl
 have ht2:(cn .f32 l6,cn .f32 u6)=zdd (cn .f32 r0) (cn .f32 y0,cn .f32 y1) (cn .f32 z0,cn .f32 z1):=by rw[e6,e4,e5,hsb,hsc,hr,xe];rfl
 clear e1 e2 e3 e4 e5 e6 hsb hsc hr hw6
 refine Qu.walkL_store (by kernel_rfl) fun K hK=>?_
 refine⟨fun w' hw'=>?_,?_⟩
 ·have HK:=keep hkept hw'
  have hbb:=W7b.trans (hw'.mono W7b.size)
  simp only[zc,ka,kb,zb,kfa,kga]at HK
  go_simp
  refine⟨l3,u3,ht1,?_,(hbb.setCell (by show w.heap.size≤w.heap.size;omega) _).setCell (by show w.heap.size≤w.heap.size;omega) _⟩
  simp only[zc,ka,kb,zb,kfa,kga]
  simp[HK,zf,zh,yk]
 go_simp
 refine hK _ ?_
 clear hK K hkept
 refine Qu.walkL_nil fun w8 hw8=>?_
 obtain⟨l,u,hlu,hkept,W8b⟩:=hw8
 have hK:=hkept
 simp only[zc,ka,kb,zb,kfa,kga]at hK
 go_upto_region 21 with fail
 have W9b:=(W8b.setCell (p:=⟨w.heap.size,4,none⟩) (Nat.le_refl _) (F1 l6)).setCell (p:=⟨w.heap.size,5,none⟩) (Nat.le_refl _) (F1 u6)
 have hkept:zc [(⟨w.heap.size,0,none⟩,F1 x0),(⟨w.heap.size,1,none⟩,F1 x1),(⟨w.heap.size,2,none⟩,F1 l),(⟨w.heap.size,3,none⟩,F1 u),(⟨w.heap.size,4,none⟩,F1 l6),(⟨w.heap.size,5,none⟩,F1 u6),(⟨w.heap.size+1,0,none⟩,F1 0),(⟨w.heap.size+1,1,none⟩,F1 0),(⟨w.heap.size+1,2,none⟩,F1 0),(⟨w.heap.size+1,3,none⟩,F1 0),(⟨w.heap.size+1,4,none⟩,F1 0),(⟨w.heap.size+1,5,none⟩,F1 0)] [⟨w.heap.size+1,0,none⟩,⟨w.heap.size+1,1,none⟩,⟨w.heap.size+1,2,none⟩,⟨w.heap.size+1,3,none⟩,⟨w.heap.size+1,4,none⟩,⟨w.heap.size+1,5,none⟩] ((w8.setCell ⟨w.heap.size,4,none⟩ (F1 l6)).setCell ⟨w.heap.size,5,none⟩ (F1 u6)):=by simp only[zc,ka,kb,zb,kfa,kga];simp[hK,go_sem,zf,zh,yk]
 clear hK
 generalize ((w8.setCell ⟨w.heap.size,4,none⟩ (F1 l6)).setCell ⟨w.heap.size,5,none⟩ (F1 u6))=W9 at *
 have hK:=hkept;simp only[zc,ka,kb,zb,kfa,kga]at hK
 go_wp2_with fail
 exact bodyPost_ret (v:=Rg3 x0 x1 l u l6 u6) (by simp[results,Tryz.results134,go_sem,hK,zf,zh];first|done|exact⟨rfl,rfl,rfl,rfl,rfl,rfl⟩) rfl ⟨_,_,_,_,_,_,rfl,rfl,hlu,ht2,xr W9b (by omega) ..⟩

set_option maxRecDepth 100000 in
theorem zlg {b o bv ov cap r0 x0 x1 y0 y1 z0 z1:Nat} {bp:Option Addr} {w:World} (hN:zc [(⟨b,o,none⟩,.int .i64 12),(⟨b,o+2,none⟩,.int .i64 1),(⟨b,o+3,none⟩,.slice (some ⟨bv,ov,none⟩) 1 cap),(⟨bv,ov,none⟩,F1 r0)] [] w) :
  Calls Tryz.prog 134 #[.pointer (some ⟨b,o,none⟩),Rg3 x0 x1 y0 y1 z0 z1] w (vn (zdd (cn .f32 r0) (cn .f32 z0,cn .f32 z1) (cn .f32 x0,cn .f32 x1),(cn .f32 y0,cn .f32 y1),zb3 (cn .f32 r0) (cn .f32 z0,cn .f32 z1) (cn .f32 x0,cn .f32 x1)) w):=by
 have hK:=hN
 simp only[zc,ka,kb,zb,kfa,kga]at hK
 have hb:b<w.heap.size:=zg (a:=⟨b,o,none⟩) (by rw[hK.1];rfl)
 go_enter Tryz.func134,Tryz.ntmps134
 go_upto_region 1 with fail
 clear hK
 generalize hW:(w.alloc (.cells #[F1 x0,F1 x1,F1 y0,F1 y1,F1 z0,F1 z1] 197)).alloc (.cells #[F1 0,F1 0,F1 0,F1 0,F1 0,F1 0] 197)=W1 at *
 have W1b:Below w.heap.size w W1:=by subst hW;exact xa ..
 have hkept:=yt true true hW;simp only[zr,zq,zo,zv,Nat.reduceAdd]at hkept;clear hW
 have hkept:=ze (keep hN W1b) hkept
 clear hN
 have hK:=hkept;simp only[zc,ka,kb,zb,kfa,kga]at hK
 have hb1:b<W1.heap.size:=Nat.lt_of_lt_of_le hb W1b.size
 go_upto_region 2 with fail
 refine Qr.wp_below_all (by kernel_rfl) (by kernel_rfl) PhiPt ?_
 repeat (first|(refine Qr.walk_plain rfl fun K hK=>?_;refine zk _ _ _ _ _ rfl _ _ _ rfl rfl rfl (fun r hr=>?_);go_simp;refine hK _ ?_;clear hK K)|(refine Qr.walk_plain rfl fun K hK=>?_;apply Qr.one_det;(focus (intro w' hw';have HK:=keep hkept hw';simp only[zc,ka,kb,zb,kfa,kga]at HK;go_simp;first|done|rfl));go_simp;refine hK _ ?_;clear hK K))
 refine Qr.walk_nil fun w6 hw6=>?_
 have hkept:=keep hkept hw6
 have W6b:=za W1b hw6
 clear hK
 have hK:=hkept
 simp only[zc,ka,kb,zb,kfa,kga]at hK
 rw[show (IntKind.i64.wrap 2).tmod 3=2 by decide,show (IntKind.i64.wrap 3).tmod 3=0 by decide]
 go_upto_region 15 with fail
 refine Qr.wp_below_all (by kernel_rfl) (by kernel_rfl) PhiPt ?_
 repeat (refine Qr.walk_plain rfl fun K hK=>?_;(first|(refine zk _ _ _ _ _ rfl _ _ _ rfl rfl rfl (fun r hr=>?_))|(apply Qr.one_det;(focus (intro w' hw';have HK:=keep hkept hw';simp only[zc,ka,kb,zb,kfa,kga]at HK;go_simp;first|done|rfl)))|(apply Qr.one_call;(focus (intro w' hw';go_simp;first|done|exact⟨rfl,rfl⟩));(focus (intro w' hw';first|(go_at_call 211;refine (yh _ _).mono ?_;rintro _ w2⟨r1,rfl,hr1,hb1⟩;exact⟨_,rfl,by constructor<;>assumption,za hw' ‹_›,by assumption⟩)|((first|(go_at_call 212;refine (xm _ _ _ _).mono ?_)|(go_at_call 213;refine (j5 _ _ _ _ _).mono ?_)|(go_at_call 214;refine (vg _ _ _ _ _).mono ?_));rintro _ w2⟨l1,u1,rfl,hr1,hb1⟩;exact⟨_,rfl,by constructor<;>assumption,za hw' ‹_›,by assumption⟩)));intro v hv;cases hv));go_simp;refine hK _ ?_;clear hK K)
 rename_i sa hsa sb hsb sc hsc
 refine Qr.walk_nil fun w7 hw7=>?_
 have hkept:=keep hkept hw7
 have W7b:=za W6b hw7
 clear hK hw7
 have hK:=hkept
 simp only[zc,ka,kb,zb,kfa,kga]at hK
 go_upto_region 16 with fail
 clear hK
 refine Qu.wp_regionL 25 (by kernel_rfl) (by kernel_rfl) (fun w'=>Below w7.heap.size w7 w') (fun w'=>∃ l u,(cn .f32 l,cn .f32 u)=zb3 (cn .f32 r0) (cn .f32 z0,cn .f32 z1) (cn .f32 x0,cn .f32 x1)∧zc [(⟨w.heap.size,0,none⟩,F1 x0),(⟨w.heap.size,1,none⟩,F1 x1),(⟨w.heap.size,2,none⟩,F1 y0),(⟨w.heap.size,3,none⟩,F1 y1),(⟨w.heap.size,4,none⟩,F1 l),(⟨w.heap.size,5,none⟩,F1 u),(⟨w.heap.size+1,0,none⟩,F1 0),(⟨w.heap.size+1,1,none⟩,F1 0),(⟨w.heap.size+1,2,none⟩,F1 0),(⟨w.heap.size+1,3,none⟩,F1 0),(⟨w.heap.size+1,4,none⟩,F1 0),(⟨w.heap.size+1,5,none⟩,F1 0)] [⟨w.heap.size,0,none⟩,⟨w.heap.size,1,none⟩,⟨w.heap.size+1,0,none⟩,⟨w.heap.size+1,1,none⟩,⟨w.heap.size+1,2,none⟩,⟨w.heap.size+1,3,none⟩,⟨w.heap.size+1,4,none⟩,⟨w.heap.size+1,5,none⟩] w'∧Below w.heap.size w w') PhiPt ((zi _ _).drew) (by kernel_rfl) ?_
 repeat (first|(refine Qu.walkL_any (by kernel_rfl) fun K bl hK=>?_;apply Qu.oneL_det;(focus (intro w';go_simp;first|done|rfl));go_simp;refine hK _ ?_;clear hK K bl)|(refine Qu.walkL_step (by kernel_rfl) (b:=false) (by decide +kernel) fun K hK=>?_;refine Qu.oneL_early ?_;apply Qr.one_det;(focus (intro w' hw';have HK:=keep hkept hw';simp only[zc,ka,kb,zb,kfa,kga]at HK;go_simp;first|done|rfl));go_simp;refine hK _ ?_;clear hK K)|(refine Qu.walkL_step (by kernel_rfl) (b:=false) (by decide +kernel) fun K hK=>?_;refine Qu.oneL_early ?_;apply Qr.one_call;(focus (intro w' hw';go_simp;first|done|exact⟨rfl,rfl⟩));(focus (intro w' hw';go_at_call 212;refine (xm _ _ _ _).mono ?_;rintro _ w2⟨l1,u1,rfl,hr1,hb1⟩ ;exact⟨_,rfl,by constructor<;>assumption,za hw' ‹_›,by assumption⟩));intro v hv;cases hv;go_simp;refine hK _ ?_;clear hK K)|(refine Qu.walkL_step (by kernel_rfl) (b:=false) (by decide +kernel) fun K hK=>?_;refine Qu.oneL_early ?_;apply Qr.one_call;(focus (intro w' hw';go_simp;first|done|exact⟨rfl,rfl⟩));(focus (intro w' hw';go_at_call 213;refine (j5 _ _ _ _ _).mono ?_;rintro _ w2⟨l1,u1,rfl,hr1,hb1⟩ ;exact⟨_,rfl,by constructor<;>assumption,za hw' ‹_›,by assumption⟩));intro v hv;cases hv;go_simp;refine hK _ ?_;clear hK K)|(refine Qu.walkL_step (by kernel_rfl) (b:=false) (by decide +kernel) fun K hK=>?_;refine Qu.oneL_early ?_;apply Qr.one_call;(focus (intro w' hw';go_simp;first|done|exact⟨rfl,rfl⟩));(focus (intro w' hw';go_at_call 214;refine (vg _ _ _ _ _).mono ?_;rintro _ w2⟨l1,u1,rfl,hr1,hb1⟩ ;exact⟨_,rfl,by constructor<;>assumption,za hw' ‹_›,by assumption⟩));intro v hv;cases hv;go_simp;refine hK _ ?_;clear hK K))
 rename_i l1 u1 e1 l2 u2 e2 l3 u3 e3 l4 u4 e4 l5 u5 e5 l6 u6 e6
 have ht1:(cn .f32 l3,cn .f32 u3)=zb3 (cn .f32 r0) (cn .f32 z0,cn .f32 z1) (cn .f32 x0,cn .f32 x1):=by rw[e3,e1,e2,hsb,hsc,hr,xe];rfl
 have ht2:(cn .f32 l6,cn .f32 u6)=zdd (cn .f32 r0) (cn .f32 z0,cn .f32 z1) (cn .f32 x0,cn .f32 x1):=by rw[e6,e4,e5,hsb,hsc,hr,xe];rfl
 clear e1 e2 e3 e4 e5 e6 hsb hsc hr hw6
 refine Qu.walkL_store (by kernel_rfl) fun K hK=>?_
 refine⟨fun w' hw'=>?_,?_⟩
 ·have HK:=keep hkept hw'
  have hbb:=W7b.trans (hw'.mono W7b.size)
  simp only[zc,ka,kb,zb,kfa,kga]at HK
  go_simp
  refine⟨l3,u3,ht1,?_,(hbb.setCell (by show w.heap.size≤w.heap.size;omega) _).setCell (by show w.heap.size≤w.heap.size;omega) _⟩
  simp only[zc,ka,kb,zb,kfa,kga]
  simp[HK,zf,zh,yk]
 go_simp
 refine hK _ ?_
 clear hK K hkept
 refine Qu.walkL_nil fun w8 hw8=>?_
 obtain⟨l,u,hlu,hkept,W8b⟩:=hw8
 have hK:=hkept
 simp only[zc,ka,kb,zb,kfa,kga]at hK
 go_upto_region 21 with fail
 have W9b:=(W8b.setCell (p:=⟨w.heap.size,0,none⟩) (Nat.le_refl _) (F1 l6)).setCell (p:=⟨w.heap.size,1,none⟩) (Nat.le_refl _) (F1 u6)
 have hkept:zc [(⟨w.heap.size,0,none⟩,F1 l6),(⟨w.heap.size,1,none⟩,F1 u6),(⟨w.heap.size,2,none⟩,F1 y0),(⟨w.heap.size,3,none⟩,F1 y1),(⟨w.heap.size,4,none⟩,F1 l),(⟨w.heap.size,5,none⟩,F1 u),(⟨w.heap.size+1,0,none⟩,F1 0),(⟨w.heap.size+1,1,none⟩,F1 0),(⟨w.heap.size+1,2,none⟩,F1 0),(⟨w.heap.size+1,3,none⟩,F1 0),(⟨w.heap.size+1,4,none⟩,F1 0),(⟨w.heap.size+1,5,none⟩,F1 0)] [⟨w.heap.size+1,0,none⟩,⟨w.heap.size+1,1,none⟩,⟨w.heap.size+1,2,none⟩,⟨w.heap.size+1,3,none⟩,⟨w.heap.size+1,4,none⟩,⟨w.heap.size+1,5,none⟩] ((w8.setCell ⟨w.heap.size,0,none⟩ (F1 l6)).setCell ⟨w.heap.size,1,none⟩ (F1 u6)):=by simp only[zc,ka,kb,zb,kfa,kga];simp[hK,go_sem,zf,zh,yk]
 clear hK
 generalize ((w8.setCell ⟨w.heap.size,0,none⟩ (F1 l6)).setCell ⟨w.heap.size,1,none⟩ (F1 u6))=W9 at *
 have hK:=hkept;simp only[zc,ka,kb,zb,kfa,kga]at hK
 go_wp2_with fail
 exact bodyPost_ret (v:=Rg3 l6 u6 y0 y1 l u) (by simp[results,Tryz.results134,go_sem,hK,zf,zh];first|done|exact⟨rfl,rfl,rfl,rfl,rfl,rfl⟩) rfl ⟨_,_,_,_,_,_,rfl,ht2,rfl,hlu,xr W9b (by omega) ..⟩

set_option maxRecDepth 100000 in
theorem zno {b o bv ov cap r0 x0 x1 y0 y1 z0 z1:Nat} {bp:Option Addr} {w:World} (hN:zc [(⟨b,o,none⟩,.int .i64 12),(⟨b,o+2,none⟩,.int .i64 2),(⟨b,o+3,none⟩,.slice (some ⟨bv,ov,none⟩) 1 cap),(⟨bv,ov,none⟩,F1 r0)] [] w) :
  Calls Tryz.prog 134 #[.pointer (some ⟨b,o,none⟩),Rg3 x0 x1 y0 y1 z0 z1] w (vn (zb3 (cn .f32 r0) (cn .f32 x0,cn .f32 x1) (cn .f32 y0,cn .f32 y1),zdd (cn .f32 r0) (cn .f32 x0,cn .f32 x1) (cn .f32 y0,cn .f32 y1),(cn .f32 z0,cn .f32 z1)) w):=by
 have hK:=hN
 simp only[zc,ka,kb,zb,kfa,kga]at hK
 have hb:b<w.heap.size:=zg (a:=⟨b,o,none⟩) (by rw[hK.1];rfl)
 go_enter Tryz.func134,Tryz.ntmps134
 go_upto_region 1 with fail
 clear hK
 generalize hW:(w.alloc (.cells #[F1 x0,F1 x1,F1 y0,F1 y1,F1 z0,F1 z1] 197)).alloc (.cells #[F1 0,F1 0,F1 0,F1 0,F1 0,F1 0] 197)=W1 at *
 have W1b:Below w.heap.size w W1:=by subst hW;exact xa ..
 have hkept:=yt true true hW;simp only[zr,zq,zo,zv,Nat.reduceAdd]at hkept;clear hW
 have hkept:=ze (keep hN W1b) hkept
 clear hN
 have hK:=hkept;simp only[zc,ka,kb,zb,kfa,kga]at hK
 have hb1:b<W1.heap.size:=Nat.lt_of_lt_of_le hb W1b.size
 go_upto_region 2 with fail
 refine Qr.wp_below_all (by kernel_rfl) (by kernel_rfl) PhiPt ?_
 repeat (first|(refine Qr.walk_plain rfl fun K hK=>?_;refine zk _ _ _ _ _ rfl _ _ _ rfl rfl rfl (fun r hr=>?_);go_simp;refine hK _ ?_;clear hK K)|(refine Qr.walk_plain rfl fun K hK=>?_;apply Qr.one_det;(focus (intro w' hw';have HK:=keep hkept hw';simp only[zc,ka,kb,zb,kfa,kga]at HK;go_simp;first|done|rfl));go_simp;refine hK _ ?_;clear hK K))
 refine Qr.walk_nil fun w6 hw6=>?_
 have hkept:=keep hkept hw6
 have W6b:=za W1b hw6
 clear hK
 have hK:=hkept
 simp only[zc,ka,kb,zb,kfa,kga]at hK
 rw[show (IntKind.i64.wrap 3).tmod 3=0 by decide,show (IntKind.i64.wrap 4).tmod 3=1 by decide]
 go_upto_region 15 with fail
 refine Qr.wp_below_all (by kernel_rfl) (by kernel_rfl) PhiPt ?_
 repeat (refine Qr.walk_plain rfl fun K hK=>?_;(first|(refine zk _ _ _ _ _ rfl _ _ _ rfl rfl rfl (fun r hr=>?_))|(apply Qr.one_det;(focus (intro w' hw';have HK:=keep hkept hw';simp only[zc,ka,kb,zb,kfa,kga]at HK;go_simp;first|done|rfl)))|(apply Qr.one_call;(focus (intro w' hw';go_simp;first|done|exact⟨rfl,rfl⟩));(focus (intro w' hw';first|(go_at_call 211;refine (yh _ _).mono ?_;rintro _ w2⟨r1,rfl,hr1,hb1⟩;exact⟨_,rfl,by constructor<;>assumption,za hw' ‹_›,by assumption⟩)|((first|(go_at_call 212;refine (xm _ _ _ _).mono ?_)|(go_at_call 213;refine (j5 _ _ _ _ _).mono ?_)|(go_at_call 214;refine (vg _ _ _ _ _).mono ?_));rintro _ w2⟨l1,u1,rfl,hr1,hb1⟩;exact⟨_,rfl,by constructor<;>assumption,za hw' ‹_›,by assumption⟩)));intro v hv;cases hv));go_simp;refine hK _ ?_;clear hK K)
 rename_i sa hsa sb hsb sc hsc
 refine Qr.walk_nil fun w7 hw7=>?_
 have hkept:=keep hkept hw7
 have W7b:=za W6b hw7
 clear hK hw7
 have hK:=hkept
 simp only[zc,ka,kb,zb,kfa,kga]at hK
 go_upto_region 16 with fail
 clear hK
 refine Qu.wp_regionL 25 (by kernel_rfl) (by kernel_rfl) (fun w'=>Below w7.heap.size w7 w') (fun w'=>∃ l u,(cn .f32 l,cn .f32 u)=zb3 (cn .f32 r0) (cn .f32 x0,cn .f32 x1) (cn .f32 y0,cn .f32 y1)∧zc [(⟨w.heap.size,0,none⟩,F1 l),(⟨w.heap.size,1,none⟩,F1 u),(⟨w.heap.size,2,none⟩,F1 y0),(⟨w.heap.size,3,none⟩,F1 y1),(⟨w.heap.size,4,none⟩,F1 z0),(⟨w.heap.size,5,none⟩,F1 z1),(⟨w.heap.size+1,0,none⟩,F1 0),(⟨w.heap.size+1,1,none⟩,F1 0),(⟨w.heap.size+1,2,none⟩,F1 0),(⟨w.heap.size+1,3,none⟩,F1 0),(⟨w.heap.size+1,4,none⟩,F1 0),(⟨w.heap.size+1,5,none⟩,F1 0)] [⟨w.heap.size,2,none⟩,⟨w.heap.size,3,none⟩,⟨w.heap.size+1,0,none⟩,⟨w.heap.size+1,1,none⟩,⟨w.heap.size+1,2,none⟩,⟨w.heap.size+1,3,none⟩,⟨w.heap.size+1,4,none⟩,⟨w.heap.size+1,5,none⟩] w'∧Below w.heap.size w w') PhiPt ((zi _ _).drew) (by kernel_rfl) ?_
 repeat (first|(refine Qu.walkL_any (by kernel_rfl) fun K bl hK=>?_;apply Qu.oneL_det;(focus (intro w';go_simp;first|done|rfl));go_simp;refine hK _ ?_;clear hK K bl)|(refine Qu.walkL_step (by kernel_rfl) (b:=false) (by decide +kernel) fun K hK=>?_;refine Qu.oneL_early ?_;apply Qr.one_det;(focus (intro w' hw';have HK:=keep hkept hw';simp only[zc,ka,kb,zb,kfa,kga]at HK;go_simp;first|done|rfl));go_simp;refine hK _ ?_;clear hK K)|(refine Qu.walkL_step (by kernel_rfl) (b:=false) (by decide +kernel) fun K hK=>?_;refine Qu.oneL_early ?_;apply Qr.one_call;(focus (intro w' hw';go_simp;first|done|exact⟨rfl,rfl⟩));(focus (intro w' hw';go_at_call 212;refine (xm _ _ _ _).mono ?_;rintro _ w2⟨l1,u1,rfl,hr1,hb1⟩ ;exact⟨_,rfl,by constructor<;>assumption,za hw' ‹_›,by assumption⟩));intro v hv;cases hv;go_simp;refine hK _ ?_;clear hK K)|(refine Qu.walkL_step (by kernel_rfl) (b:=false) (by decide +kernel) fun K hK=>?_;refine Qu.oneL_early ?_;apply Qr.one_call;(focus (intro w' hw';go_simp;first|done|exact⟨rfl,rfl⟩));(focus (intro w' hw';go_at_call 213;refine (j5 _ _ _ _ _).mono ?_;rintro _ w2⟨l1,u1,rfl,hr1,hb1⟩ ;exact⟨_,rfl,by constructor<;>assumption,za hw' ‹_›,by assumption⟩));intro v hv;cases hv;go_simp;refine hK _ ?_;clear hK K)|(refine Qu.walkL_step (by kernel_rfl) (b:=false) (by decide +kernel) fun K hK=>?_;refine Qu.oneL_early ?_;apply Qr.one_call;(focus (intro w' hw';go_simp;first|done|exact⟨rfl,rfl⟩));(focus (intro w' hw';go_at_call 214;refine (vg _ _ _ _ _).mono ?_;rintro _ w2⟨l1,u1,rfl,hr1,hb1⟩ ;exact⟨_,rfl,by constructor<;>assumption,za hw' ‹_›,by assumption⟩));intro v hv;cases hv;go_simp;refine hK _ ?_;clear hK K))
 rename_i l1 u1 e1 l2 u2 e2 l3 u3 e3 l4 u4 e4 l5 u5 e5 l6 u6 e6
 have ht1:(cn .f32 l3,cn .f32 u3)=zb3 (cn .f32 r0) (cn .f32 x0,cn .f32 x1) (cn .f32 y0,cn .f32 y1):=by rw[e3,e1,e2,hsb,hsc,hr,xe];rfl
 have ht2:(cn .f32 l6,cn .f32 u6)=zdd (cn .f32 r0) (cn .f32 x0,cn .f32 x1) (cn .f32 y0,cn .f32 y1):=by rw[e6,e4,e5,hsb,hsc,hr,xe];rfl
 clear e1 e2 e3 e4 e5 e6 hsb hsc hr hw6
 refine Qu.walkL_store (by kernel_rfl) fun K hK=>?_
 refine⟨fun w' hw'=>?_,?_⟩
 ·have HK:=keep hkept hw'
  have hbb:=W7b.trans (hw'.mono W7b.size)
  simp only[zc,ka,kb,zb,kfa,kga]at HK
  go_simp
  refine⟨l3,u3,ht1,?_,(hbb.setCell (by show w.heap.size≤w.heap.size;omega) _).setCell (by show w.heap.size≤w.heap.size;omega) _⟩
  simp only[zc,ka,kb,zb,kfa,kga]
  simp[HK,zf,zh,yk]
 go_simp
 refine hK _ ?_
 clear hK K hkept
 refine Qu.walkL_nil fun w8 hw8=>?_
 obtain⟨l,u,hlu,hkept,W8b⟩:=hw8
 have hK:=hkept
 simp only[zc,ka,kb,zb,kfa,kga]at hK
 go_upto_region 21 with fail
 have W9b:=(W8b.setCell (p:=⟨w.heap.size,2,none⟩) (Nat.le_refl _) (F1 l6)).setCell (p:=⟨w.heap.size,3,none⟩) (Nat.le_refl _) (F1 u6)
 have hkept:zc [(⟨w.heap.size,0,none⟩,F1 l),(⟨w.heap.size,1,none⟩,F1 u),(⟨w.heap.size,2,none⟩,F1 l6),(⟨w.heap.size,3,none⟩,F1 u6),(⟨w.heap.size,4,none⟩,F1 z0),(⟨w.heap.size,5,none⟩,F1 z1),(⟨w.heap.size+1,0,none⟩,F1 0),(⟨w.heap.size+1,1,none⟩,F1 0),(⟨w.heap.size+1,2,none⟩,F1 0),(⟨w.heap.size+1,3,none⟩,F1 0),(⟨w.heap.size+1,4,none⟩,F1 0),(⟨w.heap.size+1,5,none⟩,F1 0)] [⟨w.heap.size+1,0,none⟩,⟨w.heap.size+1,1,none⟩,⟨w.heap.size+1,2,none⟩,⟨w.heap.size+1,3,none⟩,⟨w.heap.size+1,4,none⟩,⟨w.heap.size+1,5,none⟩] ((w8.setCell ⟨w.heap.size,2,none⟩ (F1 l6)).setCell ⟨w.heap.size,3,none⟩ (F1 u6)):=by simp only[zc,ka,kb,zb,kfa,kga];simp[hK,go_sem,zf,zh,yk]
 clear hK
 generalize ((w8.setCell ⟨w.heap.size,2,none⟩ (F1 l6)).setCell ⟨w.heap.size,3,none⟩ (F1 u6))=W9 at *
 have hK:=hkept;simp only[zc,ka,kb,zb,kfa,kga]at hK
 go_wp2_with fail
 exact bodyPost_ret (v:=Rg3 l u l6 u6 z0 z1) (by simp[results,Tryz.results134,go_sem,hK,zf,zh];first|done|exact⟨rfl,rfl,rfl,rfl,rfl,rfl⟩) rfl ⟨_,_,_,_,_,_,rfl,hlu,ht2,rfl,xr W9b (by omega) ..⟩

end Go.Proofs.YtbiacfkiakddiaaGreat
