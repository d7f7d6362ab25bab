/-
 Lemmas: V8,V5.
-/
import Derived.Test.YtbiacfkiakddiaaGreatXbe
set_option linter.unusedVariables false
set_option linter.unusedSimpArgs false
set_option maxHeartbeats 2000000
namespace Go.Proofs.YtbiacfkiakddiaaGreat
open Go.RowKit Go.Fl
inductive PhiMr:FuncId→Array Value→Value→Prop
 | lesser (a b r:Nat) (h:cn .f32 r=yo (cn .f32 a) (cn .f32 b)):PhiMr 221 #[F1 a,F1 b] (F1 r)
 | greater (a b r:Nat) (h:cn .f32 r=z7 (cn .f32 a) (cn .f32 b)):PhiMr 222 #[F1 a,F1 b] (F1 r)
 | sizer (a b l h:Nat) (e:(cn .f32 l,cn .f32 h)=yz (cn .f32 a,cn .f32 b)):PhiMr 215 #[RgV a b] (RgV l h)
 | times (a b v l h:Nat) (e:(cn .f32 l,cn .f32 h)=xw (cn .f32 a,cn .f32 b) (cn .f32 v)):PhiMr 212 #[RgV a b,F1 v] (RgV l h)
 | down (a b v l h:Nat) (e:(cn .f32 l,cn .f32 h)=uf (cn .f32 a,cn .f32 b) (cn .f32 v)):PhiMr 208 #[RgV a b,F1 v] (RgV l h)
 | less (a b c d l h:Nat) (e:(cn .f32 l,cn .f32 h)=jm (cn .f32 a,cn .f32 b) (cn .f32 c,cn .f32 d)):PhiMr 214 #[RgV a b,RgV c d] (RgV l h)
 | apart (a b c d l h:Nat) (e:(cn .f32 l,cn .f32 h)=yz (jm (cn .f32 a,cn .f32 b) (cn .f32 c,cn .f32 d))):PhiMr 156 #[RgV a b,RgV c d] (RgV l h)


set_option maxRecDepth 100000 in
theorem zn8 {b o x0 x1 y0 y1:Nat} {w:World} (hN:zc [(⟨b,o,none⟩,.int .i64 5)] [] w) :
  Calls Tryz.prog 136 #[.pointer (some ⟨b,o,none⟩),RgV x0 x1,RgV y0 y1] w (x6 (yo (cn .f32 x0) (cn .f32 y0),yo (cn .f32 x1) (cn .f32 y1)) w):=by
 have hK:=hN
 simp only[zc,ka,kb,zb,kfa,kga]at hK
 have hb:b<w.heap.size:=zg (a:=⟨b,o,none⟩) (by rw[hK];rfl)
 go_enter Tryz.func136,Tryz.ntmps136
 go_upto_region 1 with fail
 clear hK
 generalize hW:((w.alloc (.cells #[F1 x0,F1 x1] 118)).alloc (.cells #[F1 y0,F1 y1] 118)).alloc (.cells #[F1 0,F1 0] 118)=W1 at *
 have W1b:Below w.heap.size w W1:=by subst hW;exact vc ..
 have hkept:=xg false false true hW;simp only[zr,zq,zo,zv,Nat.reduceAdd]at hkept;clear hW
 have hkept:=ze (keep hN W1b) hkept
 clear hN
 have hK:=hkept;simp only[zc,ka,kb,zb,kfa,kga]at hK
 have hb1:b<W1.heap.size:=Nat.lt_of_lt_of_le hb W1b.size
 go_upto_region 3 with fail
 refine Qr.wp_below 11 (by kernel_rfl) (by kernel_rfl) PhiMr ?_
 repeat (refine Qr.walk_plain rfl fun K hK=>?_;(first|(refine zk _ _ _ _ _ rfl _ _ _ rfl rfl rfl (fun r hr=>?_))|(apply Qr.one_det;(focus (intro w' hw';have HK:=keep hkept hw';simp only[zc,ka,kb,zb,kfa,kga]at HK;go_simp;first|done|rfl)))|(apply Qr.one_call;(focus (intro w' hw';go_simp;first|done|exact⟨rfl,rfl⟩));(focus (intro w' hw';first|((first|(go_at_call 221;refine (yw _ _ _).mono ?_)|(go_at_call 222;refine (ym _ _ _).mono ?_));rintro _ w2⟨r1,rfl,hr1,hb1⟩;exact⟨_,rfl,by constructor<;>assumption,za hw' ‹_›,by assumption⟩)|((first|(go_at_call 215;refine (xq _ _ _).mono ?_)|(go_at_call 212;refine (xm _ _ _ _).mono ?_)|(go_at_call 208;refine (ux _ _ _ _).mono ?_)|(go_at_call 214;refine (vg _ _ _ _ _).mono ?_)|(go_at_call 156;refine (qh _ _ _ _ _).mono ?_));rintro _ w2⟨l1,u1,rfl,hr1,hb1⟩;exact⟨_,rfl,by constructor<;>assumption,za hw' ‹_›,by assumption⟩)));intro v hv;cases hv));go_simp;refine hK _ ?_;clear hK K)
 rename_i r1 h1 r2 h2
 refine Qr.walk_nil fun w6 hw6=>?_
 have hkept:=keep hkept hw6
 have W6b:=za W1b hw6
 clear hK
 have hK:=hkept
 simp only[zc,ka,kb,zb,kfa,kga]at hK
 go_wp2_with fail
 exact bodyPost_ret (v:=RgV r1 r2) (by simp[results,Tryz.results136,go_sem,hK,zf,zh];first|done|exact⟨rfl,rfl⟩) rfl ⟨_,_,rfl,pr h1 h2,y4 W6b (by omega) ..⟩

set_option maxRecDepth 100000 in
theorem zt2 {b o x0 x1 y0 y1:Nat} {w:World} (hN:zc [(⟨b,o,none⟩,.int .i64 6)] [] w) :
  Calls Tryz.prog 136 #[.pointer (some ⟨b,o,none⟩),RgV x0 x1,RgV y0 y1] w (x6 (z7 (cn .f32 x0) (cn .f32 y0),z7 (cn .f32 x1) (cn .f32 y1)) w):=by
 have hK:=hN
 simp only[zc,ka,kb,zb,kfa,kga]at hK
 have hb:b<w.heap.size:=zg (a:=⟨b,o,none⟩) (by rw[hK];rfl)
 go_enter Tryz.func136,Tryz.ntmps136
 go_upto_region 1 with fail
 clear hK
 generalize hW:((w.alloc (.cells #[F1 x0,F1 x1] 118)).alloc (.cells #[F1 y0,F1 y1] 118)).alloc (.cells #[F1 0,F1 0] 118)=W1 at *
 have W1b:Below w.heap.size w W1:=by subst hW;exact vc ..
 have hkept:=xg false false true hW;simp only[zr,zq,zo,zv,Nat.reduceAdd]at hkept;clear hW
 have hkept:=ze (keep hN W1b) hkept
 clear hN
 have hK:=hkept;simp only[zc,ka,kb,zb,kfa,kga]at hK
 have hb1:b<W1.heap.size:=Nat.lt_of_lt_of_le hb W1b.size
 go_upto_region 5 with fail
 refine Qr.wp_below 11 (by kernel_rfl) (by kernel_rfl) PhiMr ?_
 repeat (refine Qr.walk_plain rfl fun K hK=>?_;(first|(refine zk _ _ _ _ _ rfl _ _ _ rfl rfl rfl (fun r hr=>?_))|(apply Qr.one_det;(focus (intro w' hw';have HK:=keep hkept hw';simp only[zc,ka,kb,zb,kfa,kga]at HK;go_simp;first|done|rfl)))|(apply Qr.one_call;(focus (intro w' hw';go_simp;first|done|exact⟨rfl,rfl⟩));(focus (intro w' hw';first|((first|(go_at_call 221;refine (yw _ _ _).mono ?_)|(go_at_call 222;refine (ym _ _ _).mono ?_));rintro _ w2⟨r1,rfl,hr1,hb1⟩;exact⟨_,rfl,by constructor<;>assumption,za hw' ‹_›,by assumption⟩)|((first|(go_at_call 215;refine (xq _ _ _).mono ?_)|(go_at_call 212;refine (xm _ _ _ _).mono ?_)|(go_at_call 208;refine (ux _ _ _ _).mono ?_)|(go_at_call 214;refine (vg _ _ _ _ _).mono ?_)|(go_at_call 156;refine (qh _ _ _ _ _).mono ?_));rintro _ w2⟨l1,u1,rfl,hr1,hb1⟩;exact⟨_,rfl,by constructor<;>assumption,za hw' ‹_›,by assumption⟩)));intro v hv;cases hv));go_simp;refine hK _ ?_;clear hK K)
 rename_i r1 h1 r2 h2
 refine Qr.walk_nil fun w6 hw6=>?_
 have hkept:=keep hkept hw6
 have W6b:=za W1b hw6
 clear hK
 have hK:=hkept
 simp only[zc,ka,kb,zb,kfa,kga]at hK
 go_wp2_with fail
 exact bodyPost_ret (v:=RgV r1 r2) (by simp[results,Tryz.results136,go_sem,hK,zf,zh];first|done|exact⟨rfl,rfl⟩) rfl ⟨_,_,rfl,pr h1 h2,y4 W6b (by omega) ..⟩

set_option maxRecDepth 100000 in
theorem zr4 {b o x0 x1 y0 y1:Nat} {w:World} (hN:zc [(⟨b,o,none⟩,.int .i64 7)] [] w) :
  Calls Tryz.prog 136 #[.pointer (some ⟨b,o,none⟩),RgV x0 x1,RgV y0 y1] w (x6 (z7 (cn .f32 x0) (un .f32 (cn .f32 y1)),z7 (cn .f32 x1) (un .f32 (cn .f32 y0))) w):=by
 have hK:=hN
 simp only[zc,ka,kb,zb,kfa,kga]at hK
 have hb:b<w.heap.size:=zg (a:=⟨b,o,none⟩) (by rw[hK];rfl)
 go_enter Tryz.func136,Tryz.ntmps136
 go_upto_region 1 with fail
 clear hK
 generalize hW:((w.alloc (.cells #[F1 x0,F1 x1] 118)).alloc (.cells #[F1 y0,F1 y1] 118)).alloc (.cells #[F1 0,F1 0] 118)=W1 at *
 have W1b:Below w.heap.size w W1:=by subst hW;exact vc ..
 have hkept:=xg false false true hW;simp only[zr,zq,zo,zv,Nat.reduceAdd]at hkept;clear hW
 have hkept:=ze (keep hN W1b) hkept
 clear hN
 have hK:=hkept;simp only[zc,ka,kb,zb,kfa,kga]at hK
 have hb1:b<W1.heap.size:=Nat.lt_of_lt_of_le hb W1b.size
 go_upto_region 7 with fail
 refine Qr.wp_below 13 (by kernel_rfl) (by kernel_rfl) PhiMr ?_
 repeat (refine Qr.walk_plain rfl fun K hK=>?_;(first|(refine zk _ _ _ _ _ rfl _ _ _ rfl rfl rfl (fun r hr=>?_))|(apply Qr.one_det;(focus (intro w' hw';have HK:=keep hkept hw';simp only[zc,ka,kb,zb,kfa,kga]at HK;go_simp;first|done|rfl)))|(apply Qr.one_call;(focus (intro w' hw';go_simp;first|done|exact⟨rfl,rfl⟩));(focus (intro w' hw';first|((first|(go_at_call 221;refine (yw _ _ _).mono ?_)|(go_at_call 222;refine (ym _ _ _).mono ?_));rintro _ w2⟨r1,rfl,hr1,hb1⟩;exact⟨_,rfl,by constructor<;>assumption,za hw' ‹_›,by assumption⟩)|((first|(go_at_call 215;refine (xq _ _ _).mono ?_)|(go_at_call 212;refine (xm _ _ _ _).mono ?_)|(go_at_call 208;refine (ux _ _ _ _).mono ?_)|(go_at_call 214;refine (vg _ _ _ _ _).mono ?_)|(go_at_call 156;refine (qh _ _ _ _ _).mono ?_));rintro _ w2⟨l1,u1,rfl,hr1,hb1⟩;exact⟨_,rfl,by constructor<;>assumption,za hw' ‹_›,by assumption⟩)));intro v hv;cases hv));go_simp;refine hK _ ?_;clear hK K)
 rename_i r1 h1 r2 h2
 refine Qr.walk_nil fun w6 hw6=>?_
 have hkept:=keep hkept hw6
 have W6b:=za W1b hw6
 clear hK
 have hK:=hkept
 simp only[zc,ka,kb,zb,kfa,kga]at hK
 go_wp2_with fail
 exact bodyPost_ret (v:=RgV r1 r2) (by simp[results,Tryz.results136,go_sem,hK,zf,zh];first|done|exact⟨rfl,rfl⟩) rfl ⟨_,_,rfl,by rw[h1,h2,xo,xo],y4 W6b (by omega) ..⟩

set_option maxRecDepth 100000 in
theorem zpl {b o bv ov cap k x0 x1 y0 y1:Nat} {w:World} (hN:zc [(⟨b,o,none⟩,.int .i64 10),(⟨b,o+3,none⟩,.slice (some ⟨bv,ov,none⟩) 1 cap),(⟨bv,ov,none⟩,F1 k)] [] w) :
  Calls Tryz.prog 136 #[.pointer (some ⟨b,o,none⟩),RgV x0 x1,RgV y0 y1] w (x6 (xw (cn .f32 x0,cn .f32 x1) (cn .f32 k)) w):=by
 have hK:=hN
 simp only[zc,ka,kb,zb,kfa,kga]at hK
 have hb:b<w.heap.size:=zg (a:=⟨b,o,none⟩) (by rw[hK.1];rfl)
 go_enter Tryz.func136,Tryz.ntmps136
 go_upto_region 1 with fail
 clear hK
 generalize hW:((w.alloc (.cells #[F1 x0,F1 x1] 118)).alloc (.cells #[F1 y0,F1 y1] 118)).alloc (.cells #[F1 0,F1 0] 118)=W1 at *
 have W1b:Below w.heap.size w W1:=by subst hW;exact vc ..
 have hkept:=xg false false true hW;simp only[zr,zq,zo,zv,Nat.reduceAdd]at hkept;clear hW
 have hkept:=ze (keep hN W1b) hkept
 clear hN
 have hK:=hkept;simp only[zc,ka,kb,zb,kfa,kga]at hK
 have hb1:b<W1.heap.size:=Nat.lt_of_lt_of_le hb W1b.size
 go_upto_region 13 with fail
 refine Qr.wp_below 8 (by kernel_rfl) (by kernel_rfl) PhiMr ?_
 repeat (refine Qr.walk_plain rfl fun K hK=>?_;(first|(refine zk _ _ _ _ _ rfl _ _ _ rfl rfl rfl (fun r hr=>?_))|(apply Qr.one_det;(focus (intro w' hw';have HK:=keep hkept hw';simp only[zc,ka,kb,zb,kfa,kga]at HK;go_simp;first|done|rfl)))|(apply Qr.one_call;(focus (intro w' hw';go_simp;first|done|exact⟨rfl,rfl⟩));(focus (intro w' hw';first|((first|(go_at_call 221;refine (yw _ _ _).mono ?_)|(go_at_call 222;refine (ym _ _ _).mono ?_));rintro _ w2⟨r1,rfl,hr1,hb1⟩;exact⟨_,rfl,by constructor<;>assumption,za hw' ‹_›,by assumption⟩)|((first|(go_at_call 215;refine (xq _ _ _).mono ?_)|(go_at_call 212;refine (xm _ _ _ _).mono ?_)|(go_at_call 208;refine (ux _ _ _ _).mono ?_)|(go_at_call 214;refine (vg _ _ _ _ _).mono ?_)|(go_at_call 156;refine (qh _ _ _ _ _).mono ?_));rintro _ w2⟨l1,u1,rfl,hr1,hb1⟩;exact⟨_,rfl,by constructor<;>assumption,za hw' ‹_›,by assumption⟩)));intro v hv;cases hv));go_simp;refine hK _ ?_;clear hK K)
 rename_i r1 r2 h1
 refine Qr.walk_nil fun w6 hw6=>?_
 have hkept:=keep hkept hw6
 have W6b:=za W1b hw6
 clear hK
 have hK:=hkept
 simp only[zc,ka,kb,zb,kfa,kga]at hK
 go_wp2_with fail
 exact bodyPost_ret (v:=RgV r1 r2) (by simp[results,Tryz.results136,go_sem,hK,zf,zh];first|done|exact⟨rfl,rfl⟩) rfl ⟨_,_,rfl,h1,y4 W6b (by omega) ..⟩

set_option maxRecDepth 100000 in
theorem zoe {b o bv ov cap k x0 x1 y0 y1:Nat} {w:World} (hN:zc [(⟨b,o,none⟩,.int .i64 15),(⟨b,o+3,none⟩,.slice (some ⟨bv,ov,none⟩) 1 cap),(⟨bv,ov,none⟩,F1 k)] [] w) :
  Calls Tryz.prog 136 #[.pointer (some ⟨b,o,none⟩),RgV x0 x1,RgV y0 y1] w (x6 (uf (cn .f32 x0,cn .f32 x1) (cn .f32 k)) w):=by
 have hK:=hN
 simp only[zc,ka,kb,zb,kfa,kga]at hK
 have hb:b<w.heap.size:=zg (a:=⟨b,o,none⟩) (by rw[hK.1];rfl)
 go_enter Tryz.func136,Tryz.ntmps136
 go_upto_region 1 with fail
 clear hK
 generalize hW:((w.alloc (.cells #[F1 x0,F1 x1] 118)).alloc (.cells #[F1 y0,F1 y1] 118)).alloc (.cells #[F1 0,F1 0] 118)=W1 at *
 have W1b:Below w.heap.size w W1:=by subst hW;exact vc ..
 have hkept:=xg false false true hW;simp only[zr,zq,zo,zv,Nat.reduceAdd]at hkept;clear hW
 have hkept:=ze (keep hN W1b) hkept
 clear hN
 have hK:=hkept;simp only[zc,ka,kb,zb,kfa,kga]at hK
 have hb1:b<W1.heap.size:=Nat.lt_of_lt_of_le hb W1b.size
 go_upto_region 15 with fail
 refine Qr.wp_below 8 (by kernel_rfl) (by kernel_rfl) PhiMr ?_
 repeat (refine Qr.walk_plain rfl fun K hK=>?_;(first|(refine zk _ _ _ _ _ rfl _ _ _ rfl rfl rfl (fun r hr=>?_))|(apply Qr.one_det;(focus (intro w' hw';have HK:=keep hkept hw';simp only[zc,ka,kb,zb,kfa,kga]at HK;go_simp;first|done|rfl)))|(apply Qr.one_call;(focus (intro w' hw';go_simp;first|done|exact⟨rfl,rfl⟩));(focus (intro w' hw';first|((first|(go_at_call 221;refine (yw _ _ _).mono ?_)|(go_at_call 222;refine (ym _ _ _).mono ?_));rintro _ w2⟨r1,rfl,hr1,hb1⟩;exact⟨_,rfl,by constructor<;>assumption,za hw' ‹_›,by assumption⟩)|((first|(go_at_call 215;refine (xq _ _ _).mono ?_)|(go_at_call 212;refine (xm _ _ _ _).mono ?_)|(go_at_call 208;refine (ux _ _ _ _).mono ?_)|(go_at_call 214;refine (vg _ _ _ _ _).mono ?_)|(go_at_call 156;refine (qh _ _ _ _ _).mono ?_));rintro _ w2⟨l1,u1,rfl,hr1,hb1⟩;exact⟨_,rfl,by constructor<;>assumption,za hw' ‹_›,by assumption⟩)));intro v hv;cases hv));go_simp;refine hK _ ?_;clear hK K)
 rename_i r1 r2 h1
 refine Qr.walk_nil fun w6 hw6=>?_
 have hkept:=keep hkept hw6
 have W6b:=za W1b hw6
 clear hK
 have hK:=hkept
 simp only[zc,ka,kb,zb,kfa,kga]at hK
 go_wp2_with fail
 exact bodyPost_ret (v:=RgV r1 r2) (by simp[results,Tryz.results136,go_sem,hK,zf,zh];first|done|exact⟨rfl,rfl⟩) rfl ⟨_,_,rfl,h1,y4 W6b (by omega) ..⟩

set_option maxRecDepth 100000 in
theorem zpq {b o bv ov cap k x0 x1 y0 y1:Nat} {w:World} (hN:zc [(⟨b,o,none⟩,.int .i64 16),(⟨b,o+3,none⟩,.slice (some ⟨bv,ov,none⟩) 1 cap),(⟨bv,ov,none⟩,F1 k)] [] w) :
  Calls Tryz.prog 136 #[.pointer (some ⟨b,o,none⟩),RgV x0 x1,RgV y0 y1] w (x6 (uf (yz (cn .f32 x0,cn .f32 x1)) (cn .f32 k)) w):=by
 have hK:=hN
 simp only[zc,ka,kb,zb,kfa,kga]at hK
 have hb:b<w.heap.size:=zg (a:=⟨b,o,none⟩) (by rw[hK.1];rfl)
 go_enter Tryz.func136,Tryz.ntmps136
 go_upto_region 1 with fail
 clear hK
 generalize hW:((w.alloc (.cells #[F1 x0,F1 x1] 118)).alloc (.cells #[F1 y0,F1 y1] 118)).alloc (.cells #[F1 0,F1 0] 118)=W1 at *
 have W1b:Below w.heap.size w W1:=by subst hW;exact vc ..
 have hkept:=xg false false true hW;simp only[zr,zq,zo,zv,Nat.reduceAdd]at hkept;clear hW
 have hkept:=ze (keep hN W1b) hkept
 clear hN
 have hK:=hkept;simp only[zc,ka,kb,zb,kfa,kga]at hK
 have hb1:b<W1.heap.size:=Nat.lt_of_lt_of_le hb W1b.size
 go_upto_region 17 with fail
 refine Qr.wp_below 9 (by kernel_rfl) (by kernel_rfl) PhiMr ?_
 repeat (refine Qr.walk_plain rfl fun K hK=>?_;(first|(refine zk _ _ _ _ _ rfl _ _ _ rfl rfl rfl (fun r hr=>?_))|(apply Qr.one_det;(focus (intro w' hw';have HK:=keep hkept hw';simp only[zc,ka,kb,zb,kfa,kga]at HK;go_simp;first|done|rfl)))|(apply Qr.one_call;(focus (intro w' hw';go_simp;first|done|exact⟨rfl,rfl⟩));(focus (intro w' hw';first|((first|(go_at_call 221;refine (yw _ _ _).mono ?_)|(go_at_call 222;refine (ym _ _ _).mono ?_));rintro _ w2⟨r1,rfl,hr1,hb1⟩;exact⟨_,rfl,by constructor<;>assumption,za hw' ‹_›,by assumption⟩)|((first|(go_at_call 215;refine (xq _ _ _).mono ?_)|(go_at_call 212;refine (xm _ _ _ _).mono ?_)|(go_at_call 208;refine (ux _ _ _ _).mono ?_)|(go_at_call 214;refine (vg _ _ _ _ _).mono ?_)|(go_at_call 156;refine (qh _ _ _ _ _).mono ?_));rintro _ w2⟨l1,u1,rfl,hr1,hb1⟩;exact⟨_,rfl,by constructor<;>assumption,za hw' ‹_›,by assumption⟩)));intro v hv;cases hv));go_simp;refine hK _ ?_;clear hK K)
 rename_i l1 u1 h0 r1 r2 h1
 refine Qr.walk_nil fun w6 hw6=>?_
 have hkept:=keep hkept hw6
 have W6b:=za W1b hw6
 clear hK
 have hK:=hkept
 simp only[zc,ka,kb,zb,kfa,kga]at hK
 go_wp2_with fail
 exact bodyPost_ret (v:=RgV r1 r2) (by simp[results,Tryz.results136,go_sem,hK,zf,zh];first|done|exact⟨rfl,rfl⟩) rfl ⟨_,_,rfl,h1.trans (by rw[h0]),y4 W6b (by omega) ..⟩

def zjq (lo hi a b:Nat):Bool:=gek .f32 lo 3397386240 && lek .f32 lo 1249902592 && gek .f32 hi 3397386240 && lek .f32 hi 1249902592 && (zba a && zba b)
def j4 (lo hi a b:Nat) (x:Nat × Nat) (s:Nat):Nat × Nat:=if eqk .f32 lo hi then yz x else if zjq lo hi a b then (0,B .mul 1082130432 s) else (0,kl)
def vl (r:Nat × Nat) (s:Nat):Nat × Nat:=j4 (j2 (B .quo r.1 (B .mul 1073741824 s))) (j2 (B .quo r.2 (B .mul 1073741824 s))) (k5 r.1 s) (k5 r.2 s) (B .sub r.1 (k5 r.1 s),B .sub r.2 (k5 r.2 s)) s
def xl (r:Nat × Nat) (s:Nat):Nat × Nat:=j4 (j2 (B .quo r.1 (B .mul 1073741824 s))) (j2 (B .quo r.2 (B .mul 1073741824 s))) (k5 r.1 s) (k5 r.2 s) (B .sub r.1 (k5 r.1 s),B .sub r.2 (k5 r.1 s)) s

theorem zqi {a v m q r:Nat} (h1:cn .f32 m=bin .mul .f32 (cn .f32 1073741824) (cn .f32 v)) (h2:cn .f32 q=bin .quo .f32 (cn .f32 a) (cn .f32 m)) (h3:cn .f32 r=j2 (cn .f32 q)):cn .f32 r=j2 (B .quo (cn .f32 a) (B .mul 1073741824 (cn .f32 v))):=by
 rw[h3,h2,h1]
 rfl
theorem za0 {k:FloatKind} {x c:Nat} (hc:cn k c=c):lek k (cn k x) c=(k.format.order x c==some .lt || k.format.order x c==some .eq):=by unfold lek;rw[zvg k x hc]
theorem zwa (lo hi fa fb:Nat) (x:Nat × Nat) (s:Nat):j4 (cn .f32 lo) (cn .f32 hi) (cn .f32 fa) (cn .f32 fb) x s=if (FloatKind.f32.format.order lo hi==some .eq) then yz x else if ((FloatKind.f32.format.order lo 3397386240==some .gt || FloatKind.f32.format.order lo 3397386240==some .eq) && (FloatKind.f32.format.order lo 1249902592==some .lt || FloatKind.f32.format.order lo 1249902592==some .eq) && (FloatKind.f32.format.order hi 3397386240==some .gt || FloatKind.f32.format.order hi 3397386240==some .eq) && (FloatKind.f32.format.order hi 1249902592==some .lt || FloatKind.f32.format.order hi 1249902592==some .eq) && (zba (cn .f32 fa) && zba (cn .f32 fb))) then (0,B .mul 1082130432 s) else (0,kl):=by
 unfold j4 zjq
 rw[Fl.gek_c (by decide +kernel),za0 (by decide +kernel),Fl.gek_c (by decide +kernel),za0 (by decide +kernel),zpk,eqk]
theorem zy3 (u p q r s t:Bool):u=true∨(u=false∧p=false)∨(u=false∧p=true∧q=false)∨(u=false∧p=true∧q=true∧r=false)∨(u=false∧p=true∧q=true∧r=true∧s=false)∨(u=false∧p=true∧q=true∧r=true∧s=true∧t=false)∨(u=false∧p=true∧q=true∧r=true∧s=true∧t=true):=by
 cases u<;>cases p<;>cases q<;>cases r<;>cases s<;>cases t<;>simp

inductive PhiFo:FuncId→Array Value→Value→Prop
 | near (a r:Nat) (h:cn .f32 r=j2 (cn .f32 a)):PhiFo 261 #[F1 a] (F1 r)
 | fold (a b r:Nat) (h:cn .f32 r=k5 (cn .f32 a) (cn .f32 b)):PhiFo 262 #[F1 a,F1 b] (F1 r)


set_option maxRecDepth 100000 in
theorem zem (a b v:Nat) (w:World) :
  Calls Tryz.prog 216 #[RgV a b,F1 v] w (x6 (vl (cn .f32 a,cn .f32 b) (cn .f32 v)) w):=by
 go_enter Tryz.func216,Tryz.ntmps216
 go_upto_region 1 with fail
 generalize hW:(w.alloc (.cells #[F1 a,F1 b] 118)).alloc (.cells #[F1 0,F1 0] 118)=W1 at *
 have W1b:Below w.heap.size w W1:=by subst hW;exact xa ..
 have hkept:=yt false true hW;simp only[zr,zq,zo,zv,Nat.reduceAdd]at hkept;clear hW
 have hK:=hkept;simp only[zc,ka,kb,zb,kfa,kga]at hK
 refine Qr.wp_below_all (by kernel_rfl) (by kernel_rfl) PhiFo ?_
 repeat (refine Qr.walk_plain rfl fun K hK=>?_;(first|(refine zk _ _ _ _ _ rfl _ _ _ rfl rfl rfl (fun r hr=>?_))|(apply Qr.one_det;(focus (intro w' hw';have HK:=keep hkept hw';simp only[zc,ka,kb,zb,kfa,kga]at HK;go_simp;first|done|rfl)))|(apply Qr.one_call;(focus (intro w' hw';go_simp;first|done|exact⟨rfl,rfl⟩));(focus (intro w' hw';(first|(go_at_call 261;refine (zfy _ _).mono ?_)|(go_at_call 262;refine (yi _ _ _).mono ?_));rintro _ w2⟨r1,rfl,hr1,hb1⟩;exact⟨_,rfl,by constructor<;>assumption,za hw' ‹_›,by assumption⟩));intro v hv;cases hv));go_simp;refine hK _ ?_;clear hK K)
 rename_i m1 hm1 q1 hq1 lo hlo m2 hm2 hi hhi
 have hlo:=zqi hm1 hq1 hlo
 have hhi:=zqi hm2 hr hhi
 clear hm1 hq1 hm2 hr
 refine Qr.walk_nil fun w6 hw6=>?_
 have hkept:=keep hkept hw6
 have W6b:=za W1b hw6
 clear hK
 have hK:=hkept
 simp only[zc,ka,kb,zb,kfa,kga]at hK
 go_upto_region 2 with fail
 refine Qr.wp_below_all (by kernel_rfl) (by kernel_rfl) PhiFo ?_
 repeat (refine Qr.walk_plain rfl fun K hK=>?_;(first|(refine zk _ _ _ _ _ rfl _ _ _ rfl rfl rfl (fun r hr=>?_))|(apply Qr.one_det;(focus (intro w' hw';have HK:=keep hkept hw';simp only[zc,ka,kb,zb,kfa,kga]at HK;go_simp;first|done|rfl)))|(apply Qr.one_call;(focus (intro w' hw';go_simp;first|done|exact⟨rfl,rfl⟩));(focus (intro w' hw';(first|(go_at_call 261;refine (zfy _ _).mono ?_)|(go_at_call 262;refine (yi _ _ _).mono ?_));rintro _ w2⟨r1,rfl,hr1,hb1⟩;exact⟨_,rfl,by constructor<;>assumption,za hw' ‹_›,by assumption⟩));intro v hv;cases hv));go_simp;refine hK _ ?_;clear hK K)
 rename_i fa hfa fb hfb
 refine Qr.walk_nil fun w7 hw7=>?_
 have hkept:=keep hkept hw7
 have W7b:=za W6b hw7
 clear hK
 have hK:=hkept
 simp only[zc,ka,kb,zb,kfa,kga]at hK
 have e0:vl (cn .f32 a,cn .f32 b) (cn .f32 v)=j4 (cn .f32 lo) (cn .f32 hi) (cn .f32 fa) (cn .f32 fb) (B .sub (cn .f32 a) (cn .f32 fa),B .sub (cn .f32 b) (cn .f32 fb)) (cn .f32 v):=by rw[hlo,hhi,hfa,hfb];rfl
 obtain⟨U,hU⟩:∃ U,Hid (vl (cn .f32 a,cn .f32 b) (cn .f32 v)=U):=⟨_,rfl⟩
 have hUo:=hU.out
 rw[e0,zwa]at hUo
 clear e0 hlo hhi hfa hfb W6b hw6 hw7
 have hv:(!([fa,fb]:List Nat).any (fun x=>!qn x))=(zba (cn .f32 fa) && zba (cn .f32 fb)):=by
  unfold zba
  simp only[List.any_cons,List.any_nil,qn,Bool.or_false,Bool.not_or,Bool.not_not]
 generalize (zba (cn .f32 fa) && zba (cn .f32 fb))=FB at *
 rcases zy3 (FloatKind.f32.format.order lo hi==some .eq) (FloatKind.f32.format.order lo 3397386240==some .gt || FloatKind.f32.format.order lo 3397386240==some .eq) (FloatKind.f32.format.order lo 1249902592==some .lt || FloatKind.f32.format.order lo 1249902592==some .eq) (FloatKind.f32.format.order hi 3397386240==some .gt || FloatKind.f32.format.order hi 3397386240==some .eq) (FloatKind.f32.format.order hi 1249902592==some .lt || FloatKind.f32.format.order hi 1249902592==some .eq) FB with h1|⟨h1,h2⟩|⟨h1,h2,h3⟩|⟨h1,h2,h3,h4⟩|⟨h1,h2,h3,h4,h5⟩|⟨h1,h2,h3,h4,h5,h6⟩|⟨h1,h2,h3,h4,h5,h6⟩
 ·rw[h1,if_pos rfl]at hUo
  subst hUo
  go_wp2_with (first|(refine z6 rfl _ _ _ _ _ rfl _ _ _ rfl rfl rfl ?_;intro r n hr)|(go_at_call 215;refine (xq _ _ _).mono ?_;rintro _ w8⟨l2,u2,rfl,e2,hb1⟩;have W8b:=za (zd W7b _) hb1;have hkept:=zn hkept hb1 rfl;replace hK:=hkept;simp only[zc,ka,kb,zb,kfa,kga]at hK))
  rename_i c1 n1 hc1
  exact bodyPost_ret (v:=RgV l2 u2) (by simp[results,Tryz.results216,go_sem,hK,zf,zh];first|done|exact⟨rfl,rfl⟩) rfl ⟨_,_,rfl,(e2.trans (congrArg yz (pr hc1 hr))).trans hU.out.symm,y4 W8b (by omega) ..⟩
 all_goals
  simp only[*,Bool.and_true,Bool.and_false,Bool.false_and,Bool.true_and,Bool.false_eq_true,if_true,if_false]at hUo
  subst hUo
  try rw[‹FB=_›]at hv
  try clear h6
  go_wp2_with (first|(refine z6 rfl _ _ _ _ _ rfl _ _ _ rfl rfl rfl ?_;intro r n hr)|(go_at_call 204;refine (yf [fa,fb] (some ⟨_,0,none⟩) _ 0 2 _ (fun _=>rfl) ?_ (by simp)).mono ?_;(focus (intro i hi;have h3:i=0∨i=1:=(by simp at hi;omega);rcases h3 with rfl|rfl<;>simp));rintro _ w8⟨rfl,hb1⟩;have W7b:=za (W7b.alloc W7b.size _) hb1;have hkept:=zn (keep hkept (zt ..)) hb1 rfl;replace hK:=hkept;simp only[zc,ka,kb,zb,kfa,kga]at hK;rw[hv])|(go_at_call 225;refine (zqx _).mono ?_;rintro _ w9⟨r1,rfl,hr1,hb1⟩;have W7b:=za W7b hb1;have hkept:=zn hkept hb1 rfl;replace hK:=hkept;simp only[zc,ka,kb,zb,kfa,kga]at hK))
  first
   | exact bodyPost_ret (v:=RgV 0 r1) (by simp[results,Tryz.results216,go_sem,hK,zf,zh];first|done|exact⟨rfl,rfl⟩) rfl ⟨_,_,rfl,(pr (ye _) hr1).trans hU.out.symm,y4 W7b (by omega) ..⟩
   | exact bodyPost_ret (v:=RgV 0 r) (by simp[results,Tryz.results216,go_sem,hK,zf,zh];first|done|exact⟨rfl,rfl⟩) rfl ⟨_,_,rfl,(pr (ye _) (hr.trans (by rfl))).trans hU.out.symm,y4 (zd W7b _) (by omega) ..⟩
end Go.Proofs.YtbiacfkiakddiaaGreat
