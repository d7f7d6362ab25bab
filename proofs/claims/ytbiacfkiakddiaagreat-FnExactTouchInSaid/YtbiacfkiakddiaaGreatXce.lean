/-
 Lemmas: V10.
-/
import Derived.Test.YtbiacfkiakddiaaGreatXbg
set_option linter.unusedVariables false
set_option linter.unusedSimpArgs false
set_option maxHeartbeats 2000000
namespace Go.Proofs.YtbiacfkiakddiaaGreat
open Go.RowKit Go.Fl
theorem uk (a b:Nat) (w:World) :
  Calls Tryz.prog 201 #[F1 a,F1 b] w (Ret .f32 (jk (cn .f32 a) (cn .f32 b)) w):=by
 by_cases h:(FloatKind.f32.format.order a 0==some .gt)=true
 ·go_enter Tryz.func201,Tryz.ntmps201
  go_wp2_with (refine z6 rfl _ _ _ _ _ rfl _ _ _ rfl rfl rfl ?_;intro r n hr)
  go_ret
  exact⟨_,rfl,by simp only[jk,gtk,ua,h,if_true, *];rfl,(by repeat' (first|exact zi _ _|refine zd ?_ _|refine Below.alloc ?_ (by simp<;>omega) _|refine zj ?_ (by simp<;>omega) _|refine za ?_ ‹_›))⟩
 ·rw[Bool.not_eq_true]at h
  go_enter Tryz.func201,Tryz.ntmps201
  go_wp2_with (refine z6 rfl _ _ _ _ _ rfl _ _ _ rfl rfl rfl ?_;intro r n hr)
  go_ret
  exact⟨_,rfl,by simp only[jk,gtk,ua,h,ye];rfl,(by repeat' (first|exact zi _ _|refine zd ?_ _|refine Below.alloc ?_ (by simp<;>omega) _|refine zj ?_ (by simp<;>omega) _|refine za ?_ ‹_›))⟩

inductive PhiMs:FuncId→Array Value→Value→Prop
 | lesser (a b r:Nat) (h:cn .f32 r=yo (cn .f32 a) (cn .f32 b)):PhiMs 197 #[F1 a,F1 b] (F1 r)
 | greater (a b r:Nat) (h:cn .f32 r=z7 (cn .f32 a) (cn .f32 b)):PhiMs 198 #[F1 a,F1 b] (F1 r)
 | round (a b r:Nat) (h:cn .f32 r=jk (cn .f32 a) (cn .f32 b)):PhiMs 201 #[F1 a,F1 b] (F1 r)
 | sizer (a b l h:Nat) (e:(cn .f32 l,cn .f32 h)=yz (cn .f32 a,cn .f32 b)):PhiMs 194 #[RgV a b] (RgV l h)
 | times (a b v l h:Nat) (e:(cn .f32 l,cn .f32 h)=xw (cn .f32 a,cn .f32 b) (cn .f32 v)):PhiMs 193 #[RgV a b,F1 v] (RgV l h)
 | less (a b c d l h:Nat) (e:(cn .f32 l,cn .f32 h)=jm (cn .f32 a,cn .f32 b) (cn .f32 c,cn .f32 d)):PhiMs 187 #[RgV a b,RgV c d] (RgV l h)
 | near (a b c d l h:Nat) (e:(cn .f32 l,cn .f32 h)=yz (jm (cn .f32 a,cn .f32 b) (cn .f32 c,cn .f32 d))):PhiMs 200 #[RgV a b,RgV c d] (RgV l h)
 | one (a l h:Nat) (e:(cn .f32 l,cn .f32 h)=(cn .f32 a,cn .f32 a)):PhiMs 188 #[F1 a] (RgV l h)


set_option maxRecDepth 100000 in
theorem zjs {b o x0 x1 y0 y1:Nat} {w:World} (hN:zc [(⟨b,o,none⟩,.int .i64 5)] [] w) :
  Calls Tryz.prog 124 #[.pointer (some ⟨b,o,none⟩),RgV x0 x1,RgV y0 y1] w (x6 (yo (cn .f32 x0) (cn .f32 y0),yo (cn .f32 x1) (cn .f32 y1)) w):=by
 have hK:=hN
 simp only[zc,ka,kb,zb,kfa,kga]at hK
 have hb:b<w.heap.size:=zg (a:=⟨b,o,none⟩) (by rw[hK];rfl)
 go_enter Tryz.func124,Tryz.ntmps124
 go_upto_region 1 with fail
 clear hK
 generalize hW:((w.alloc (.cells #[F1 x0,F1 x1] 118)).alloc (.cells #[F1 y0,F1 y1] 118)).alloc (.cells #[F1 0,F1 0] 118)=W1 at *
 have W1b:Below w.heap.size w W1:=by subst hW;exact vc ..
 have hkept:=xg false false true hW;simp only[zr,zq,zo,zv,Nat.reduceAdd]at hkept;clear hW
 have hkept:=ze (keep hN W1b) hkept
 clear hN
 have hK:=hkept;simp only[zc,ka,kb,zb,kfa,kga]at hK
 have hb1:b<W1.heap.size:=Nat.lt_of_lt_of_le hb W1b.size
 go_upto_region 3 with fail
 refine Qr.wp_below 11 (by kernel_rfl) (by kernel_rfl) PhiMs ?_
 repeat (refine Qr.walk_plain rfl fun K hK=>?_;(first|(refine zk _ _ _ _ _ rfl _ _ _ rfl rfl rfl (fun r hr=>?_))|(apply Qr.one_det;(focus (intro w' hw';have HK:=keep hkept hw';simp only[zc,ka,kb,zb,kfa,kga]at HK;go_simp;first|done|rfl)))|(apply Qr.one_call;(focus (intro w' hw';go_simp;first|done|exact⟨rfl,rfl⟩));(focus (intro w' hw';first|((first|(go_at_call 197;refine (zu _ _ _).mono ?_)|(go_at_call 198;refine (zp _ _ _).mono ?_)|(go_at_call 201;refine (uk _ _ _).mono ?_));rintro _ w2⟨r1,rfl,hr1,hb1⟩;exact⟨_,rfl,by constructor<;>assumption,za hw' ‹_›,by assumption⟩)|((first|(go_at_call 194;refine (yu _ _ _).mono ?_)|(go_at_call 193;refine (yp _ _ _ _).mono ?_)|(go_at_call 187;refine (yn _ _ _ _ _).mono ?_)|(go_at_call 200;refine (jd _ _ _ _ _).mono ?_)|(go_at_call 188;refine (y5 _ _).mono ?_));rintro _ w2⟨l1,u1,rfl,hr1,hb1⟩;exact⟨_,rfl,by constructor<;>assumption,za hw' ‹_›,by assumption⟩)));intro v hv;cases hv));go_simp;refine hK _ ?_;clear hK K)
 rename_i r1 h1 r2 h2
 refine Qr.walk_nil fun w6 hw6=>?_
 have hkept:=keep hkept hw6
 have W6b:=za W1b hw6
 clear hK
 have hK:=hkept
 simp only[zc,ka,kb,zb,kfa,kga]at hK
 go_wp2_with fail
 exact bodyPost_ret (v:=RgV r1 r2) (by simp[results,Tryz.results124,go_sem,hK,zf,zh];first|done|exact⟨rfl,rfl⟩) rfl ⟨_,_,rfl,pr h1 h2,y4 W6b (by omega) ..⟩

set_option maxRecDepth 100000 in
theorem zoa {b o x0 x1 y0 y1:Nat} {w:World} (hN:zc [(⟨b,o,none⟩,.int .i64 6)] [] w) :
  Calls Tryz.prog 124 #[.pointer (some ⟨b,o,none⟩),RgV x0 x1,RgV y0 y1] w (x6 (z7 (cn .f32 x0) (cn .f32 y0),z7 (cn .f32 x1) (cn .f32 y1)) w):=by
 have hK:=hN
 simp only[zc,ka,kb,zb,kfa,kga]at hK
 have hb:b<w.heap.size:=zg (a:=⟨b,o,none⟩) (by rw[hK];rfl)
 go_enter Tryz.func124,Tryz.ntmps124
 go_upto_region 1 with fail
 clear hK
 generalize hW:((w.alloc (.cells #[F1 x0,F1 x1] 118)).alloc (.cells #[F1 y0,F1 y1] 118)).alloc (.cells #[F1 0,F1 0] 118)=W1 at *
 have W1b:Below w.heap.size w W1:=by subst hW;exact vc ..
 have hkept:=xg false false true hW;simp only[zr,zq,zo,zv,Nat.reduceAdd]at hkept;clear hW
 have hkept:=ze (keep hN W1b) hkept
 clear hN
 have hK:=hkept;simp only[zc,ka,kb,zb,kfa,kga]at hK
 have hb1:b<W1.heap.size:=Nat.lt_of_lt_of_le hb W1b.size
 go_upto_region 5 with fail
 refine Qr.wp_below 11 (by kernel_rfl) (by kernel_rfl) PhiMs ?_
 repeat (refine Qr.walk_plain rfl fun K hK=>?_;(first|(refine zk _ _ _ _ _ rfl _ _ _ rfl rfl rfl (fun r hr=>?_))|(apply Qr.one_det;(focus (intro w' hw';have HK:=keep hkept hw';simp only[zc,ka,kb,zb,kfa,kga]at HK;go_simp;first|done|rfl)))|(apply Qr.one_call;(focus (intro w' hw';go_simp;first|done|exact⟨rfl,rfl⟩));(focus (intro w' hw';first|((first|(go_at_call 197;refine (zu _ _ _).mono ?_)|(go_at_call 198;refine (zp _ _ _).mono ?_)|(go_at_call 201;refine (uk _ _ _).mono ?_));rintro _ w2⟨r1,rfl,hr1,hb1⟩;exact⟨_,rfl,by constructor<;>assumption,za hw' ‹_›,by assumption⟩)|((first|(go_at_call 194;refine (yu _ _ _).mono ?_)|(go_at_call 193;refine (yp _ _ _ _).mono ?_)|(go_at_call 187;refine (yn _ _ _ _ _).mono ?_)|(go_at_call 200;refine (jd _ _ _ _ _).mono ?_)|(go_at_call 188;refine (y5 _ _).mono ?_));rintro _ w2⟨l1,u1,rfl,hr1,hb1⟩;exact⟨_,rfl,by constructor<;>assumption,za hw' ‹_›,by assumption⟩)));intro v hv;cases hv));go_simp;refine hK _ ?_;clear hK K)
 rename_i r1 h1 r2 h2
 refine Qr.walk_nil fun w6 hw6=>?_
 have hkept:=keep hkept hw6
 have W6b:=za W1b hw6
 clear hK
 have hK:=hkept
 simp only[zc,ka,kb,zb,kfa,kga]at hK
 go_wp2_with fail
 exact bodyPost_ret (v:=RgV r1 r2) (by simp[results,Tryz.results124,go_sem,hK,zf,zh];first|done|exact⟨rfl,rfl⟩) rfl ⟨_,_,rfl,pr h1 h2,y4 W6b (by omega) ..⟩

set_option maxRecDepth 100000 in
theorem zlx {b o x0 x1 y0 y1:Nat} {w:World} (hN:zc [(⟨b,o,none⟩,.int .i64 7)] [] w) :
  Calls Tryz.prog 124 #[.pointer (some ⟨b,o,none⟩),RgV x0 x1,RgV y0 y1] w (x6 (z7 (cn .f32 x0) (un .f32 (cn .f32 y1)),z7 (cn .f32 x1) (un .f32 (cn .f32 y0))) w):=by
 have hK:=hN
 simp only[zc,ka,kb,zb,kfa,kga]at hK
 have hb:b<w.heap.size:=zg (a:=⟨b,o,none⟩) (by rw[hK];rfl)
 go_enter Tryz.func124,Tryz.ntmps124
 go_upto_region 1 with fail
 clear hK
 generalize hW:((w.alloc (.cells #[F1 x0,F1 x1] 118)).alloc (.cells #[F1 y0,F1 y1] 118)).alloc (.cells #[F1 0,F1 0] 118)=W1 at *
 have W1b:Below w.heap.size w W1:=by subst hW;exact vc ..
 have hkept:=xg false false true hW;simp only[zr,zq,zo,zv,Nat.reduceAdd]at hkept;clear hW
 have hkept:=ze (keep hN W1b) hkept
 clear hN
 have hK:=hkept;simp only[zc,ka,kb,zb,kfa,kga]at hK
 have hb1:b<W1.heap.size:=Nat.lt_of_lt_of_le hb W1b.size
 go_upto_region 7 with fail
 refine Qr.wp_below 13 (by kernel_rfl) (by kernel_rfl) PhiMs ?_
 repeat (refine Qr.walk_plain rfl fun K hK=>?_;(first|(refine zk _ _ _ _ _ rfl _ _ _ rfl rfl rfl (fun r hr=>?_))|(apply Qr.one_det;(focus (intro w' hw';have HK:=keep hkept hw';simp only[zc,ka,kb,zb,kfa,kga]at HK;go_simp;first|done|rfl)))|(apply Qr.one_call;(focus (intro w' hw';go_simp;first|done|exact⟨rfl,rfl⟩));(focus (intro w' hw';first|((first|(go_at_call 197;refine (zu _ _ _).mono ?_)|(go_at_call 198;refine (zp _ _ _).mono ?_)|(go_at_call 201;refine (uk _ _ _).mono ?_));rintro _ w2⟨r1,rfl,hr1,hb1⟩;exact⟨_,rfl,by constructor<;>assumption,za hw' ‹_›,by assumption⟩)|((first|(go_at_call 194;refine (yu _ _ _).mono ?_)|(go_at_call 193;refine (yp _ _ _ _).mono ?_)|(go_at_call 187;refine (yn _ _ _ _ _).mono ?_)|(go_at_call 200;refine (jd _ _ _ _ _).mono ?_)|(go_at_call 188;refine (y5 _ _).mono ?_));rintro _ w2⟨l1,u1,rfl,hr1,hb1⟩;exact⟨_,rfl,by constructor<;>assumption,za hw' ‹_›,by assumption⟩)));intro v hv;cases hv));go_simp;refine hK _ ?_;clear hK K)
 rename_i r1 h1 r2 h2
 refine Qr.walk_nil fun w6 hw6=>?_
 have hkept:=keep hkept hw6
 have W6b:=za W1b hw6
 clear hK
 have hK:=hkept
 simp only[zc,ka,kb,zb,kfa,kga]at hK
 go_wp2_with fail
 exact bodyPost_ret (v:=RgV r1 r2) (by simp[results,Tryz.results124,go_sem,hK,zf,zh];first|done|exact⟨rfl,rfl⟩) rfl ⟨_,_,rfl,by rw[h1,h2,xo,xo],y4 W6b (by omega) ..⟩

set_option maxRecDepth 100000 in
theorem zjz {b o bv ov cap k x0 x1 y0 y1:Nat} {w:World} (hN:zc [(⟨b,o,none⟩,.int .i64 10),(⟨b,o+3,none⟩,.slice (some ⟨bv,ov,none⟩) 1 cap),(⟨bv,ov,none⟩,F1 k)] [] w) :
  Calls Tryz.prog 124 #[.pointer (some ⟨b,o,none⟩),RgV x0 x1,RgV y0 y1] w (x6 (xw (cn .f32 x0,cn .f32 x1) (cn .f32 k)) w):=by
 have hK:=hN
 simp only[zc,ka,kb,zb,kfa,kga]at hK
 have hb:b<w.heap.size:=zg (a:=⟨b,o,none⟩) (by rw[hK.1];rfl)
 go_enter Tryz.func124,Tryz.ntmps124
 go_upto_region 1 with fail
 clear hK
 generalize hW:((w.alloc (.cells #[F1 x0,F1 x1] 118)).alloc (.cells #[F1 y0,F1 y1] 118)).alloc (.cells #[F1 0,F1 0] 118)=W1 at *
 have W1b:Below w.heap.size w W1:=by subst hW;exact vc ..
 have hkept:=xg false false true hW;simp only[zr,zq,zo,zv,Nat.reduceAdd]at hkept;clear hW
 have hkept:=ze (keep hN W1b) hkept
 clear hN
 have hK:=hkept;simp only[zc,ka,kb,zb,kfa,kga]at hK
 have hb1:b<W1.heap.size:=Nat.lt_of_lt_of_le hb W1b.size
 go_upto_region 14 with fail
 refine Qr.wp_below 8 (by kernel_rfl) (by kernel_rfl) PhiMs ?_
 repeat (refine Qr.walk_plain rfl fun K hK=>?_;(first|(refine zk _ _ _ _ _ rfl _ _ _ rfl rfl rfl (fun r hr=>?_))|(apply Qr.one_det;(focus (intro w' hw';have HK:=keep hkept hw';simp only[zc,ka,kb,zb,kfa,kga]at HK;go_simp;first|done|rfl)))|(apply Qr.one_call;(focus (intro w' hw';go_simp;first|done|exact⟨rfl,rfl⟩));(focus (intro w' hw';first|((first|(go_at_call 197;refine (zu _ _ _).mono ?_)|(go_at_call 198;refine (zp _ _ _).mono ?_)|(go_at_call 201;refine (uk _ _ _).mono ?_));rintro _ w2⟨r1,rfl,hr1,hb1⟩;exact⟨_,rfl,by constructor<;>assumption,za hw' ‹_›,by assumption⟩)|((first|(go_at_call 194;refine (yu _ _ _).mono ?_)|(go_at_call 193;refine (yp _ _ _ _).mono ?_)|(go_at_call 187;refine (yn _ _ _ _ _).mono ?_)|(go_at_call 200;refine (jd _ _ _ _ _).mono ?_)|(go_at_call 188;refine (y5 _ _).mono ?_));rintro _ w2⟨l1,u1,rfl,hr1,hb1⟩;exact⟨_,rfl,by constructor<;>assumption,za hw' ‹_›,by assumption⟩)));intro v hv;cases hv));go_simp;refine hK _ ?_;clear hK K)
 rename_i r1 r2 h1
 refine Qr.walk_nil fun w6 hw6=>?_
 have hkept:=keep hkept hw6
 have W6b:=za W1b hw6
 clear hK
 have hK:=hkept
 simp only[zc,ka,kb,zb,kfa,kga]at hK
 go_wp2_with fail
 exact bodyPost_ret (v:=RgV r1 r2) (by simp[results,Tryz.results124,go_sem,hK,zf,zh];first|done|exact⟨rfl,rfl⟩) rfl ⟨_,_,rfl,h1,y4 W6b (by omega) ..⟩

set_option maxRecDepth 100000 in
theorem zjy {b o bv ov cap k x0 x1 y0 y1:Nat} {w:World} (hN:zc [(⟨b,o,none⟩,.int .i64 15),(⟨b,o+3,none⟩,.slice (some ⟨bv,ov,none⟩) 1 cap),(⟨bv,ov,none⟩,F1 k)] [] w) :
  Calls Tryz.prog 124 #[.pointer (some ⟨b,o,none⟩),RgV x0 x1,RgV y0 y1] w (x6 (uf (cn .f32 x0,cn .f32 x1) (cn .f32 k)) w):=by
 have hK:=hN
 simp only[zc,ka,kb,zb,kfa,kga]at hK
 have hb:b<w.heap.size:=zg (a:=⟨b,o,none⟩) (by rw[hK.1];rfl)
 go_enter Tryz.func124,Tryz.ntmps124
 go_upto_region 1 with fail
 clear hK
 generalize hW:((w.alloc (.cells #[F1 x0,F1 x1] 118)).alloc (.cells #[F1 y0,F1 y1] 118)).alloc (.cells #[F1 0,F1 0] 118)=W1 at *
 have W1b:Below w.heap.size w W1:=by subst hW;exact vc ..
 have hkept:=xg false false true hW;simp only[zr,zq,zo,zv,Nat.reduceAdd]at hkept;clear hW
 have hkept:=ze (keep hN W1b) hkept
 clear hN
 have hK:=hkept;simp only[zc,ka,kb,zb,kfa,kga]at hK
 have hb1:b<W1.heap.size:=Nat.lt_of_lt_of_le hb W1b.size
 go_upto_region 16 with fail
 refine Qr.wp_below 9 (by kernel_rfl) (by kernel_rfl) PhiMs ?_
 repeat (refine Qr.walk_plain rfl fun K hK=>?_;(first|(refine zk _ _ _ _ _ rfl _ _ _ rfl rfl rfl (fun r hr=>?_))|(apply Qr.one_det;(focus (intro w' hw';have HK:=keep hkept hw';simp only[zc,ka,kb,zb,kfa,kga]at HK;go_simp;first|done|rfl)))|(apply Qr.one_call;(focus (intro w' hw';go_simp;first|done|exact⟨rfl,rfl⟩));(focus (intro w' hw';first|((first|(go_at_call 197;refine (zu _ _ _).mono ?_)|(go_at_call 198;refine (zp _ _ _).mono ?_)|(go_at_call 201;refine (uk _ _ _).mono ?_));rintro _ w2⟨r1,rfl,hr1,hb1⟩;exact⟨_,rfl,by constructor<;>assumption,za hw' ‹_›,by assumption⟩)|((first|(go_at_call 194;refine (yu _ _ _).mono ?_)|(go_at_call 193;refine (yp _ _ _ _).mono ?_)|(go_at_call 187;refine (yn _ _ _ _ _).mono ?_)|(go_at_call 200;refine (jd _ _ _ _ _).mono ?_)|(go_at_call 188;refine (y5 _ _).mono ?_));rintro _ w2⟨l1,u1,rfl,hr1,hb1⟩;exact⟨_,rfl,by constructor<;>assumption,za hw' ‹_›,by assumption⟩)));intro v hv;cases hv));go_simp;refine hK _ ?_;clear hK K)
 rename_i l1 u1 h0 r1 r2 h1
 refine Qr.walk_nil fun w6 hw6=>?_
 have hkept:=keep hkept hw6
 have W6b:=za W1b hw6
 clear hK
 have hK:=hkept
 simp only[zc,ka,kb,zb,kfa,kga]at hK
 go_wp2_with fail
 exact bodyPost_ret (v:=RgV r1 r2) (by simp[results,Tryz.results124,go_sem,hK,zf,zh];first|done|exact⟨rfl,rfl⟩) rfl ⟨_,_,rfl,h1.trans (by rw[h0];rfl),y4 W6b (by omega) ..⟩

set_option maxRecDepth 100000 in
theorem zjv {b o bv ov cap k x0 x1 y0 y1:Nat} {w:World} (hN:zc [(⟨b,o,none⟩,.int .i64 16),(⟨b,o+3,none⟩,.slice (some ⟨bv,ov,none⟩) 1 cap),(⟨bv,ov,none⟩,F1 k)] [] w) :
  Calls Tryz.prog 124 #[.pointer (some ⟨b,o,none⟩),RgV x0 x1,RgV y0 y1] w (x6 (uf (yz (cn .f32 x0,cn .f32 x1)) (cn .f32 k)) w):=by
 have hK:=hN
 simp only[zc,ka,kb,zb,kfa,kga]at hK
 have hb:b<w.heap.size:=zg (a:=⟨b,o,none⟩) (by rw[hK.1];rfl)
 go_enter Tryz.func124,Tryz.ntmps124
 go_upto_region 1 with fail
 clear hK
 generalize hW:((w.alloc (.cells #[F1 x0,F1 x1] 118)).alloc (.cells #[F1 y0,F1 y1] 118)).alloc (.cells #[F1 0,F1 0] 118)=W1 at *
 have W1b:Below w.heap.size w W1:=by subst hW;exact vc ..
 have hkept:=xg false false true hW;simp only[zr,zq,zo,zv,Nat.reduceAdd]at hkept;clear hW
 have hkept:=ze (keep hN W1b) hkept
 clear hN
 have hK:=hkept;simp only[zc,ka,kb,zb,kfa,kga]at hK
 have hb1:b<W1.heap.size:=Nat.lt_of_lt_of_le hb W1b.size
 go_upto_region 18 with fail
 refine Qr.wp_below 10 (by kernel_rfl) (by kernel_rfl) PhiMs ?_
 repeat (refine Qr.walk_plain rfl fun K hK=>?_;(first|(refine zk _ _ _ _ _ rfl _ _ _ rfl rfl rfl (fun r hr=>?_))|(apply Qr.one_det;(focus (intro w' hw';have HK:=keep hkept hw';simp only[zc,ka,kb,zb,kfa,kga]at HK;go_simp;first|done|rfl)))|(apply Qr.one_call;(focus (intro w' hw';go_simp;first|done|exact⟨rfl,rfl⟩));(focus (intro w' hw';first|((first|(go_at_call 197;refine (zu _ _ _).mono ?_)|(go_at_call 198;refine (zp _ _ _).mono ?_)|(go_at_call 201;refine (uk _ _ _).mono ?_));rintro _ w2⟨r1,rfl,hr1,hb1⟩;exact⟨_,rfl,by constructor<;>assumption,za hw' ‹_›,by assumption⟩)|((first|(go_at_call 194;refine (yu _ _ _).mono ?_)|(go_at_call 193;refine (yp _ _ _ _).mono ?_)|(go_at_call 187;refine (yn _ _ _ _ _).mono ?_)|(go_at_call 200;refine (jd _ _ _ _ _).mono ?_)|(go_at_call 188;refine (y5 _ _).mono ?_));rintro _ w2⟨l1,u1,rfl,hr1,hb1⟩;exact⟨_,rfl,by constructor<;>assumption,za hw' ‹_›,by assumption⟩)));intro v hv;cases hv));go_simp;refine hK _ ?_;clear hK K)
 rename_i l1 u1 h0 l2 u2 h2 r1 r2 h1
 refine Qr.walk_nil fun w6 hw6=>?_
 have hkept:=keep hkept hw6
 have W6b:=za W1b hw6
 clear hK
 have hK:=hkept
 simp only[zc,ka,kb,zb,kfa,kga]at hK
 go_wp2_with fail
 exact bodyPost_ret (v:=RgV r1 r2) (by simp[results,Tryz.results124,go_sem,hK,zf,zh];first|done|exact⟨rfl,rfl⟩) rfl ⟨_,_,rfl,h1.trans (by rw[h0,h2];rfl),y4 W6b (by omega) ..⟩

set_option maxRecDepth 100000 in
theorem zhe {b o bv ov cap k x0 x1 y0 y1:Nat} {w:World} (hN:zc [(⟨b,o,none⟩,.int .i64 8),(⟨b,o+3,none⟩,.slice (some ⟨bv,ov,none⟩) 1 cap),(⟨bv,ov,none⟩,F1 k)] [] w) :
  Calls Tryz.prog 124 #[.pointer (some ⟨b,o,none⟩),RgV x0 x1,RgV y0 y1] w (x6 (jm (yo (cn .f32 x0) (cn .f32 y0),yo (cn .f32 x1) (cn .f32 y1)) (zb6 (fun x=>jk x (cn .f32 k)) (jm (cn .f32 k,cn .f32 k) (yz (jm (cn .f32 x0,cn .f32 x1) (cn .f32 y0,cn .f32 y1)))))) w):=by
 have hK:=hN
 simp only[zc,ka,kb,zb,kfa,kga]at hK
 have hb:b<w.heap.size:=zg (a:=⟨b,o,none⟩) (by rw[hK.1];rfl)
 go_enter Tryz.func124,Tryz.ntmps124
 go_upto_region 1 with fail
 clear hK
 generalize hW:((w.alloc (.cells #[F1 x0,F1 x1] 118)).alloc (.cells #[F1 y0,F1 y1] 118)).alloc (.cells #[F1 0,F1 0] 118)=W1 at *
 have W1b:Below w.heap.size w W1:=by subst hW;exact vc ..
 have hkept:=xg false false true hW;simp only[zr,zq,zo,zv,Nat.reduceAdd]at hkept;clear hW
 have hkept:=ze (keep hN W1b) hkept
 clear hN
 have hK:=hkept;simp only[zc,ka,kb,zb,kfa,kga]at hK
 have hb1:b<W1.heap.size:=Nat.lt_of_lt_of_le hb W1b.size
 go_upto_region 10 with fail
 refine Qr.wp_made 7 6 8 #[F1 0,F1 0] 118 (by kernel_rfl) (by kernel_rfl) PhiMs rfl (by kernel_rfl) ⟨_,rfl,rfl,fun a w=>by go_simp⟩ (by kernel_rfl) ?_
 repeat (first|(refine Qr.walk_plain rfl fun K hK=>?_;refine Qr.one_rel (fun v=>∃ g,v=.pointer (some ⟨g,0,none⟩)) (fun w' hw'=>⟨.pointer (some ⟨w'.heap.size,0,none⟩),_,by go_simp;rfl,⟨_,rfl⟩,hw'.alloc hw'.size _,zt ..⟩) (fun v hv=>?_);obtain⟨g,rfl⟩:=hv;go_simp;refine hK _ ?_;clear hK K)|(refine Qr.walk_plain rfl fun K hK=>?_;(first|(refine zk _ _ _ _ _ rfl _ _ _ rfl rfl rfl (fun r hr=>?_))|(apply Qr.one_det;(focus (intro w' hw';have HK:=keep hkept hw';simp only[zc,ka,kb,zb,kfa,kga]at HK;go_simp;first|done|rfl)))|(apply Qr.one_call;(focus (intro w' hw';go_simp;first|done|exact⟨rfl,rfl⟩));(focus (intro w' hw';first|((first|(go_at_call 197;refine (zu _ _ _).mono ?_)|(go_at_call 198;refine (zp _ _ _).mono ?_)|(go_at_call 201;refine (uk _ _ _).mono ?_));rintro _ w2⟨r1,rfl,hr1,hb1⟩;exact⟨_,rfl,by constructor<;>assumption,za hw' ‹_›,by assumption⟩)|((first|(go_at_call 194;refine (yu _ _ _).mono ?_)|(go_at_call 193;refine (yp _ _ _ _).mono ?_)|(go_at_call 187;refine (yn _ _ _ _ _).mono ?_)|(go_at_call 200;refine (jd _ _ _ _ _).mono ?_)|(go_at_call 188;refine (y5 _ _).mono ?_));rintro _ w2⟨l1,u1,rfl,hr1,hb1⟩;exact⟨_,rfl,by constructor<;>assumption,za hw' ‹_›,by assumption⟩)));intro v hv;cases hv));go_simp;refine hK _ ?_;clear hK K))
 rename_i l0 u0 e0 l1 u1 e1 l2 u2 e2
 refine Qr.walk_nil fun w3 hw3 hmade=>?_
 obtain⟨g3,hg3,hgw,hgc⟩:=hmade _ rfl
 injection hg3 with hg3
 injection hg3 with hg3
 subst hg3
 obtain⟨hc0,hc1,hf0,hf1⟩:=xc hgc
 have hset:=zay hgc (F1 l2) (F1 u2)
 have hbw:=hw3.trans (hset.2.mono hgw)
 go_upto_region 11 with fail
 clear hc0 hc1 hf0 hf1 hgc hw3
 generalize (w3.setCell ⟨g,0,none⟩ (F1 l2)).setCell ⟨g,1,none⟩ (F1 u2)=w4 at hset hbw ⊢
 have hkept:=ze (keep hkept hbw) (zdh hset.1)
 have W4b:=za W1b hbw
 clear hset hbw hK
 have hK:=hkept;simp only[zc,ka,kb,zb,kfa,kga]at hK
 refine Qr.wp_made 10 9 9 #[F1 0,F1 0] 118 (by kernel_rfl) (by kernel_rfl) PhiMs rfl (by kernel_rfl) ⟨_,rfl,rfl,fun a w=>by go_simp⟩ (by kernel_rfl) ?_
 repeat (first|(refine Qr.walk_plain rfl fun K hK=>?_;refine Qr.one_rel (fun v=>∃ g,v=.pointer (some ⟨g,0,none⟩)) (fun w' hw'=>⟨.pointer (some ⟨w'.heap.size,0,none⟩),_,by go_simp;rfl,⟨_,rfl⟩,hw'.alloc hw'.size _,zt ..⟩) (fun v hv=>?_);obtain⟨g,rfl⟩:=hv;go_simp;refine hK _ ?_;clear hK K)|(refine Qr.walk_plain rfl fun K hK=>?_;(first|(refine zk _ _ _ _ _ rfl _ _ _ rfl rfl rfl (fun r hr=>?_))|(apply Qr.one_det;(focus (intro w' hw';have HK:=keep hkept hw';simp only[zc,ka,kb,zb,kfa,kga]at HK;go_simp;first|done|rfl)))|(apply Qr.one_call;(focus (intro w' hw';go_simp;first|done|exact⟨rfl,rfl⟩));(focus (intro w' hw';first|((first|(go_at_call 197;refine (zu _ _ _).mono ?_)|(go_at_call 198;refine (zp _ _ _).mono ?_)|(go_at_call 201;refine (uk _ _ _).mono ?_));rintro _ w2⟨r1,rfl,hr1,hb1⟩;exact⟨_,rfl,by constructor<;>assumption,za hw' ‹_›,by assumption⟩)|((first|(go_at_call 194;refine (yu _ _ _).mono ?_)|(go_at_call 193;refine (yp _ _ _ _).mono ?_)|(go_at_call 187;refine (yn _ _ _ _ _).mono ?_)|(go_at_call 200;refine (jd _ _ _ _ _).mono ?_)|(go_at_call 188;refine (y5 _ _).mono ?_));rintro _ w2⟨l1,u1,rfl,hr1,hb1⟩;exact⟨_,rfl,by constructor<;>assumption,za hw' ‹_›,by assumption⟩)));intro v hv;cases hv));go_simp;refine hK _ ?_;clear hK K))
 rename_i q1 e3 q2 e4
 refine Qr.walk_nil fun w3 hw3 hmade=>?_
 obtain⟨g3,hg3,hgw2,hgc⟩:=hmade _ rfl
 injection hg3 with hg3
 injection hg3 with hg3
 subst hg3
 obtain⟨hc0,hc1,hf0,hf1⟩:=xc hgc
 have hset:=zay hgc (F1 q1) (F1 q2)
 have hbw:=hw3.trans (hset.2.mono hgw2)
 go_upto_region 12 with fail
 clear hc0 hc1 hf0 hf1 hgc hw3
 generalize (w3.setCell ⟨g,0,none⟩ (F1 q1)).setCell ⟨g,1,none⟩ (F1 q2)=w5 at hset hbw ⊢
 have hkept:=ze (keep hkept hbw) (zdh hset.1)
 have W5b:=za W4b hbw
 clear hset hbw hK
 have hK:=hkept;simp only[zc,ka,kb,zb,kfa,kga]at hK
 refine Qr.wp_below 13 (by kernel_rfl) (by kernel_rfl) PhiMs ?_
 repeat (refine Qr.walk_plain rfl fun K hK=>?_;(first|(refine zk _ _ _ _ _ rfl _ _ _ rfl rfl rfl (fun r hr=>?_))|(apply Qr.one_det;(focus (intro w' hw';have HK:=keep hkept hw';simp only[zc,ka,kb,zb,kfa,kga]at HK;go_simp;first|done|rfl)))|(apply Qr.one_call;(focus (intro w' hw';go_simp;first|done|exact⟨rfl,rfl⟩));(focus (intro w' hw';first|((first|(go_at_call 197;refine (zu _ _ _).mono ?_)|(go_at_call 198;refine (zp _ _ _).mono ?_)|(go_at_call 201;refine (uk _ _ _).mono ?_));rintro _ w2⟨r1,rfl,hr1,hb1⟩;exact⟨_,rfl,by constructor<;>assumption,za hw' ‹_›,by assumption⟩)|((first|(go_at_call 194;refine (yu _ _ _).mono ?_)|(go_at_call 193;refine (yp _ _ _ _).mono ?_)|(go_at_call 187;refine (yn _ _ _ _ _).mono ?_)|(go_at_call 200;refine (jd _ _ _ _ _).mono ?_)|(go_at_call 188;refine (y5 _ _).mono ?_));rintro _ w2⟨l1,u1,rfl,hr1,hb1⟩;exact⟨_,rfl,by constructor<;>assumption,za hw' ‹_›,by assumption⟩)));intro v hv;cases hv));go_simp;refine hK _ ?_;clear hK K)
 rename_i r1 h1 r2 h2 r3 r4 h3
 refine Qr.walk_nil fun w6 hw6=>?_
 have hkept:=keep hkept hw6
 have W6b:=za W5b hw6
 clear hK
 have hK:=hkept
 simp only[zc,ka,kb,zb,kfa,kga]at hK
 go_wp2_with fail
 have e5:(cn .f32 q1,cn .f32 q2)=zb6 (fun x=>jk x (cn .f32 k)) (cn .f32 l2,cn .f32 u2):=pr e3 e4
 exact bodyPost_ret (v:=RgV r3 r4) (by simp[results,Tryz.results124,go_sem,hK,zf,zh];first|done|exact⟨rfl,rfl⟩) rfl ⟨_,_,rfl,by rw[h3,h1,h2,e5,e2,e1,e0],y4 W6b (by omega) ..⟩

set_option maxRecDepth 100000 in
theorem znj {b o x0 x1 y0 y1:Nat} {w:World} (hN:zc [(⟨b,o,none⟩,.int .i64 9)] [] w) :
  Calls Tryz.prog 124 #[.pointer (some ⟨b,o,none⟩),RgV x0 x1,RgV y0 y1] w (x6 (cn .f32 x0,cn .f32 x1) w):=by
 have hK:=hN
 simp only[zc,ka,kb,zb,kfa,kga]at hK
 have hb:b<w.heap.size:=zg (a:=⟨b,o,none⟩) (by rw[hK];rfl)
 go_enter Tryz.func124,Tryz.ntmps124
 go_upto_region 1 with fail
 clear hK
 generalize hW:((w.alloc (.cells #[F1 x0,F1 x1] 118)).alloc (.cells #[F1 y0,F1 y1] 118)).alloc (.cells #[F1 0,F1 0] 118)=W1 at *
 have W1b:Below w.heap.size w W1:=by subst hW;exact vc ..
 have hkept:=xg false false true hW;simp only[zr,zq,zo,zv,Nat.reduceAdd]at hkept;clear hW
 have hkept:=ze (keep hN W1b) hkept
 clear hN
 have hK:=hkept;simp only[zc,ka,kb,zb,kfa,kga]at hK
 have hb1:b<W1.heap.size:=Nat.lt_of_lt_of_le hb W1b.size
 go_wp2_with fail
 exact bodyPost_ret (v:=RgV x0 x1) (by simp[results,Tryz.results124,go_sem,hK,zf,zh];first|done|exact⟨rfl,rfl⟩) rfl ⟨_,_,rfl,rfl,y4 W1b (by omega) ..⟩

set_option maxRecDepth 100000 in
theorem zg9 {b o x0 x1 y0 y1:Nat} {w:World} (hN:zc [(⟨b,o,none⟩,.int .i64 11)] [] w) :
  Calls Tryz.prog 124 #[.pointer (some ⟨b,o,none⟩),RgV x0 x1,RgV y0 y1] w (x6 (cn .f32 x0,cn .f32 x1) w):=by
 have hK:=hN
 simp only[zc,ka,kb,zb,kfa,kga]at hK
 have hb:b<w.heap.size:=zg (a:=⟨b,o,none⟩) (by rw[hK];rfl)
 go_enter Tryz.func124,Tryz.ntmps124
 go_upto_region 1 with fail
 clear hK
 generalize hW:((w.alloc (.cells #[F1 x0,F1 x1] 118)).alloc (.cells #[F1 y0,F1 y1] 118)).alloc (.cells #[F1 0,F1 0] 118)=W1 at *
 have W1b:Below w.heap.size w W1:=by subst hW;exact vc ..
 have hkept:=xg false false true hW;simp only[zr,zq,zo,zv,Nat.reduceAdd]at hkept;clear hW
 have hkept:=ze (keep hN W1b) hkept
 clear hN
 have hK:=hkept;simp only[zc,ka,kb,zb,kfa,kga]at hK
 have hb1:b<W1.heap.size:=Nat.lt_of_lt_of_le hb W1b.size
 go_wp2_with fail
 exact bodyPost_ret (v:=RgV x0 x1) (by simp[results,Tryz.results124,go_sem,hK,zf,zh];first|done|exact⟨rfl,rfl⟩) rfl ⟨_,_,rfl,rfl,y4 W1b (by omega) ..⟩

set_option maxRecDepth 100000 in
theorem zla {b o x0 x1 y0 y1:Nat} {w:World} (hN:zc [(⟨b,o,none⟩,.int .i64 12)] [] w) :
  Calls Tryz.prog 124 #[.pointer (some ⟨b,o,none⟩),RgV x0 x1,RgV y0 y1] w (x6 (cn .f32 x0,cn .f32 x1) w):=by
 have hK:=hN
 simp only[zc,ka,kb,zb,kfa,kga]at hK
 have hb:b<w.heap.size:=zg (a:=⟨b,o,none⟩) (by rw[hK];rfl)
 go_enter Tryz.func124,Tryz.ntmps124
 go_upto_region 1 with fail
 clear hK
 generalize hW:((w.alloc (.cells #[F1 x0,F1 x1] 118)).alloc (.cells #[F1 y0,F1 y1] 118)).alloc (.cells #[F1 0,F1 0] 118)=W1 at *
 have W1b:Below w.heap.size w W1:=by subst hW;exact vc ..
 have hkept:=xg false false true hW;simp only[zr,zq,zo,zv,Nat.reduceAdd]at hkept;clear hW
 have hkept:=ze (keep hN W1b) hkept
 clear hN
 have hK:=hkept;simp only[zc,ka,kb,zb,kfa,kga]at hK
 have hb1:b<W1.heap.size:=Nat.lt_of_lt_of_le hb W1b.size
 go_wp2_with fail
 exact bodyPost_ret (v:=RgV x0 x1) (by simp[results,Tryz.results124,go_sem,hK,zf,zh];first|done|exact⟨rfl,rfl⟩) rfl ⟨_,_,rfl,rfl,y4 W1b (by omega) ..⟩

set_option maxRecDepth 100000 in
theorem zh5 {b o x0 x1 y0 y1:Nat} {w:World} (hN:zc [(⟨b,o,none⟩,.int .i64 13)] [] w) :
  Calls Tryz.prog 124 #[.pointer (some ⟨b,o,none⟩),RgV x0 x1,RgV y0 y1] w (x6 (cn .f32 x0,cn .f32 x1) w):=by
 have hK:=hN
 simp only[zc,ka,kb,zb,kfa,kga]at hK
 have hb:b<w.heap.size:=zg (a:=⟨b,o,none⟩) (by rw[hK];rfl)
 go_enter Tryz.func124,Tryz.ntmps124
 go_upto_region 1 with fail
 clear hK
 generalize hW:((w.alloc (.cells #[F1 x0,F1 x1] 118)).alloc (.cells #[F1 y0,F1 y1] 118)).alloc (.cells #[F1 0,F1 0] 118)=W1 at *
 have W1b:Below w.heap.size w W1:=by subst hW;exact vc ..
 have hkept:=xg false false true hW;simp only[zr,zq,zo,zv,Nat.reduceAdd]at hkept;clear hW
 have hkept:=ze (keep hN W1b) hkept
 clear hN
 have hK:=hkept;simp only[zc,ka,kb,zb,kfa,kga]at hK
 have hb1:b<W1.heap.size:=Nat.lt_of_lt_of_le hb W1b.size
 go_wp2_with fail
 exact bodyPost_ret (v:=RgV x0 x1) (by simp[results,Tryz.results124,go_sem,hK,zf,zh];first|done|exact⟨rfl,rfl⟩) rfl ⟨_,_,rfl,rfl,y4 W1b (by omega) ..⟩

set_option maxRecDepth 100000 in
theorem zll {b o x0 x1 y0 y1:Nat} {w:World} (hN:zc [(⟨b,o,none⟩,.int .i64 14)] [] w) :
  Calls Tryz.prog 124 #[.pointer (some ⟨b,o,none⟩),RgV x0 x1,RgV y0 y1] w (x6 (cn .f32 x0,cn .f32 x1) w):=by
 have hK:=hN
 simp only[zc,ka,kb,zb,kfa,kga]at hK
 have hb:b<w.heap.size:=zg (a:=⟨b,o,none⟩) (by rw[hK];rfl)
 go_enter Tryz.func124,Tryz.ntmps124
 go_upto_region 1 with fail
 clear hK
 generalize hW:((w.alloc (.cells #[F1 x0,F1 x1] 118)).alloc (.cells #[F1 y0,F1 y1] 118)).alloc (.cells #[F1 0,F1 0] 118)=W1 at *
 have W1b:Below w.heap.size w W1:=by subst hW;exact vc ..
 have hkept:=xg false false true hW;simp only[zr,zq,zo,zv,Nat.reduceAdd]at hkept;clear hW
 have hkept:=ze (keep hN W1b) hkept
 clear hN
 have hK:=hkept;simp only[zc,ka,kb,zb,kfa,kga]at hK
 have hb1:b<W1.heap.size:=Nat.lt_of_lt_of_le hb W1b.size
 go_wp2_with fail
 exact bodyPost_ret (v:=RgV x0 x1) (by simp[results,Tryz.results124,go_sem,hK,zf,zh];first|done|exact⟨rfl,rfl⟩) rfl ⟨_,_,rfl,rfl,y4 W1b (by omega) ..⟩

theorem ze1 {n:PN} {b o:Nat} {w:World} (hn:NodeIn n b o w) (hok:n.ok) (hc:(zz n.kind).2.1 ≠ 0) (x0 x1 y0 y1:Nat) :
  Calls Tryz.prog 124 #[.pointer (some ⟨b,o,none⟩),RgV x0 x1,RgV y0 y1] w (x6 (zss n (cn .f32 x0,cn .f32 x1) (cn .f32 y0,cn .f32 y1)) w):=by
 obtain⟨bp,bv,ov,cap,h1,h2,h3⟩:=hn.nums
 have hk:=hn.kind
 have hr:=hok.kind
 have hl:=hok.nums
 obtain⟨k,na,nb,nums⟩:=n
 simp only at *
 have:k=0∨k=1∨k=2∨k=3∨k=4∨k=5∨k=6∨k=7∨k=8∨k=9∨k=10∨k=11∨k=12∨k=13∨k=14∨k=15∨k=16:=by omega
 have k1:∀ v,w.cell? ⟨b,o,none⟩=some v→zc [(⟨b,o,none⟩,v)] [] w:=fun v h=>kof (by intro p hp;simp at hp;subst hp;exact h)
 have k3:∀ v s f,w.cell? ⟨b,o,none⟩=some v→w.cell? ⟨b,o+3,none⟩=some s→w.cell? ⟨bv,ov,none⟩=some f→zc [(⟨b,o,none⟩,v),(⟨b,o+3,none⟩,s),(⟨bv,ov,none⟩,f)] [] w:=fun v s f h1 h2 h3=>kof (by intro p hp;simp at hp;rcases hp with rfl|rfl|rfl<;>assumption)
 rcases this with h|h|h|h|h|h|h|h|h|h|h|h|h|h|h|h|h<;>subst h
 iterate 5 exact absurd rfl hc
 ·exact zjs (k1 _ hk)
 ·exact zoa (k1 _ hk)
 ·exact zlx (k1 _ hk)
 ·obtain⟨r,rfl⟩:=uv hl
  have:=h2 (by simp)
  subst this
  exact zhe (k3 _ _ _ hk h1 (h3 0 (by simp)))
 ·exact znj (k1 _ hk)
 ·obtain⟨r,rfl⟩:=uv hl
  have:=h2 (by simp)
  subst this
  exact zjz (k3 _ _ _ hk h1 (h3 0 (by simp)))
 ·exact zg9 (k1 _ hk)
 ·exact zla (k1 _ hk)
 ·exact zh5 (k1 _ hk)
 ·exact zll (k1 _ hk)
 ·obtain⟨r,rfl⟩:=uv hl
  have:=h2 (by simp)
  subst this
  exact zjy (k3 _ _ _ hk h1 (h3 0 (by simp)))
 ·obtain⟨r,rfl⟩:=uv hl
  have:=h2 (by simp)
  subst this
  exact zjv (k3 _ _ _ hk h1 (h3 0 (by simp)))
end Go.Proofs.YtbiacfkiakddiaaGreat
