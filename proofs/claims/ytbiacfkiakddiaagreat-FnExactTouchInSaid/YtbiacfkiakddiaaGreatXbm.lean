/-
 Lemmas: V17,V18.
-/
import Derived.Test.YtbiacfkiakddiaaGreatXbl
set_option linter.unusedVariables false
set_option linter.unusedSimpArgs false
set_option maxHeartbeats 2000000
namespace Go.Proofs.YtbiacfkiakddiaaGreat
open Go.RowKit Go.Fl
inductive PhiPl:FuncId→Array Value→Value→Prop
 | sizer (a b l h:Nat) (e:(cn .f32 l,cn .f32 h)=yz (cn .f32 a,cn .f32 b)):PhiPl 215 #[RgV a b] (RgV l h)
 | fold (a b v l h:Nat) (e:(cn .f32 l,cn .f32 h)=vl (cn .f32 a,cn .f32 b) (cn .f32 v)):PhiPl 216 #[RgV a b,F1 v] (RgV l h)

set_option maxRecDepth 100000 in
theorem zhq {b o cap x0 x1 y0 y1 z0 z1:Nat} {bp:Option Addr} {w:World} (hN:zc [(⟨b,o,none⟩,.int .i64 13),(⟨b,o+2,none⟩,.int .i64 0),(⟨b,o+3,none⟩,.slice bp 0 cap)] [] w) :
  Calls Tryz.prog 134 #[.pointer (some ⟨b,o,none⟩),Rg3 x0 x1 y0 y1 z0 z1] w (vn (yz (cn .f32 x0,cn .f32 x1),(cn .f32 y0,cn .f32 y1),(cn .f32 z0,cn .f32 z1)) w):=by
 have hK:=hN
 simp only[zc,ka,kb,zb,kfa,kga]at hK
 have hb:b<w.heap.size:=zg (a:=⟨b,o,none⟩) (by rw[hK.1];rfl)
 go_enter Tryz.func134,Tryz.ntmps134
 go_upto_region 1 with fail
 clear hK
 generalize hW:(w.alloc (.cells #[F1 x0,F1 x1,F1 y0,F1 y1,F1 z0,F1 z1] 197)).alloc (.cells #[F1 0,F1 0,F1 0,F1 0,F1 0,F1 0] 197)=W1 at *
 have W1b:Below w.heap.size w W1:=by subst hW;exact xa ..
 have hkept:=yt true true hW;simp only[zr,zq,zo,zv,Nat.reduceAdd]at hkept;clear hW
 have hkept:=ze (keep hN W1b) hkept
 clear hN
 have hK:=hkept;simp only[zc,ka,kb,zb,kfa,kga]at hK
 have hb1:b<W1.heap.size:=Nat.lt_of_lt_of_le hb W1b.size
 go_upto_region 2 with fail
 refine Qr.wp_below_all (by kernel_rfl) (by kernel_rfl) PhiPl ?_
 repeat (first|(refine Qr.walk_plain rfl fun K hK=>?_;refine zk _ _ _ _ _ rfl _ _ _ rfl rfl rfl (fun r hr=>?_);go_simp;refine hK _ ?_;clear hK K)|(refine Qr.walk_plain rfl fun K hK=>?_;apply Qr.one_det;(focus (intro w' hw';have HK:=keep hkept hw';simp only[zc,ka,kb,zb,kfa,kga]at HK;go_simp;first|done|rfl));go_simp;refine hK _ ?_;clear hK K))
 refine Qr.walk_nil fun w6 hw6=>?_
 have hkept:=keep hkept hw6
 have W6b:=za W1b hw6
 clear hK
 have hK:=hkept
 simp only[zc,ka,kb,zb,kfa,kga]at hK
 go_upto_region 18 with fail
 refine Qr.wp_below 12 (by kernel_rfl) (by kernel_rfl) PhiPl ?_
 repeat (refine Qr.walk_plain rfl fun K hK=>?_;(first|(refine zk _ _ _ _ _ rfl _ _ _ rfl rfl rfl (fun r hr=>?_))|(apply Qr.one_det;(focus (intro w' hw';have HK:=keep hkept hw';simp only[zc,ka,kb,zb,kfa,kga]at HK;go_simp;first|done|rfl)))|(apply Qr.one_call;(focus (intro w' hw';go_simp;first|done|exact⟨rfl,rfl⟩));(focus (intro w' hw';go_at_call 215;refine (xq _ _ _).mono ?_;rintro _ w2⟨l1,u1,rfl,hr1,hb1⟩;exact⟨_,rfl,by constructor<;>assumption,za hw' ‹_›,by assumption⟩));intro v hv;cases hv));go_simp;refine hK _ ?_;clear hK K)
 rename_i l1 u1 e1
 refine Qr.walk_nil fun w8 hw8=>?_
 have hkept:=keep hkept hw8
 have W8b:=za W6b hw8
 clear hK
 have hK:=hkept
 simp only[zc,ka,kb,zb,kfa,kga]at hK
 go_upto_region 21 with fail
 have W9b:=(W8b.setCell (p:=⟨w.heap.size,0,none⟩) (Nat.le_refl _) (F1 l1)).setCell (p:=⟨w.heap.size,1,none⟩) (Nat.le_refl _) (F1 u1)
 have hkept:zc [(⟨w.heap.size,0,none⟩,F1 l1),(⟨w.heap.size,1,none⟩,F1 u1),(⟨w.heap.size,2,none⟩,F1 y0),(⟨w.heap.size,3,none⟩,F1 y1),(⟨w.heap.size,4,none⟩,F1 z0),(⟨w.heap.size,5,none⟩,F1 z1),(⟨w.heap.size+1,0,none⟩,F1 0),(⟨w.heap.size+1,1,none⟩,F1 0),(⟨w.heap.size+1,2,none⟩,F1 0),(⟨w.heap.size+1,3,none⟩,F1 0),(⟨w.heap.size+1,4,none⟩,F1 0),(⟨w.heap.size+1,5,none⟩,F1 0)] [⟨w.heap.size+1,0,none⟩,⟨w.heap.size+1,1,none⟩,⟨w.heap.size+1,2,none⟩,⟨w.heap.size+1,3,none⟩,⟨w.heap.size+1,4,none⟩,⟨w.heap.size+1,5,none⟩] ((w8.setCell ⟨w.heap.size,0,none⟩ (F1 l1)).setCell ⟨w.heap.size,1,none⟩ (F1 u1)):=by simp only[zc,ka,kb,zb,kfa,kga];simp[hK,go_sem,zf,zh,yk]
 clear hK
 generalize ((w8.setCell ⟨w.heap.size,0,none⟩ (F1 l1)).setCell ⟨w.heap.size,1,none⟩ (F1 u1))=W9 at *
 have hK:=hkept;simp only[zc,ka,kb,zb,kfa,kga]at hK
 go_wp2_with fail
 exact bodyPost_ret (v:=Rg3 l1 u1 y0 y1 z0 z1) (by simp[results,Tryz.results134,go_sem,hK,zf,zh];first|done|exact⟨rfl,rfl,rfl,rfl,rfl,rfl⟩) rfl ⟨_,_,_,_,_,_,rfl,e1,rfl,rfl,xr W9b (by omega) ..⟩

set_option maxRecDepth 100000 in
theorem zhi {b o cap x0 x1 y0 y1 z0 z1:Nat} {bp:Option Addr} {w:World} (hN:zc [(⟨b,o,none⟩,.int .i64 13),(⟨b,o+2,none⟩,.int .i64 1),(⟨b,o+3,none⟩,.slice bp 0 cap)] [] w) :
  Calls Tryz.prog 134 #[.pointer (some ⟨b,o,none⟩),Rg3 x0 x1 y0 y1 z0 z1] w (vn ((cn .f32 x0,cn .f32 x1),yz (cn .f32 y0,cn .f32 y1),(cn .f32 z0,cn .f32 z1)) w):=by
 have hK:=hN
 simp only[zc,ka,kb,zb,kfa,kga]at hK
 have hb:b<w.heap.size:=zg (a:=⟨b,o,none⟩) (by rw[hK.1];rfl)
 go_enter Tryz.func134,Tryz.ntmps134
 go_upto_region 1 with fail
 clear hK
 generalize hW:(w.alloc (.cells #[F1 x0,F1 x1,F1 y0,F1 y1,F1 z0,F1 z1] 197)).alloc (.cells #[F1 0,F1 0,F1 0,F1 0,F1 0,F1 0] 197)=W1 at *
 have W1b:Below w.heap.size w W1:=by subst hW;exact xa ..
 have hkept:=yt true true hW;simp only[zr,zq,zo,zv,Nat.reduceAdd]at hkept;clear hW
 have hkept:=ze (keep hN W1b) hkept
 clear hN
 have hK:=hkept;simp only[zc,ka,kb,zb,kfa,kga]at hK
 have hb1:b<W1.heap.size:=Nat.lt_of_lt_of_le hb W1b.size
 go_upto_region 2 with fail
 refine Qr.wp_below_all (by kernel_rfl) (by kernel_rfl) PhiPl ?_
 repeat (first|(refine Qr.walk_plain rfl fun K hK=>?_;refine zk _ _ _ _ _ rfl _ _ _ rfl rfl rfl (fun r hr=>?_);go_simp;refine hK _ ?_;clear hK K)|(refine Qr.walk_plain rfl fun K hK=>?_;apply Qr.one_det;(focus (intro w' hw';have HK:=keep hkept hw';simp only[zc,ka,kb,zb,kfa,kga]at HK;go_simp;first|done|rfl));go_simp;refine hK _ ?_;clear hK K))
 refine Qr.walk_nil fun w6 hw6=>?_
 have hkept:=keep hkept hw6
 have W6b:=za W1b hw6
 clear hK
 have hK:=hkept
 simp only[zc,ka,kb,zb,kfa,kga]at hK
 go_upto_region 18 with fail
 refine Qr.wp_below 12 (by kernel_rfl) (by kernel_rfl) PhiPl ?_
 repeat (refine Qr.walk_plain rfl fun K hK=>?_;(first|(refine zk _ _ _ _ _ rfl _ _ _ rfl rfl rfl (fun r hr=>?_))|(apply Qr.one_det;(focus (intro w' hw';have HK:=keep hkept hw';simp only[zc,ka,kb,zb,kfa,kga]at HK;go_simp;first|done|rfl)))|(apply Qr.one_call;(focus (intro w' hw';go_simp;first|done|exact⟨rfl,rfl⟩));(focus (intro w' hw';go_at_call 215;refine (xq _ _ _).mono ?_;rintro _ w2⟨l1,u1,rfl,hr1,hb1⟩;exact⟨_,rfl,by constructor<;>assumption,za hw' ‹_›,by assumption⟩));intro v hv;cases hv));go_simp;refine hK _ ?_;clear hK K)
 rename_i l1 u1 e1
 refine Qr.walk_nil fun w8 hw8=>?_
 have hkept:=keep hkept hw8
 have W8b:=za W6b hw8
 clear hK
 have hK:=hkept
 simp only[zc,ka,kb,zb,kfa,kga]at hK
 go_upto_region 21 with fail
 have W9b:=(W8b.setCell (p:=⟨w.heap.size,2,none⟩) (Nat.le_refl _) (F1 l1)).setCell (p:=⟨w.heap.size,3,none⟩) (Nat.le_refl _) (F1 u1)
 have hkept:zc [(⟨w.heap.size,0,none⟩,F1 x0),(⟨w.heap.size,1,none⟩,F1 x1),(⟨w.heap.size,2,none⟩,F1 l1),(⟨w.heap.size,3,none⟩,F1 u1),(⟨w.heap.size,4,none⟩,F1 z0),(⟨w.heap.size,5,none⟩,F1 z1),(⟨w.heap.size+1,0,none⟩,F1 0),(⟨w.heap.size+1,1,none⟩,F1 0),(⟨w.heap.size+1,2,none⟩,F1 0),(⟨w.heap.size+1,3,none⟩,F1 0),(⟨w.heap.size+1,4,none⟩,F1 0),(⟨w.heap.size+1,5,none⟩,F1 0)] [⟨w.heap.size+1,0,none⟩,⟨w.heap.size+1,1,none⟩,⟨w.heap.size+1,2,none⟩,⟨w.heap.size+1,3,none⟩,⟨w.heap.size+1,4,none⟩,⟨w.heap.size+1,5,none⟩] ((w8.setCell ⟨w.heap.size,2,none⟩ (F1 l1)).setCell ⟨w.heap.size,3,none⟩ (F1 u1)):=by simp only[zc,ka,kb,zb,kfa,kga];simp[hK,go_sem,zf,zh,yk]
 clear hK
 generalize ((w8.setCell ⟨w.heap.size,2,none⟩ (F1 l1)).setCell ⟨w.heap.size,3,none⟩ (F1 u1))=W9 at *
 have hK:=hkept;simp only[zc,ka,kb,zb,kfa,kga]at hK
 go_wp2_with fail
 exact bodyPost_ret (v:=Rg3 x0 x1 l1 u1 z0 z1) (by simp[results,Tryz.results134,go_sem,hK,zf,zh];first|done|exact⟨rfl,rfl,rfl,rfl,rfl,rfl⟩) rfl ⟨_,_,_,_,_,_,rfl,rfl,e1,rfl,xr W9b (by omega) ..⟩

set_option maxRecDepth 100000 in
theorem zhf {b o cap x0 x1 y0 y1 z0 z1:Nat} {bp:Option Addr} {w:World} (hN:zc [(⟨b,o,none⟩,.int .i64 13),(⟨b,o+2,none⟩,.int .i64 2),(⟨b,o+3,none⟩,.slice bp 0 cap)] [] w) :
  Calls Tryz.prog 134 #[.pointer (some ⟨b,o,none⟩),Rg3 x0 x1 y0 y1 z0 z1] w (vn ((cn .f32 x0,cn .f32 x1),(cn .f32 y0,cn .f32 y1),yz (cn .f32 z0,cn .f32 z1)) w):=by
 have hK:=hN
 simp only[zc,ka,kb,zb,kfa,kga]at hK
 have hb:b<w.heap.size:=zg (a:=⟨b,o,none⟩) (by rw[hK.1];rfl)
 go_enter Tryz.func134,Tryz.ntmps134
 go_upto_region 1 with fail
 clear hK
 generalize hW:(w.alloc (.cells #[F1 x0,F1 x1,F1 y0,F1 y1,F1 z0,F1 z1] 197)).alloc (.cells #[F1 0,F1 0,F1 0,F1 0,F1 0,F1 0] 197)=W1 at *
 have W1b:Below w.heap.size w W1:=by subst hW;exact xa ..
 have hkept:=yt true true hW;simp only[zr,zq,zo,zv,Nat.reduceAdd]at hkept;clear hW
 have hkept:=ze (keep hN W1b) hkept
 clear hN
 have hK:=hkept;simp only[zc,ka,kb,zb,kfa,kga]at hK
 have hb1:b<W1.heap.size:=Nat.lt_of_lt_of_le hb W1b.size
 go_upto_region 2 with fail
 refine Qr.wp_below_all (by kernel_rfl) (by kernel_rfl) PhiPl ?_
 repeat (first|(refine Qr.walk_plain rfl fun K hK=>?_;refine zk _ _ _ _ _ rfl _ _ _ rfl rfl rfl (fun r hr=>?_);go_simp;refine hK _ ?_;clear hK K)|(refine Qr.walk_plain rfl fun K hK=>?_;apply Qr.one_det;(focus (intro w' hw';have HK:=keep hkept hw';simp only[zc,ka,kb,zb,kfa,kga]at HK;go_simp;first|done|rfl));go_simp;refine hK _ ?_;clear hK K))
 refine Qr.walk_nil fun w6 hw6=>?_
 have hkept:=keep hkept hw6
 have W6b:=za W1b hw6
 clear hK
 have hK:=hkept
 simp only[zc,ka,kb,zb,kfa,kga]at hK
 go_upto_region 18 with fail
 refine Qr.wp_below 12 (by kernel_rfl) (by kernel_rfl) PhiPl ?_
 repeat (refine Qr.walk_plain rfl fun K hK=>?_;(first|(refine zk _ _ _ _ _ rfl _ _ _ rfl rfl rfl (fun r hr=>?_))|(apply Qr.one_det;(focus (intro w' hw';have HK:=keep hkept hw';simp only[zc,ka,kb,zb,kfa,kga]at HK;go_simp;first|done|rfl)))|(apply Qr.one_call;(focus (intro w' hw';go_simp;first|done|exact⟨rfl,rfl⟩));(focus (intro w' hw';go_at_call 215;refine (xq _ _ _).mono ?_;rintro _ w2⟨l1,u1,rfl,hr1,hb1⟩;exact⟨_,rfl,by constructor<;>assumption,za hw' ‹_›,by assumption⟩));intro v hv;cases hv));go_simp;refine hK _ ?_;clear hK K)
 rename_i l1 u1 e1
 refine Qr.walk_nil fun w8 hw8=>?_
 have hkept:=keep hkept hw8
 have W8b:=za W6b hw8
 clear hK
 have hK:=hkept
 simp only[zc,ka,kb,zb,kfa,kga]at hK
 go_upto_region 21 with fail
 have W9b:=(W8b.setCell (p:=⟨w.heap.size,4,none⟩) (Nat.le_refl _) (F1 l1)).setCell (p:=⟨w.heap.size,5,none⟩) (Nat.le_refl _) (F1 u1)
 have hkept:zc [(⟨w.heap.size,0,none⟩,F1 x0),(⟨w.heap.size,1,none⟩,F1 x1),(⟨w.heap.size,2,none⟩,F1 y0),(⟨w.heap.size,3,none⟩,F1 y1),(⟨w.heap.size,4,none⟩,F1 l1),(⟨w.heap.size,5,none⟩,F1 u1),(⟨w.heap.size+1,0,none⟩,F1 0),(⟨w.heap.size+1,1,none⟩,F1 0),(⟨w.heap.size+1,2,none⟩,F1 0),(⟨w.heap.size+1,3,none⟩,F1 0),(⟨w.heap.size+1,4,none⟩,F1 0),(⟨w.heap.size+1,5,none⟩,F1 0)] [⟨w.heap.size+1,0,none⟩,⟨w.heap.size+1,1,none⟩,⟨w.heap.size+1,2,none⟩,⟨w.heap.size+1,3,none⟩,⟨w.heap.size+1,4,none⟩,⟨w.heap.size+1,5,none⟩] ((w8.setCell ⟨w.heap.size,4,none⟩ (F1 l1)).setCell ⟨w.heap.size,5,none⟩ (F1 u1)):=by simp only[zc,ka,kb,zb,kfa,kga];simp[hK,go_sem,zf,zh,yk]
 clear hK
 generalize ((w8.setCell ⟨w.heap.size,4,none⟩ (F1 l1)).setCell ⟨w.heap.size,5,none⟩ (F1 u1))=W9 at *
 have hK:=hkept;simp only[zc,ka,kb,zb,kfa,kga]at hK
 go_wp2_with fail
 exact bodyPost_ret (v:=Rg3 x0 x1 y0 y1 l1 u1) (by simp[results,Tryz.results134,go_sem,hK,zf,zh];first|done|exact⟨rfl,rfl,rfl,rfl,rfl,rfl⟩) rfl ⟨_,_,_,_,_,_,rfl,rfl,rfl,e1,xr W9b (by omega) ..⟩

set_option maxRecDepth 100000 in
theorem zme {b o bv ov cap r0 x0 x1 y0 y1 z0 z1:Nat} {bp:Option Addr} {w:World} (hN:zc [(⟨b,o,none⟩,.int .i64 14),(⟨b,o+2,none⟩,.int .i64 0),(⟨b,o+3,none⟩,.slice (some ⟨bv,ov,none⟩) 1 cap),(⟨bv,ov,none⟩,F1 r0)] [] w) :
  Calls Tryz.prog 134 #[.pointer (some ⟨b,o,none⟩),Rg3 x0 x1 y0 y1 z0 z1] w (vn (vl (cn .f32 x0,cn .f32 x1) (cn .f32 r0),(cn .f32 y0,cn .f32 y1),(cn .f32 z0,cn .f32 z1)) w):=by
 have hK:=hN
 simp only[zc,ka,kb,zb,kfa,kga]at hK
 have hb:b<w.heap.size:=zg (a:=⟨b,o,none⟩) (by rw[hK.1];rfl)
 go_enter Tryz.func134,Tryz.ntmps134
 go_upto_region 1 with fail
 clear hK
 generalize hW:(w.alloc (.cells #[F1 x0,F1 x1,F1 y0,F1 y1,F1 z0,F1 z1] 197)).alloc (.cells #[F1 0,F1 0,F1 0,F1 0,F1 0,F1 0] 197)=W1 at *
 have W1b:Below w.heap.size w W1:=by subst hW;exact xa ..
 have hkept:=yt true true hW;simp only[zr,zq,zo,zv,Nat.reduceAdd]at hkept;clear hW
 have hkept:=ze (keep hN W1b) hkept
 clear hN
 have hK:=hkept;simp only[zc,ka,kb,zb,kfa,kga]at hK
 have hb1:b<W1.heap.size:=Nat.lt_of_lt_of_le hb W1b.size
 go_upto_region 2 with fail
 refine Qr.wp_below_all (by kernel_rfl) (by kernel_rfl) PhiPl ?_
 repeat (first|(refine Qr.walk_plain rfl fun K hK=>?_;refine zk _ _ _ _ _ rfl _ _ _ rfl rfl rfl (fun r hr=>?_);go_simp;refine hK _ ?_;clear hK K)|(refine Qr.walk_plain rfl fun K hK=>?_;apply Qr.one_det;(focus (intro w' hw';have HK:=keep hkept hw';simp only[zc,ka,kb,zb,kfa,kga]at HK;go_simp;first|done|rfl));go_simp;refine hK _ ?_;clear hK K))
 refine Qr.walk_nil fun w6 hw6=>?_
 have hkept:=keep hkept hw6
 have W6b:=za W1b hw6
 clear hK
 have hK:=hkept
 simp only[zc,ka,kb,zb,kfa,kga]at hK
 go_upto_region 20 with fail
 refine Qr.wp_below 15 (by kernel_rfl) (by kernel_rfl) PhiPl ?_
 repeat (refine Qr.walk_plain rfl fun K hK=>?_;(first|(refine zk _ _ _ _ _ rfl _ _ _ rfl rfl rfl (fun r hr=>?_))|(apply Qr.one_det;(focus (intro w' hw';have HK:=keep hkept hw';simp only[zc,ka,kb,zb,kfa,kga]at HK;go_simp;first|done|rfl)))|(apply Qr.one_call;(focus (intro w' hw';go_simp;first|done|exact⟨rfl,rfl⟩));(focus (intro w' hw';go_at_call 216;refine (zem _ _ _ _).mono ?_;rintro _ w2⟨l1,u1,rfl,hr1,hb1⟩;exact⟨_,rfl,by constructor<;>assumption,za hw' ‹_›,by assumption⟩));intro v hv;cases hv));go_simp;refine hK _ ?_;clear hK K)
 rename_i l1 u1 e1
 refine Qr.walk_nil fun w8 hw8=>?_
 have hkept:=keep hkept hw8
 have W8b:=za W6b hw8
 clear hK
 have hK:=hkept
 simp only[zc,ka,kb,zb,kfa,kga]at hK
 go_upto_region 21 with fail
 have W9b:=(W8b.setCell (p:=⟨w.heap.size,0,none⟩) (Nat.le_refl _) (F1 l1)).setCell (p:=⟨w.heap.size,1,none⟩) (Nat.le_refl _) (F1 u1)
 have hkept:zc [(⟨w.heap.size,0,none⟩,F1 l1),(⟨w.heap.size,1,none⟩,F1 u1),(⟨w.heap.size,2,none⟩,F1 y0),(⟨w.heap.size,3,none⟩,F1 y1),(⟨w.heap.size,4,none⟩,F1 z0),(⟨w.heap.size,5,none⟩,F1 z1),(⟨w.heap.size+1,0,none⟩,F1 0),(⟨w.heap.size+1,1,none⟩,F1 0),(⟨w.heap.size+1,2,none⟩,F1 0),(⟨w.heap.size+1,3,none⟩,F1 0),(⟨w.heap.size+1,4,none⟩,F1 0),(⟨w.heap.size+1,5,none⟩,F1 0)] [⟨w.heap.size+1,0,none⟩,⟨w.heap.size+1,1,none⟩,⟨w.heap.size+1,2,none⟩,⟨w.heap.size+1,3,none⟩,⟨w.heap.size+1,4,none⟩,⟨w.heap.size+1,5,none⟩] ((w8.setCell ⟨w.heap.size,0,none⟩ (F1 l1)).setCell ⟨w.heap.size,1,none⟩ (F1 u1)):=by simp only[zc,ka,kb,zb,kfa,kga];simp[hK,go_sem,zf,zh,yk]
 clear hK
 generalize ((w8.setCell ⟨w.heap.size,0,none⟩ (F1 l1)).setCell ⟨w.heap.size,1,none⟩ (F1 u1))=W9 at *
 have hK:=hkept;simp only[zc,ka,kb,zb,kfa,kga]at hK
 go_wp2_with fail
 exact bodyPost_ret (v:=Rg3 l1 u1 y0 y1 z0 z1) (by simp[results,Tryz.results134,go_sem,hK,zf,zh];first|done|exact⟨rfl,rfl,rfl,rfl,rfl,rfl⟩) rfl ⟨_,_,_,_,_,_,rfl,e1,rfl,rfl,xr W9b (by omega) ..⟩

set_option maxRecDepth 100000 in
theorem zm3 {b o bv ov cap r0 x0 x1 y0 y1 z0 z1:Nat} {bp:Option Addr} {w:World} (hN:zc [(⟨b,o,none⟩,.int .i64 14),(⟨b,o+2,none⟩,.int .i64 1),(⟨b,o+3,none⟩,.slice (some ⟨bv,ov,none⟩) 1 cap),(⟨bv,ov,none⟩,F1 r0)] [] w) :
  Calls Tryz.prog 134 #[.pointer (some ⟨b,o,none⟩),Rg3 x0 x1 y0 y1 z0 z1] w (vn ((cn .f32 x0,cn .f32 x1),vl (cn .f32 y0,cn .f32 y1) (cn .f32 r0),(cn .f32 z0,cn .f32 z1)) w):=by
 have hK:=hN
 simp only[zc,ka,kb,zb,kfa,kga]at hK
 have hb:b<w.heap.size:=zg (a:=⟨b,o,none⟩) (by rw[hK.1];rfl)
 go_enter Tryz.func134,Tryz.ntmps134
 go_upto_region 1 with fail
 clear hK
 generalize hW:(w.alloc (.cells #[F1 x0,F1 x1,F1 y0,F1 y1,F1 z0,F1 z1] 197)).alloc (.cells #[F1 0,F1 0,F1 0,F1 0,F1 0,F1 0] 197)=W1 at *
 have W1b:Below w.heap.size w W1:=by subst hW;exact xa ..
 have hkept:=yt true true hW;simp only[zr,zq,zo,zv,Nat.reduceAdd]at hkept;clear hW
 have hkept:=ze (keep hN W1b) hkept
 clear hN
 have hK:=hkept;simp only[zc,ka,kb,zb,kfa,kga]at hK
 have hb1:b<W1.heap.size:=Nat.lt_of_lt_of_le hb W1b.size
 go_upto_region 2 with fail
 refine Qr.wp_below_all (by kernel_rfl) (by kernel_rfl) PhiPl ?_
 repeat (first|(refine Qr.walk_plain rfl fun K hK=>?_;refine zk _ _ _ _ _ rfl _ _ _ rfl rfl rfl (fun r hr=>?_);go_simp;refine hK _ ?_;clear hK K)|(refine Qr.walk_plain rfl fun K hK=>?_;apply Qr.one_det;(focus (intro w' hw';have HK:=keep hkept hw';simp only[zc,ka,kb,zb,kfa,kga]at HK;go_simp;first|done|rfl));go_simp;refine hK _ ?_;clear hK K))
 refine Qr.walk_nil fun w6 hw6=>?_
 have hkept:=keep hkept hw6
 have W6b:=za W1b hw6
 clear hK
 have hK:=hkept
 simp only[zc,ka,kb,zb,kfa,kga]at hK
 go_upto_region 20 with fail
 refine Qr.wp_below 15 (by kernel_rfl) (by kernel_rfl) PhiPl ?_
 repeat (refine Qr.walk_plain rfl fun K hK=>?_;(first|(refine zk _ _ _ _ _ rfl _ _ _ rfl rfl rfl (fun r hr=>?_))|(apply Qr.one_det;(focus (intro w' hw';have HK:=keep hkept hw';simp only[zc,ka,kb,zb,kfa,kga]at HK;go_simp;first|done|rfl)))|(apply Qr.one_call;(focus (intro w' hw';go_simp;first|done|exact⟨rfl,rfl⟩));(focus (intro w' hw';go_at_call 216;refine (zem _ _ _ _).mono ?_;rintro _ w2⟨l1,u1,rfl,hr1,hb1⟩;exact⟨_,rfl,by constructor<;>assumption,za hw' ‹_›,by assumption⟩));intro v hv;cases hv));go_simp;refine hK _ ?_;clear hK K)
 rename_i l1 u1 e1
 refine Qr.walk_nil fun w8 hw8=>?_
 have hkept:=keep hkept hw8
 have W8b:=za W6b hw8
 clear hK
 have hK:=hkept
 simp only[zc,ka,kb,zb,kfa,kga]at hK
 go_upto_region 21 with fail
 have W9b:=(W8b.setCell (p:=⟨w.heap.size,2,none⟩) (Nat.le_refl _) (F1 l1)).setCell (p:=⟨w.heap.size,3,none⟩) (Nat.le_refl _) (F1 u1)
 have hkept:zc [(⟨w.heap.size,0,none⟩,F1 x0),(⟨w.heap.size,1,none⟩,F1 x1),(⟨w.heap.size,2,none⟩,F1 l1),(⟨w.heap.size,3,none⟩,F1 u1),(⟨w.heap.size,4,none⟩,F1 z0),(⟨w.heap.size,5,none⟩,F1 z1),(⟨w.heap.size+1,0,none⟩,F1 0),(⟨w.heap.size+1,1,none⟩,F1 0),(⟨w.heap.size+1,2,none⟩,F1 0),(⟨w.heap.size+1,3,none⟩,F1 0),(⟨w.heap.size+1,4,none⟩,F1 0),(⟨w.heap.size+1,5,none⟩,F1 0)] [⟨w.heap.size+1,0,none⟩,⟨w.heap.size+1,1,none⟩,⟨w.heap.size+1,2,none⟩,⟨w.heap.size+1,3,none⟩,⟨w.heap.size+1,4,none⟩,⟨w.heap.size+1,5,none⟩] ((w8.setCell ⟨w.heap.size,2,none⟩ (F1 l1)).setCell ⟨w.heap.size,3,none⟩ (F1 u1)):=by simp only[zc,ka,kb,zb,kfa,kga];simp[hK,go_sem,zf,zh,yk]
 clear hK
 generalize ((w8.setCell ⟨w.heap.size,2,none⟩ (F1 l1)).setCell ⟨w.heap.size,3,none⟩ (F1 u1))=W9 at *
 have hK:=hkept;simp only[zc,ka,kb,zb,kfa,kga]at hK
 go_wp2_with fail
 exact bodyPost_ret (v:=Rg3 x0 x1 l1 u1 z0 z1) (by simp[results,Tryz.results134,go_sem,hK,zf,zh];first|done|exact⟨rfl,rfl,rfl,rfl,rfl,rfl⟩) rfl ⟨_,_,_,_,_,_,rfl,rfl,e1,rfl,xr W9b (by omega) ..⟩

set_option maxRecDepth 100000 in
theorem zky {b o bv ov cap r0 x0 x1 y0 y1 z0 z1:Nat} {bp:Option Addr} {w:World} (hN:zc [(⟨b,o,none⟩,.int .i64 14),(⟨b,o+2,none⟩,.int .i64 2),(⟨b,o+3,none⟩,.slice (some ⟨bv,ov,none⟩) 1 cap),(⟨bv,ov,none⟩,F1 r0)] [] w) :
  Calls Tryz.prog 134 #[.pointer (some ⟨b,o,none⟩),Rg3 x0 x1 y0 y1 z0 z1] w (vn ((cn .f32 x0,cn .f32 x1),(cn .f32 y0,cn .f32 y1),vl (cn .f32 z0,cn .f32 z1) (cn .f32 r0)) w):=by
 have hK:=hN
 simp only[zc,ka,kb,zb,kfa,kga]at hK
 have hb:b<w.heap.size:=zg (a:=⟨b,o,none⟩) (by rw[hK.1];rfl)
 go_enter Tryz.func134,Tryz.ntmps134
 go_upto_region 1 with fail
 clear hK
 generalize hW:(w.alloc (.cells #[F1 x0,F1 x1,F1 y0,F1 y1,F1 z0,F1 z1] 197)).alloc (.cells #[F1 0,F1 0,F1 0,F1 0,F1 0,F1 0] 197)=W1 at *
 have W1b:Below w.heap.size w W1:=by subst hW;exact xa ..
 have hkept:=yt true true hW;simp only[zr,zq,zo,zv,Nat.reduceAdd]at hkept;clear hW
 have hkept:=ze (keep hN W1b) hkept
 clear hN
 have hK:=hkept;simp only[zc,ka,kb,zb,kfa,kga]at hK
 have hb1:b<W1.heap.size:=Nat.lt_of_lt_of_le hb W1b.size
 go_upto_region 2 with fail
 refine Qr.wp_below_all (by kernel_rfl) (by kernel_rfl) PhiPl ?_
 repeat (first|(refine Qr.walk_plain rfl fun K hK=>?_;refine zk _ _ _ _ _ rfl _ _ _ rfl rfl rfl (fun r hr=>?_);go_simp;refine hK _ ?_;clear hK K)|(refine Qr.walk_plain rfl fun K hK=>?_;apply Qr.one_det;(focus (intro w' hw';have HK:=keep hkept hw';simp only[zc,ka,kb,zb,kfa,kga]at HK;go_simp;first|done|rfl));go_simp;refine hK _ ?_;clear hK K))
 refine Qr.walk_nil fun w6 hw6=>?_
 have hkept:=keep hkept hw6
 have W6b:=za W1b hw6
 clear hK
 have hK:=hkept
 simp only[zc,ka,kb,zb,kfa,kga]at hK
 go_upto_region 20 with fail
 refine Qr.wp_below 15 (by kernel_rfl) (by kernel_rfl) PhiPl ?_
 repeat (refine Qr.walk_plain rfl fun K hK=>?_;(first|(refine zk _ _ _ _ _ rfl _ _ _ rfl rfl rfl (fun r hr=>?_))|(apply Qr.one_det;(focus (intro w' hw';have HK:=keep hkept hw';simp only[zc,ka,kb,zb,kfa,kga]at HK;go_simp;first|done|rfl)))|(apply Qr.one_call;(focus (intro w' hw';go_simp;first|done|exact⟨rfl,rfl⟩));(focus (intro w' hw';go_at_call 216;refine (zem _ _ _ _).mono ?_;rintro _ w2⟨l1,u1,rfl,hr1,hb1⟩;exact⟨_,rfl,by constructor<;>assumption,za hw' ‹_›,by assumption⟩));intro v hv;cases hv));go_simp;refine hK _ ?_;clear hK K)
 rename_i l1 u1 e1
 refine Qr.walk_nil fun w8 hw8=>?_
 have hkept:=keep hkept hw8
 have W8b:=za W6b hw8
 clear hK
 have hK:=hkept
 simp only[zc,ka,kb,zb,kfa,kga]at hK
 go_upto_region 21 with fail
 have W9b:=(W8b.setCell (p:=⟨w.heap.size,4,none⟩) (Nat.le_refl _) (F1 l1)).setCell (p:=⟨w.heap.size,5,none⟩) (Nat.le_refl _) (F1 u1)
 have hkept:zc [(⟨w.heap.size,0,none⟩,F1 x0),(⟨w.heap.size,1,none⟩,F1 x1),(⟨w.heap.size,2,none⟩,F1 y0),(⟨w.heap.size,3,none⟩,F1 y1),(⟨w.heap.size,4,none⟩,F1 l1),(⟨w.heap.size,5,none⟩,F1 u1),(⟨w.heap.size+1,0,none⟩,F1 0),(⟨w.heap.size+1,1,none⟩,F1 0),(⟨w.heap.size+1,2,none⟩,F1 0),(⟨w.heap.size+1,3,none⟩,F1 0),(⟨w.heap.size+1,4,none⟩,F1 0),(⟨w.heap.size+1,5,none⟩,F1 0)] [⟨w.heap.size+1,0,none⟩,⟨w.heap.size+1,1,none⟩,⟨w.heap.size+1,2,none⟩,⟨w.heap.size+1,3,none⟩,⟨w.heap.size+1,4,none⟩,⟨w.heap.size+1,5,none⟩] ((w8.setCell ⟨w.heap.size,4,none⟩ (F1 l1)).setCell ⟨w.heap.size,5,none⟩ (F1 u1)):=by simp only[zc,ka,kb,zb,kfa,kga];simp[hK,go_sem,zf,zh,yk]
 clear hK
 generalize ((w8.setCell ⟨w.heap.size,4,none⟩ (F1 l1)).setCell ⟨w.heap.size,5,none⟩ (F1 u1))=W9 at *
 have hK:=hkept;simp only[zc,ka,kb,zb,kfa,kga]at hK
 go_wp2_with fail
 exact bodyPost_ret (v:=Rg3 x0 x1 y0 y1 l1 u1) (by simp[results,Tryz.results134,go_sem,hK,zf,zh];first|done|exact⟨rfl,rfl,rfl,rfl,rfl,rfl⟩) rfl ⟨_,_,_,_,_,_,rfl,rfl,rfl,e1,xr W9b (by omega) ..⟩

set_option maxRecDepth 100000 in
theorem zm9 {b o bv ov cap r0 x0 x1 y0 y1 z0 z1:Nat} {bp:Option Addr} {w:World} (hN:zc [(⟨b,o,none⟩,.int .i64 15),(⟨b,o+2,none⟩,.int .i64 0),(⟨b,o+3,none⟩,.slice (some ⟨bv,ov,none⟩) 1 cap),(⟨bv,ov,none⟩,F1 r0)] [] w) :
  Calls Tryz.prog 134 #[.pointer (some ⟨b,o,none⟩),Rg3 x0 x1 y0 y1 z0 z1] w (vn ((cn .f32 x0,cn .f32 x1),(cn .f32 y0,cn .f32 y1),(cn .f32 z0,cn .f32 z1)) w):=by
 have hK:=hN
 simp only[zc,ka,kb,zb,kfa,kga]at hK
 have hb:b<w.heap.size:=zg (a:=⟨b,o,none⟩) (by rw[hK.1];rfl)
 go_enter Tryz.func134,Tryz.ntmps134
 go_upto_region 1 with fail
 clear hK
 generalize hW:(w.alloc (.cells #[F1 x0,F1 x1,F1 y0,F1 y1,F1 z0,F1 z1] 197)).alloc (.cells #[F1 0,F1 0,F1 0,F1 0,F1 0,F1 0] 197)=W1 at *
 have W1b:Below w.heap.size w W1:=by subst hW;exact xa ..
 have hkept:=yt true true hW;simp only[zr,zq,zo,zv,Nat.reduceAdd]at hkept;clear hW
 have hkept:=ze (keep hN W1b) hkept
 clear hN
 have hK:=hkept;simp only[zc,ka,kb,zb,kfa,kga]at hK
 have hb1:b<W1.heap.size:=Nat.lt_of_lt_of_le hb W1b.size
 go_upto_region 2 with fail
 refine Qr.wp_below_all (by kernel_rfl) (by kernel_rfl) PhiPl ?_
 repeat (first|(refine Qr.walk_plain rfl fun K hK=>?_;refine zk _ _ _ _ _ rfl _ _ _ rfl rfl rfl (fun r hr=>?_);go_simp;refine hK _ ?_;clear hK K)|(refine Qr.walk_plain rfl fun K hK=>?_;apply Qr.one_det;(focus (intro w' hw';have HK:=keep hkept hw';simp only[zc,ka,kb,zb,kfa,kga]at HK;go_simp;first|done|rfl));go_simp;refine hK _ ?_;clear hK K))
 refine Qr.walk_nil fun w6 hw6=>?_
 have hkept:=keep hkept hw6
 have W6b:=za W1b hw6
 clear hK
 have hK:=hkept
 simp only[zc,ka,kb,zb,kfa,kga]at hK
 go_wp2_with fail
 exact bodyPost_ret (v:=Rg3 x0 x1 y0 y1 z0 z1) (by simp[results,Tryz.results134,go_sem,hK,zf,zh];first|done|exact⟨rfl,rfl,rfl,rfl,rfl,rfl⟩) rfl ⟨_,_,_,_,_,_,rfl,rfl,rfl,rfl,xr W6b (by omega) ..⟩

set_option maxRecDepth 100000 in
theorem znn {b o bv ov cap r0 x0 x1 y0 y1 z0 z1:Nat} {bp:Option Addr} {w:World} (hN:zc [(⟨b,o,none⟩,.int .i64 16),(⟨b,o+2,none⟩,.int .i64 0),(⟨b,o+3,none⟩,.slice (some ⟨bv,ov,none⟩) 1 cap),(⟨bv,ov,none⟩,F1 r0)] [] w) :
  Calls Tryz.prog 134 #[.pointer (some ⟨b,o,none⟩),Rg3 x0 x1 y0 y1 z0 z1] w (vn ((cn .f32 x0,cn .f32 x1),(cn .f32 y0,cn .f32 y1),(cn .f32 z0,cn .f32 z1)) w):=by
 have hK:=hN
 simp only[zc,ka,kb,zb,kfa,kga]at hK
 have hb:b<w.heap.size:=zg (a:=⟨b,o,none⟩) (by rw[hK.1];rfl)
 go_enter Tryz.func134,Tryz.ntmps134
 go_upto_region 1 with fail
 clear hK
 generalize hW:(w.alloc (.cells #[F1 x0,F1 x1,F1 y0,F1 y1,F1 z0,F1 z1] 197)).alloc (.cells #[F1 0,F1 0,F1 0,F1 0,F1 0,F1 0] 197)=W1 at *
 have W1b:Below w.heap.size w W1:=by subst hW;exact xa ..
 have hkept:=yt true true hW;simp only[zr,zq,zo,zv,Nat.reduceAdd]at hkept;clear hW
 have hkept:=ze (keep hN W1b) hkept
 clear hN
 have hK:=hkept;simp only[zc,ka,kb,zb,kfa,kga]at hK
 have hb1:b<W1.heap.size:=Nat.lt_of_lt_of_le hb W1b.size
 go_upto_region 2 with fail
 refine Qr.wp_below_all (by kernel_rfl) (by kernel_rfl) PhiPl ?_
 repeat (first|(refine Qr.walk_plain rfl fun K hK=>?_;refine zk _ _ _ _ _ rfl _ _ _ rfl rfl rfl (fun r hr=>?_);go_simp;refine hK _ ?_;clear hK K)|(refine Qr.walk_plain rfl fun K hK=>?_;apply Qr.one_det;(focus (intro w' hw';have HK:=keep hkept hw';simp only[zc,ka,kb,zb,kfa,kga]at HK;go_simp;first|done|rfl));go_simp;refine hK _ ?_;clear hK K))
 refine Qr.walk_nil fun w6 hw6=>?_
 have hkept:=keep hkept hw6
 have W6b:=za W1b hw6
 clear hK
 have hK:=hkept
 simp only[zc,ka,kb,zb,kfa,kga]at hK
 go_wp2_with fail
 exact bodyPost_ret (v:=Rg3 x0 x1 y0 y1 z0 z1) (by simp[results,Tryz.results134,go_sem,hK,zf,zh];first|done|exact⟨rfl,rfl,rfl,rfl,rfl,rfl⟩) rfl ⟨_,_,_,_,_,_,rfl,rfl,rfl,rfl,xr W6b (by omega) ..⟩

end Go.Proofs.YtbiacfkiakddiaaGreat
