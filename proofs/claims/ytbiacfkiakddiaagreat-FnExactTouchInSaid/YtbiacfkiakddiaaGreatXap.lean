/-
 Lemmas: W7.
-/
import Derived.Test.YtbiacfkiakddiaaGreatXan
set_option linter.unusedVariables false
set_option linter.unusedSimpArgs false
set_option maxHeartbeats 2000000
namespace Go.Proofs.YtbiacfkiakddiaaGreat
open Go.RowKit Go.Fl
set_option maxRecDepth 100000 in
theorem zmc {b o bv ov r0 cap x y z:Nat} {w:World} (hkept:zc [(⟨b,o,none⟩,.int .i64 14),(⟨b,o+2,none⟩,.int .i64 0),(⟨b,o+3,none⟩,.slice (some ⟨bv,ov,none⟩) 1 cap),(⟨bv,ov,none⟩,F1 r0)] [] w) :
  Calls Tryz.prog 235 #[.pointer (some ⟨b,o,none⟩),V3 x y z] w (ut (y7 (cn .f32 x) (cn .f32 r0)) (cn .f32 y) (cn .f32 z) w):=by
 have hK:=hkept
 simp only[zc,ka,kb,zb,kfa,kga]at hK
 have hb:b<w.heap.size:=zg (a:=⟨b,o,none⟩) (by rw[hK.1];rfl)
 have hb1:b<w.heap.size+1:=by omega
 go_enter Tryz.func235,Tryz.ntmps235
 go_wp2_with fail
 have W0b:Below w.heap.size w ((w.alloc (.cells #[F1 x,F1 y,F1 z] 38)).alloc (.cells #[F1 0,F1 0,F1 0] 38)):=(by repeat' (first|exact zi _ _|refine zd ?_ _|refine Below.alloc ?_ (by simp<;>omega) _|refine zj ?_ (by simp<;>omega) _|refine za ?_ ‹_›))
 have hkept:=ze (keep hkept W0b) (show zc [(⟨w.heap.size,0,none⟩,F1 x),(⟨w.heap.size,1,none⟩,F1 y),(⟨w.heap.size,2,none⟩,F1 z),(⟨w.heap.size+1,0,none⟩,F1 0),(⟨w.heap.size+1,1,none⟩,F1 0),(⟨w.heap.size+1,2,none⟩,F1 0)] [⟨w.heap.size+1,0,none⟩,⟨w.heap.size+1,1,none⟩,⟨w.heap.size+1,2,none⟩] ((w.alloc (.cells #[F1 x,F1 y,F1 z] 38)).alloc (.cells #[F1 0,F1 0,F1 0] 38)) by
  simp only[zc,ka,kb,zb,kfa,kga];simp)
 clear hK
 generalize (w.alloc (.cells #[F1 x,F1 y,F1 z] 38)).alloc (.cells #[F1 0,F1 0,F1 0] 38)=W1 at W0b hkept ⊢
 have hjW:=hkept
 refine Qr.wp_made 8 6 6 #[F1 0,F1 0,F1 0] 194 (by kernel_rfl) (by kernel_rfl) PhiF rfl (by kernel_rfl) ⟨_,rfl,rfl,fun a w=>by go_simp⟩ (by kernel_rfl) ?_
 repeat (first|(refine Qr.walk_plain rfl fun K hK=>?_;refine Qr.one_rel (fun v=>∃ g,v=.pointer (some ⟨g,0,none⟩)) (fun w' hw'=>⟨.pointer (some ⟨w'.heap.size,0,none⟩),_,by go_simp;rfl,⟨_,rfl⟩,hw'.alloc hw'.size _,zt ..⟩) (fun v hv=>?_);obtain⟨g,rfl⟩:=hv;go_simp;refine hK _ ?_;clear hK K)|(refine Qr.walk_plain rfl fun K hK=>?_;(first|(refine zk _ _ _ _ _ rfl _ _ _ rfl rfl rfl (fun r hr=>?_))|(apply Qr.one_det;(focus (intro w' hw';have HK:=keep hkept hw';simp only[zc,ka,kb,zb,kfa,kga]at HK;go_simp;first|done|rfl)))|(apply Qr.one_call;(focus (intro w' hw';go_simp;first|done|exact⟨rfl,rfl⟩));(focus (intro w' hw';first|((first|(go_at_call 90;refine (yb _ _).mono ?_)|(go_at_call 262;refine (yi _ _ _).mono ?_)|(go_at_call 211;refine (yh _ _).mono ?_));rintro _ w2⟨r1,rfl,hr1,hb1⟩;exact⟨_,rfl,by constructor<;>assumption,za hw' ‹_›,by assumption⟩)|((first|(go_at_call 133;refine (ya _ _ _ _).mono ?_)|(go_at_call 227;refine (zx _ _ _ _).mono ?_));rintro _ w2⟨rfl,hb1⟩;exact⟨_,rfl,by constructor<;>assumption,za hw' ‹_›,by assumption⟩)|(go_at_call 178;refine (yj _ _ _ _ _ _ _).mono ?_;rintro _ w2⟨x1,y1,z1,rfl,hx1,hy1,hz1,hb1⟩;exact⟨_,rfl,by constructor<;>assumption,za hw' ‹_›,by assumption⟩)));intro v hv;cases hv));go_simp;refine hK _ ?_;clear hK K))
 refine Qr.walk_nil fun w3 hw3 hmade=>?_
 obtain⟨g3,hg3,hgw,hgc⟩:=hmade _ rfl
 injection hg3 with hg3
 injection hg3 with hg3
 subst hg3
 obtain⟨hc0,hc1,hc2,hf0,hf1,hf2⟩:=vw hgc
 go_wp2_with fail
 have hset:=zca hgc (F1 x) (F1 y) (F1 z)
 have hbw:=hw3.trans (hset.2.mono hgw)
 clear hc0 hc1 hc2 hf0 hf1 hf2 hgc hw3
 generalize ((w3.setCell ⟨g,0,none⟩ (F1 x)).setCell ⟨g,1,none⟩ (F1 y)).setCell ⟨g,2,none⟩ (F1 z)=w4 at hset hbw ⊢
 have hkept:=ze (keep hkept hbw) (za4 hset.1)
 have W4b:=za W0b hbw
 have hgt:w.heap.size+1<g:=by
  have:=zg (w:=W1) (a:=⟨w.heap.size+1,0,none⟩) (by have hK1:=hjW;simp only[zc,ka,kb,zb,kfa,kga]at hK1;simp[hK1])
  exact Nat.lt_of_lt_of_le this hgw
 clear hset hbw W0b hgw hjW
 refine Qr.wp_below_all (by kernel_rfl) (by kernel_rfl) PhiF ?_
 repeat (refine Qr.walk_plain rfl fun K hK=>?_;(first|(refine zk _ _ _ _ _ rfl _ _ _ rfl rfl rfl (fun r hr=>?_))|(apply Qr.one_det;(focus (intro w' hw';have HK:=keep hkept hw';simp only[zc,ka,kb,zb,kfa,kga]at HK;go_simp;first|done|rfl)))|(apply Qr.one_call;(focus (intro w' hw';go_simp;first|done|exact⟨rfl,rfl⟩));(focus (intro w' hw';first|((first|(go_at_call 90;refine (yb _ _).mono ?_)|(go_at_call 262;refine (yi _ _ _).mono ?_)|(go_at_call 211;refine (yh _ _).mono ?_));rintro _ w2⟨r1,rfl,hr1,hb1⟩;exact⟨_,rfl,by constructor<;>assumption,za hw' ‹_›,by assumption⟩)|((first|(go_at_call 133;refine (ya _ _ _ _).mono ?_)|(go_at_call 227;refine (zx _ _ _ _).mono ?_));rintro _ w2⟨rfl,hb1⟩;exact⟨_,rfl,by constructor<;>assumption,za hw' ‹_›,by assumption⟩)|(go_at_call 178;refine (yj _ _ _ _ _ _ _).mono ?_;rintro _ w2⟨x1,y1,z1,rfl,hx1,hy1,hz1,hb1⟩;exact⟨_,rfl,by constructor<;>assumption,za hw' ‹_›,by assumption⟩)));intro v hv;cases hv));go_simp;refine hK _ ?_;clear hK K)
 refine Qr.walk_nil fun w5 hw5=>?_
 have hkept:=keep hkept hw5
 have W5b:=za W4b hw5
 clear hw5 W4b
 have hK:=hkept
 simp only[zc,ka,kb,zb,kfa,kga]at hK
 go_wp2_with fail
 clear hK
 refine Qr.wp_below 23 (by kernel_rfl) (by kernel_rfl) PhiF ?_
 repeat (refine Qr.walk_plain rfl fun K hK=>?_;(first|(refine zk _ _ _ _ _ rfl _ _ _ rfl rfl rfl (fun r hr=>?_))|(apply Qr.one_det;(focus (intro w' hw';have HK:=keep hkept hw';simp only[zc,ka,kb,zb,kfa,kga]at HK;go_simp;first|done|rfl)))|(apply Qr.one_call;(focus (intro w' hw';go_simp;first|done|exact⟨rfl,rfl⟩));(focus (intro w' hw';first|((first|(go_at_call 90;refine (yb _ _).mono ?_)|(go_at_call 262;refine (yi _ _ _).mono ?_)|(go_at_call 211;refine (yh _ _).mono ?_));rintro _ w2⟨r1,rfl,hr1,hb1⟩;exact⟨_,rfl,by constructor<;>assumption,za hw' ‹_›,by assumption⟩)|((first|(go_at_call 133;refine (ya _ _ _ _).mono ?_)|(go_at_call 227;refine (zx _ _ _ _).mono ?_));rintro _ w2⟨rfl,hb1⟩;exact⟨_,rfl,by constructor<;>assumption,za hw' ‹_›,by assumption⟩)|(go_at_call 178;refine (yj _ _ _ _ _ _ _).mono ?_;rintro _ w2⟨x1,y1,z1,rfl,hx1,hy1,hz1,hb1⟩;exact⟨_,rfl,by constructor<;>assumption,za hw' ‹_›,by assumption⟩)));intro v hv;cases hv));go_simp;refine hK _ ?_;clear hK K)
 refine Qr.walk_nil fun w6 hw6=>?_
 have hkept:=keep hkept hw6
 have W6b:=za W5b hw6
 have hK:=hkept
 simp only[zc,ka,kb,zb,kfa,kga]at hK
 have hres:zc [(⟨w.heap.size+1,0,none⟩,F1 0),(⟨w.heap.size+1,1,none⟩,F1 0),(⟨w.heap.size+1,2,none⟩,F1 0)] [⟨w.heap.size+1,0,none⟩,⟨w.heap.size+1,1,none⟩,⟨w.heap.size+1,2,none⟩] w6:=by
  simp only[zc,ka,kb,zb,kfa,kga];simp[hK]
 go_wp2_with fail
 refine (zx _ _ _ _).mono ?_
 rintro _ w7⟨rfl,hb7⟩
 have hres:=keep (vy hres (by simp;omega) (by simp;omega) _) hb7
 have W7b:=za (W6b.setCell (p:=⟨g,_,none⟩) (by show w.heap.size≤g;omega) _) hb7
 clear hK
 have hK:=hres
 simp only[zc,ka,kb,zb,kfa,kga]at hK
 go_wp2_with fail
 obtain⟨hk1,hk2⟩:=hK
 exact bodyPost_ret (v:=.agg #[F1 _,F1 _,F1 _]) (by simp[results,Tryz.results235,go_sem,hk1,hk2];exact⟨rfl,rfl,rfl⟩) rfl ⟨_,_,_,rfl,by first|rfl|assumption|simp only[y7,yr,y8,xe, *],by first|rfl|assumption|simp only[y7,yr,y8,xe, *],by first|rfl|assumption|simp only[y7,yr,y8,xe, *],(W7b.setCell (by exact Nat.le_succ _) _).setCell (by exact Nat.le_succ _) _ |>.setCell (by exact Nat.le_succ _) _⟩

set_option maxRecDepth 100000 in
theorem zk8 {b o bv ov r0 cap x y z:Nat} {w:World} (hkept:zc [(⟨b,o,none⟩,.int .i64 14),(⟨b,o+2,none⟩,.int .i64 1),(⟨b,o+3,none⟩,.slice (some ⟨bv,ov,none⟩) 1 cap),(⟨bv,ov,none⟩,F1 r0)] [] w) :
  Calls Tryz.prog 235 #[.pointer (some ⟨b,o,none⟩),V3 x y z] w (ut (cn .f32 x) (y7 (cn .f32 y) (cn .f32 r0)) (cn .f32 z) w):=by
 have hK:=hkept
 simp only[zc,ka,kb,zb,kfa,kga]at hK
 have hb:b<w.heap.size:=zg (a:=⟨b,o,none⟩) (by rw[hK.1];rfl)
 have hb1:b<w.heap.size+1:=by omega
 go_enter Tryz.func235,Tryz.ntmps235
 go_wp2_with fail
 have W0b:Below w.heap.size w ((w.alloc (.cells #[F1 x,F1 y,F1 z] 38)).alloc (.cells #[F1 0,F1 0,F1 0] 38)):=(by repeat' (first|exact zi _ _|refine zd ?_ _|refine Below.alloc ?_ (by simp<;>omega) _|refine zj ?_ (by simp<;>omega) _|refine za ?_ ‹_›))
 have hkept:=ze (keep hkept W0b) (show zc [(⟨w.heap.size,0,none⟩,F1 x),(⟨w.heap.size,1,none⟩,F1 y),(⟨w.heap.size,2,none⟩,F1 z),(⟨w.heap.size+1,0,none⟩,F1 0),(⟨w.heap.size+1,1,none⟩,F1 0),(⟨w.heap.size+1,2,none⟩,F1 0)] [⟨w.heap.size+1,0,none⟩,⟨w.heap.size+1,1,none⟩,⟨w.heap.size+1,2,none⟩] ((w.alloc (.cells #[F1 x,F1 y,F1 z] 38)).alloc (.cells #[F1 0,F1 0,F1 0] 38)) by
  simp only[zc,ka,kb,zb,kfa,kga];simp)
 clear hK
 generalize (w.alloc (.cells #[F1 x,F1 y,F1 z] 38)).alloc (.cells #[F1 0,F1 0,F1 0] 38)=W1 at W0b hkept ⊢
 have hjW:=hkept
 refine Qr.wp_made 8 6 6 #[F1 0,F1 0,F1 0] 194 (by kernel_rfl) (by kernel_rfl) PhiF rfl (by kernel_rfl) ⟨_,rfl,rfl,fun a w=>by go_simp⟩ (by kernel_rfl) ?_
 repeat (first|(refine Qr.walk_plain rfl fun K hK=>?_;refine Qr.one_rel (fun v=>∃ g,v=.pointer (some ⟨g,0,none⟩)) (fun w' hw'=>⟨.pointer (some ⟨w'.heap.size,0,none⟩),_,by go_simp;rfl,⟨_,rfl⟩,hw'.alloc hw'.size _,zt ..⟩) (fun v hv=>?_);obtain⟨g,rfl⟩:=hv;go_simp;refine hK _ ?_;clear hK K)|(refine Qr.walk_plain rfl fun K hK=>?_;(first|(refine zk _ _ _ _ _ rfl _ _ _ rfl rfl rfl (fun r hr=>?_))|(apply Qr.one_det;(focus (intro w' hw';have HK:=keep hkept hw';simp only[zc,ka,kb,zb,kfa,kga]at HK;go_simp;first|done|rfl)))|(apply Qr.one_call;(focus (intro w' hw';go_simp;first|done|exact⟨rfl,rfl⟩));(focus (intro w' hw';first|((first|(go_at_call 90;refine (yb _ _).mono ?_)|(go_at_call 262;refine (yi _ _ _).mono ?_)|(go_at_call 211;refine (yh _ _).mono ?_));rintro _ w2⟨r1,rfl,hr1,hb1⟩;exact⟨_,rfl,by constructor<;>assumption,za hw' ‹_›,by assumption⟩)|((first|(go_at_call 133;refine (ya _ _ _ _).mono ?_)|(go_at_call 227;refine (zx _ _ _ _).mono ?_));rintro _ w2⟨rfl,hb1⟩;exact⟨_,rfl,by constructor<;>assumption,za hw' ‹_›,by assumption⟩)|(go_at_call 178;refine (yj _ _ _ _ _ _ _).mono ?_;rintro _ w2⟨x1,y1,z1,rfl,hx1,hy1,hz1,hb1⟩;exact⟨_,rfl,by constructor<;>assumption,za hw' ‹_›,by assumption⟩)));intro v hv;cases hv));go_simp;refine hK _ ?_;clear hK K))
 refine Qr.walk_nil fun w3 hw3 hmade=>?_
 obtain⟨g3,hg3,hgw,hgc⟩:=hmade _ rfl
 injection hg3 with hg3
 injection hg3 with hg3
 subst hg3
 obtain⟨hc0,hc1,hc2,hf0,hf1,hf2⟩:=vw hgc
 go_wp2_with fail
 have hset:=zca hgc (F1 x) (F1 y) (F1 z)
 have hbw:=hw3.trans (hset.2.mono hgw)
 clear hc0 hc1 hc2 hf0 hf1 hf2 hgc hw3
 generalize ((w3.setCell ⟨g,0,none⟩ (F1 x)).setCell ⟨g,1,none⟩ (F1 y)).setCell ⟨g,2,none⟩ (F1 z)=w4 at hset hbw ⊢
 have hkept:=ze (keep hkept hbw) (za4 hset.1)
 have W4b:=za W0b hbw
 have hgt:w.heap.size+1<g:=by
  have:=zg (w:=W1) (a:=⟨w.heap.size+1,0,none⟩) (by have hK1:=hjW;simp only[zc,ka,kb,zb,kfa,kga]at hK1;simp[hK1])
  exact Nat.lt_of_lt_of_le this hgw
 clear hset hbw W0b hgw hjW
 refine Qr.wp_below_all (by kernel_rfl) (by kernel_rfl) PhiF ?_
 repeat (refine Qr.walk_plain rfl fun K hK=>?_;(first|(refine zk _ _ _ _ _ rfl _ _ _ rfl rfl rfl (fun r hr=>?_))|(apply Qr.one_det;(focus (intro w' hw';have HK:=keep hkept hw';simp only[zc,ka,kb,zb,kfa,kga]at HK;go_simp;first|done|rfl)))|(apply Qr.one_call;(focus (intro w' hw';go_simp;first|done|exact⟨rfl,rfl⟩));(focus (intro w' hw';first|((first|(go_at_call 90;refine (yb _ _).mono ?_)|(go_at_call 262;refine (yi _ _ _).mono ?_)|(go_at_call 211;refine (yh _ _).mono ?_));rintro _ w2⟨r1,rfl,hr1,hb1⟩;exact⟨_,rfl,by constructor<;>assumption,za hw' ‹_›,by assumption⟩)|((first|(go_at_call 133;refine (ya _ _ _ _).mono ?_)|(go_at_call 227;refine (zx _ _ _ _).mono ?_));rintro _ w2⟨rfl,hb1⟩;exact⟨_,rfl,by constructor<;>assumption,za hw' ‹_›,by assumption⟩)|(go_at_call 178;refine (yj _ _ _ _ _ _ _).mono ?_;rintro _ w2⟨x1,y1,z1,rfl,hx1,hy1,hz1,hb1⟩;exact⟨_,rfl,by constructor<;>assumption,za hw' ‹_›,by assumption⟩)));intro v hv;cases hv));go_simp;refine hK _ ?_;clear hK K)
 refine Qr.walk_nil fun w5 hw5=>?_
 have hkept:=keep hkept hw5
 have W5b:=za W4b hw5
 clear hw5 W4b
 have hK:=hkept
 simp only[zc,ka,kb,zb,kfa,kga]at hK
 go_wp2_with fail
 clear hK
 refine Qr.wp_below 23 (by kernel_rfl) (by kernel_rfl) PhiF ?_
 repeat (refine Qr.walk_plain rfl fun K hK=>?_;(first|(refine zk _ _ _ _ _ rfl _ _ _ rfl rfl rfl (fun r hr=>?_))|(apply Qr.one_det;(focus (intro w' hw';have HK:=keep hkept hw';simp only[zc,ka,kb,zb,kfa,kga]at HK;go_simp;first|done|rfl)))|(apply Qr.one_call;(focus (intro w' hw';go_simp;first|done|exact⟨rfl,rfl⟩));(focus (intro w' hw';first|((first|(go_at_call 90;refine (yb _ _).mono ?_)|(go_at_call 262;refine (yi _ _ _).mono ?_)|(go_at_call 211;refine (yh _ _).mono ?_));rintro _ w2⟨r1,rfl,hr1,hb1⟩;exact⟨_,rfl,by constructor<;>assumption,za hw' ‹_›,by assumption⟩)|((first|(go_at_call 133;refine (ya _ _ _ _).mono ?_)|(go_at_call 227;refine (zx _ _ _ _).mono ?_));rintro _ w2⟨rfl,hb1⟩;exact⟨_,rfl,by constructor<;>assumption,za hw' ‹_›,by assumption⟩)|(go_at_call 178;refine (yj _ _ _ _ _ _ _).mono ?_;rintro _ w2⟨x1,y1,z1,rfl,hx1,hy1,hz1,hb1⟩;exact⟨_,rfl,by constructor<;>assumption,za hw' ‹_›,by assumption⟩)));intro v hv;cases hv));go_simp;refine hK _ ?_;clear hK K)
 refine Qr.walk_nil fun w6 hw6=>?_
 have hkept:=keep hkept hw6
 have W6b:=za W5b hw6
 have hK:=hkept
 simp only[zc,ka,kb,zb,kfa,kga]at hK
 have hres:zc [(⟨w.heap.size+1,0,none⟩,F1 0),(⟨w.heap.size+1,1,none⟩,F1 0),(⟨w.heap.size+1,2,none⟩,F1 0)] [⟨w.heap.size+1,0,none⟩,⟨w.heap.size+1,1,none⟩,⟨w.heap.size+1,2,none⟩] w6:=by
  simp only[zc,ka,kb,zb,kfa,kga];simp[hK]
 go_wp2_with fail
 refine (zx _ _ _ _).mono ?_
 rintro _ w7⟨rfl,hb7⟩
 have hres:=keep (vy hres (by simp;omega) (by simp;omega) _) hb7
 have W7b:=za (W6b.setCell (p:=⟨g,_,none⟩) (by show w.heap.size≤g;omega) _) hb7
 clear hK
 have hK:=hres
 simp only[zc,ka,kb,zb,kfa,kga]at hK
 go_wp2_with fail
 obtain⟨hk1,hk2⟩:=hK
 exact bodyPost_ret (v:=.agg #[F1 _,F1 _,F1 _]) (by simp[results,Tryz.results235,go_sem,hk1,hk2];exact⟨rfl,rfl,rfl⟩) rfl ⟨_,_,_,rfl,by first|rfl|assumption|simp only[y7,yr,y8,xe, *],by first|rfl|assumption|simp only[y7,yr,y8,xe, *],by first|rfl|assumption|simp only[y7,yr,y8,xe, *],(W7b.setCell (by exact Nat.le_succ _) _).setCell (by exact Nat.le_succ _) _ |>.setCell (by exact Nat.le_succ _) _⟩

set_option maxRecDepth 100000 in
theorem zm0 {b o bv ov r0 cap x y z:Nat} {w:World} (hkept:zc [(⟨b,o,none⟩,.int .i64 14),(⟨b,o+2,none⟩,.int .i64 2),(⟨b,o+3,none⟩,.slice (some ⟨bv,ov,none⟩) 1 cap),(⟨bv,ov,none⟩,F1 r0)] [] w) :
  Calls Tryz.prog 235 #[.pointer (some ⟨b,o,none⟩),V3 x y z] w (ut (cn .f32 x) (cn .f32 y) (y7 (cn .f32 z) (cn .f32 r0)) w):=by
 have hK:=hkept
 simp only[zc,ka,kb,zb,kfa,kga]at hK
 have hb:b<w.heap.size:=zg (a:=⟨b,o,none⟩) (by rw[hK.1];rfl)
 have hb1:b<w.heap.size+1:=by omega
 go_enter Tryz.func235,Tryz.ntmps235
 go_wp2_with fail
 have W0b:Below w.heap.size w ((w.alloc (.cells #[F1 x,F1 y,F1 z] 38)).alloc (.cells #[F1 0,F1 0,F1 0] 38)):=(by repeat' (first|exact zi _ _|refine zd ?_ _|refine Below.alloc ?_ (by simp<;>omega) _|refine zj ?_ (by simp<;>omega) _|refine za ?_ ‹_›))
 have hkept:=ze (keep hkept W0b) (show zc [(⟨w.heap.size,0,none⟩,F1 x),(⟨w.heap.size,1,none⟩,F1 y),(⟨w.heap.size,2,none⟩,F1 z),(⟨w.heap.size+1,0,none⟩,F1 0),(⟨w.heap.size+1,1,none⟩,F1 0),(⟨w.heap.size+1,2,none⟩,F1 0)] [⟨w.heap.size+1,0,none⟩,⟨w.heap.size+1,1,none⟩,⟨w.heap.size+1,2,none⟩] ((w.alloc (.cells #[F1 x,F1 y,F1 z] 38)).alloc (.cells #[F1 0,F1 0,F1 0] 38)) by
  simp only[zc,ka,kb,zb,kfa,kga];simp)
 clear hK
 generalize (w.alloc (.cells #[F1 x,F1 y,F1 z] 38)).alloc (.cells #[F1 0,F1 0,F1 0] 38)=W1 at W0b hkept ⊢
 have hjW:=hkept
 refine Qr.wp_made 8 6 6 #[F1 0,F1 0,F1 0] 194 (by kernel_rfl) (by kernel_rfl) PhiF rfl (by kernel_rfl) ⟨_,rfl,rfl,fun a w=>by go_simp⟩ (by kernel_rfl) ?_
 repeat (first|(refine Qr.walk_plain rfl fun K hK=>?_;refine Qr.one_rel (fun v=>∃ g,v=.pointer (some ⟨g,0,none⟩)) (fun w' hw'=>⟨.pointer (some ⟨w'.heap.size,0,none⟩),_,by go_simp;rfl,⟨_,rfl⟩,hw'.alloc hw'.size _,zt ..⟩) (fun v hv=>?_);obtain⟨g,rfl⟩:=hv;go_simp;refine hK _ ?_;clear hK K)|(refine Qr.walk_plain rfl fun K hK=>?_;(first|(refine zk _ _ _ _ _ rfl _ _ _ rfl rfl rfl (fun r hr=>?_))|(apply Qr.one_det;(focus (intro w' hw';have HK:=keep hkept hw';simp only[zc,ka,kb,zb,kfa,kga]at HK;go_simp;first|done|rfl)))|(apply Qr.one_call;(focus (intro w' hw';go_simp;first|done|exact⟨rfl,rfl⟩));(focus (intro w' hw';first|((first|(go_at_call 90;refine (yb _ _).mono ?_)|(go_at_call 262;refine (yi _ _ _).mono ?_)|(go_at_call 211;refine (yh _ _).mono ?_));rintro _ w2⟨r1,rfl,hr1,hb1⟩;exact⟨_,rfl,by constructor<;>assumption,za hw' ‹_›,by assumption⟩)|((first|(go_at_call 133;refine (ya _ _ _ _).mono ?_)|(go_at_call 227;refine (zx _ _ _ _).mono ?_));rintro _ w2⟨rfl,hb1⟩;exact⟨_,rfl,by constructor<;>assumption,za hw' ‹_›,by assumption⟩)|(go_at_call 178;refine (yj _ _ _ _ _ _ _).mono ?_;rintro _ w2⟨x1,y1,z1,rfl,hx1,hy1,hz1,hb1⟩;exact⟨_,rfl,by constructor<;>assumption,za hw' ‹_›,by assumption⟩)));intro v hv;cases hv));go_simp;refine hK _ ?_;clear hK K))
 refine Qr.walk_nil fun w3 hw3 hmade=>?_
 obtain⟨g3,hg3,hgw,hgc⟩:=hmade _ rfl
 injection hg3 with hg3
 injection hg3 with hg3
 subst hg3
 obtain⟨hc0,hc1,hc2,hf0,hf1,hf2⟩:=vw hgc
 go_wp2_with fail
 have hset:=zca hgc (F1 x) (F1 y) (F1 z)
 have hbw:=hw3.trans (hset.2.mono hgw)
 clear hc0 hc1 hc2 hf0 hf1 hf2 hgc hw3
 generalize ((w3.setCell ⟨g,0,none⟩ (F1 x)).setCell ⟨g,1,none⟩ (F1 y)).setCell ⟨g,2,none⟩ (F1 z)=w4 at hset hbw ⊢
 have hkept:=ze (keep hkept hbw) (za4 hset.1)
 have W4b:=za W0b hbw
 have hgt:w.heap.size+1<g:=by
  have:=zg (w:=W1) (a:=⟨w.heap.size+1,0,none⟩) (by have hK1:=hjW;simp only[zc,ka,kb,zb,kfa,kga]at hK1;simp[hK1])
  exact Nat.lt_of_lt_of_le this hgw
 clear hset hbw W0b hgw hjW
 refine Qr.wp_below_all (by kernel_rfl) (by kernel_rfl) PhiF ?_
 repeat (refine Qr.walk_plain rfl fun K hK=>?_;(first|(refine zk _ _ _ _ _ rfl _ _ _ rfl rfl rfl (fun r hr=>?_))|(apply Qr.one_det;(focus (intro w' hw';have HK:=keep hkept hw';simp only[zc,ka,kb,zb,kfa,kga]at HK;go_simp;first|done|rfl)))|(apply Qr.one_call;(focus (intro w' hw';go_simp;first|done|exact⟨rfl,rfl⟩));(focus (intro w' hw';first|((first|(go_at_call 90;refine (yb _ _).mono ?_)|(go_at_call 262;refine (yi _ _ _).mono ?_)|(go_at_call 211;refine (yh _ _).mono ?_));rintro _ w2⟨r1,rfl,hr1,hb1⟩;exact⟨_,rfl,by constructor<;>assumption,za hw' ‹_›,by assumption⟩)|((first|(go_at_call 133;refine (ya _ _ _ _).mono ?_)|(go_at_call 227;refine (zx _ _ _ _).mono ?_));rintro _ w2⟨rfl,hb1⟩;exact⟨_,rfl,by constructor<;>assumption,za hw' ‹_›,by assumption⟩)|(go_at_call 178;refine (yj _ _ _ _ _ _ _).mono ?_;rintro _ w2⟨x1,y1,z1,rfl,hx1,hy1,hz1,hb1⟩;exact⟨_,rfl,by constructor<;>assumption,za hw' ‹_›,by assumption⟩)));intro v hv;cases hv));go_simp;refine hK _ ?_;clear hK K)
 refine Qr.walk_nil fun w5 hw5=>?_
 have hkept:=keep hkept hw5
 have W5b:=za W4b hw5
 clear hw5 W4b
 have hK:=hkept
 simp only[zc,ka,kb,zb,kfa,kga]at hK
 go_wp2_with fail
 clear hK
 refine Qr.wp_below 23 (by kernel_rfl) (by kernel_rfl) PhiF ?_
 repeat (refine Qr.walk_plain rfl fun K hK=>?_;(first|(refine zk _ _ _ _ _ rfl _ _ _ rfl rfl rfl (fun r hr=>?_))|(apply Qr.one_det;(focus (intro w' hw';have HK:=keep hkept hw';simp only[zc,ka,kb,zb,kfa,kga]at HK;go_simp;first|done|rfl)))|(apply Qr.one_call;(focus (intro w' hw';go_simp;first|done|exact⟨rfl,rfl⟩));(focus (intro w' hw';first|((first|(go_at_call 90;refine (yb _ _).mono ?_)|(go_at_call 262;refine (yi _ _ _).mono ?_)|(go_at_call 211;refine (yh _ _).mono ?_));rintro _ w2⟨r1,rfl,hr1,hb1⟩;exact⟨_,rfl,by constructor<;>assumption,za hw' ‹_›,by assumption⟩)|((first|(go_at_call 133;refine (ya _ _ _ _).mono ?_)|(go_at_call 227;refine (zx _ _ _ _).mono ?_));rintro _ w2⟨rfl,hb1⟩;exact⟨_,rfl,by constructor<;>assumption,za hw' ‹_›,by assumption⟩)|(go_at_call 178;refine (yj _ _ _ _ _ _ _).mono ?_;rintro _ w2⟨x1,y1,z1,rfl,hx1,hy1,hz1,hb1⟩;exact⟨_,rfl,by constructor<;>assumption,za hw' ‹_›,by assumption⟩)));intro v hv;cases hv));go_simp;refine hK _ ?_;clear hK K)
 refine Qr.walk_nil fun w6 hw6=>?_
 have hkept:=keep hkept hw6
 have W6b:=za W5b hw6
 have hK:=hkept
 simp only[zc,ka,kb,zb,kfa,kga]at hK
 have hres:zc [(⟨w.heap.size+1,0,none⟩,F1 0),(⟨w.heap.size+1,1,none⟩,F1 0),(⟨w.heap.size+1,2,none⟩,F1 0)] [⟨w.heap.size+1,0,none⟩,⟨w.heap.size+1,1,none⟩,⟨w.heap.size+1,2,none⟩] w6:=by
  simp only[zc,ka,kb,zb,kfa,kga];simp[hK]
 go_wp2_with fail
 refine (zx _ _ _ _).mono ?_
 rintro _ w7⟨rfl,hb7⟩
 have hres:=keep (vy hres (by simp;omega) (by simp;omega) _) hb7
 have W7b:=za (W6b.setCell (p:=⟨g,_,none⟩) (by show w.heap.size≤g;omega) _) hb7
 clear hK
 have hK:=hres
 simp only[zc,ka,kb,zb,kfa,kga]at hK
 go_wp2_with fail
 obtain⟨hk1,hk2⟩:=hK
 exact bodyPost_ret (v:=.agg #[F1 _,F1 _,F1 _]) (by simp[results,Tryz.results235,go_sem,hk1,hk2];exact⟨rfl,rfl,rfl⟩) rfl ⟨_,_,_,rfl,by first|rfl|assumption|simp only[y7,yr,y8,xe, *],by first|rfl|assumption|simp only[y7,yr,y8,xe, *],by first|rfl|assumption|simp only[y7,yr,y8,xe, *],(W7b.setCell (by exact Nat.le_succ _) _).setCell (by exact Nat.le_succ _) _ |>.setCell (by exact Nat.le_succ _) _⟩

end Go.Proofs.YtbiacfkiakddiaaGreat
