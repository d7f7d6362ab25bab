/-
 Lemmas: S12.
-/
import Derived.Test.YtbiacfkiakddiaaGreatXai
set_option linter.unusedVariables false
set_option linter.unusedSimpArgs false
set_option maxHeartbeats 2000000
namespace Go.Proofs.YtbiacfkiakddiaaGreat
open Go.RowKit Go.Fl
set_option maxRecDepth 100000 in
theorem ze6 {b o x y z:Nat} {w:World} (hkept:zc [(⟨b,o,none⟩,.int .i64 13),(⟨b,o+2,none⟩,.int .i64 0)] [] w) :
  Calls Tryz.prog 263 #[.pointer (some ⟨b,o,none⟩),V3 x y z] w (ut (vj (cn .f32 x)) (cn .f32 y) (cn .f32 z) w):=by
 have hK:=hkept
 simp only[zc,ka,kb,zb,kfa,kga]at hK
 have hb:b<w.heap.size:=zg (a:=⟨b,o,none⟩) (by rw[hK.1];rfl)
 have hb1:b<w.heap.size+1:=by omega
 go_enter Tryz.func263,Tryz.ntmps263
 go_upto_region 11 with (fail)
 have Wb:Below w.heap.size w ((w.alloc (.cells #[F1 x,F1 y,F1 z] 38)).alloc (.cells #[F1 0,F1 0,F1 0] 38)):=(by repeat' (first|exact zi _ _|refine zd ?_ _|refine Below.alloc ?_ (by simp<;>omega) _|refine zj ?_ (by simp<;>omega) _|refine za ?_ ‹_›))

 have hkept:=ze (keep hkept Wb) (show zc [(⟨w.heap.size,0,none⟩,F1 x),(⟨w.heap.size,1,none⟩,F1 y),(⟨w.heap.size,2,none⟩,F1 z),(⟨w.heap.size+1,0,none⟩,F1 0),(⟨w.heap.size+1,1,none⟩,F1 0),(⟨w.heap.size+1,2,none⟩,F1 0)] [⟨w.heap.size+1,0,none⟩,⟨w.heap.size+1,1,none⟩,⟨w.heap.size+1,2,none⟩] ((w.alloc (.cells #[F1 x,F1 y,F1 z] 38)).alloc (.cells #[F1 0,F1 0,F1 0] 38)) by
  simp only[zc,ka,kb,zb,kfa,kga];simp)
 generalize (w.alloc (.cells #[F1 x,F1 y,F1 z] 38)).alloc (.cells #[F1 0,F1 0,F1 0] 38)=W1 at Wb hkept ⊢
 refine Qr.wp_below 13 (by kernel_rfl) (by kernel_rfl) PhiP ?_
 repeat (refine Qr.walk_plain rfl fun K hK=>?_;(first|(refine zk _ _ _ _ _ rfl _ _ _ rfl rfl rfl (fun r hr=>?_))|(apply Qr.one_det;(focus (intro w' hw';have HK:=keep hkept hw';simp only[zc,ka,kb,zb,kfa,kga]at HK;go_simp;first|done|rfl)))|(apply Qr.one_call;(focus (intro w' hw';go_simp;first|done|exact⟨rfl,rfl⟩));(focus (intro w' hw';first|(go_at_call 167;refine (uo _ _ _ _ _ _ _).mono ?_;rintro _ w2⟨x1,y1,z1,rfl,hx1,hy1,hz1,hb1⟩;exact⟨_,rfl,by constructor<;>assumption,za hw' ‹_›,by assumption⟩)|((first|(go_at_call 142;refine (xu _ _ _ _ _).mono ?_)|(go_at_call 143;refine (vm _ _ _ _ _ _).mono ?_));rintro _ w2⟨rfl,hb1⟩;exact⟨_,rfl,by constructor<;>assumption,za hw' ‹_›,by assumption⟩)|((first|(go_at_call 88;refine (yd _ _).mono ?_)|(go_at_call 276;refine (v8 _ _ _).mono ?_));rintro _ w2⟨r1,rfl,hr1,hb1⟩;exact⟨_,rfl,by constructor<;>assumption,za hw' ‹_›,by assumption⟩)));intro v hv;cases hv));go_simp;refine hK _ ?_;clear hK K)
 refine Qr.walk_nil fun w6 hw6=>?_
 have hkept:=keep hkept hw6
 have W6b:=za Wb hw6
 clear hK
 have hK:=hkept
 simp only[zc,ka,kb,zb,kfa,kga]at hK
 go_wp2_with fail
 obtain⟨hk1,hk2⟩:=hK
 exact bodyPost_ret (v:=.agg #[F1 _,F1 _,F1 _]) (by simp[results,Tryz.results263,go_sem,hk1,hk2];first|done|exact⟨rfl,rfl,rfl⟩|exact rfl) rfl ⟨_,_,_,rfl,by first|rfl|assumption|(simp only[xx,xt,xy,y9,n20,n21,n10,n01,if_true,if_false, *];done),by first|rfl|assumption|(simp only[xx,xt,xy,y9,n20,n21,n10,n01,if_true,if_false, *];done),by first|rfl|assumption|(simp only[xx,xt,xy,y9,n20,n21,n10,n01,if_true,if_false, *];done),(W6b.setCell (by exact Nat.le_succ _) _).setCell (by exact Nat.le_succ _) _ |>.setCell (by exact Nat.le_succ _) _⟩

set_option maxRecDepth 100000 in
theorem zfc {b o x y z:Nat} {w:World} (hkept:zc [(⟨b,o,none⟩,.int .i64 13),(⟨b,o+2,none⟩,.int .i64 1)] [] w) :
  Calls Tryz.prog 263 #[.pointer (some ⟨b,o,none⟩),V3 x y z] w (ut (cn .f32 x) (vj (cn .f32 y)) (cn .f32 z) w):=by
 have hK:=hkept
 simp only[zc,ka,kb,zb,kfa,kga]at hK
 have hb:b<w.heap.size:=zg (a:=⟨b,o,none⟩) (by rw[hK.1];rfl)
 have hb1:b<w.heap.size+1:=by omega
 go_enter Tryz.func263,Tryz.ntmps263
 go_upto_region 11 with (fail)
 have Wb:Below w.heap.size w ((w.alloc (.cells #[F1 x,F1 y,F1 z] 38)).alloc (.cells #[F1 0,F1 0,F1 0] 38)):=(by repeat' (first|exact zi _ _|refine zd ?_ _|refine Below.alloc ?_ (by simp<;>omega) _|refine zj ?_ (by simp<;>omega) _|refine za ?_ ‹_›))

 have hkept:=ze (keep hkept Wb) (show zc [(⟨w.heap.size,0,none⟩,F1 x),(⟨w.heap.size,1,none⟩,F1 y),(⟨w.heap.size,2,none⟩,F1 z),(⟨w.heap.size+1,0,none⟩,F1 0),(⟨w.heap.size+1,1,none⟩,F1 0),(⟨w.heap.size+1,2,none⟩,F1 0)] [⟨w.heap.size+1,0,none⟩,⟨w.heap.size+1,1,none⟩,⟨w.heap.size+1,2,none⟩] ((w.alloc (.cells #[F1 x,F1 y,F1 z] 38)).alloc (.cells #[F1 0,F1 0,F1 0] 38)) by
  simp only[zc,ka,kb,zb,kfa,kga];simp)
 generalize (w.alloc (.cells #[F1 x,F1 y,F1 z] 38)).alloc (.cells #[F1 0,F1 0,F1 0] 38)=W1 at Wb hkept ⊢
 refine Qr.wp_below 13 (by kernel_rfl) (by kernel_rfl) PhiP ?_
 repeat (refine Qr.walk_plain rfl fun K hK=>?_;(first|(refine zk _ _ _ _ _ rfl _ _ _ rfl rfl rfl (fun r hr=>?_))|(apply Qr.one_det;(focus (intro w' hw';have HK:=keep hkept hw';simp only[zc,ka,kb,zb,kfa,kga]at HK;go_simp;first|done|rfl)))|(apply Qr.one_call;(focus (intro w' hw';go_simp;first|done|exact⟨rfl,rfl⟩));(focus (intro w' hw';first|(go_at_call 167;refine (uo _ _ _ _ _ _ _).mono ?_;rintro _ w2⟨x1,y1,z1,rfl,hx1,hy1,hz1,hb1⟩;exact⟨_,rfl,by constructor<;>assumption,za hw' ‹_›,by assumption⟩)|((first|(go_at_call 142;refine (xu _ _ _ _ _).mono ?_)|(go_at_call 143;refine (vm _ _ _ _ _ _).mono ?_));rintro _ w2⟨rfl,hb1⟩;exact⟨_,rfl,by constructor<;>assumption,za hw' ‹_›,by assumption⟩)|((first|(go_at_call 88;refine (yd _ _).mono ?_)|(go_at_call 276;refine (v8 _ _ _).mono ?_));rintro _ w2⟨r1,rfl,hr1,hb1⟩;exact⟨_,rfl,by constructor<;>assumption,za hw' ‹_›,by assumption⟩)));intro v hv;cases hv));go_simp;refine hK _ ?_;clear hK K)
 refine Qr.walk_nil fun w6 hw6=>?_
 have hkept:=keep hkept hw6
 have W6b:=za Wb hw6
 clear hK
 have hK:=hkept
 simp only[zc,ka,kb,zb,kfa,kga]at hK
 go_wp2_with fail
 obtain⟨hk1,hk2⟩:=hK
 exact bodyPost_ret (v:=.agg #[F1 _,F1 _,F1 _]) (by simp[results,Tryz.results263,go_sem,hk1,hk2];first|done|exact⟨rfl,rfl,rfl⟩|exact rfl) rfl ⟨_,_,_,rfl,by first|rfl|assumption|(simp only[xx,xt,xy,y9,n20,n21,n10,n01,if_true,if_false, *];done),by first|rfl|assumption|(simp only[xx,xt,xy,y9,n20,n21,n10,n01,if_true,if_false, *];done),by first|rfl|assumption|(simp only[xx,xt,xy,y9,n20,n21,n10,n01,if_true,if_false, *];done),(W6b.setCell (by exact Nat.le_succ _) _).setCell (by exact Nat.le_succ _) _ |>.setCell (by exact Nat.le_succ _) _⟩

set_option maxRecDepth 100000 in
theorem ze9 {b o x y z:Nat} {w:World} (hkept:zc [(⟨b,o,none⟩,.int .i64 13),(⟨b,o+2,none⟩,.int .i64 2)] [] w) :
  Calls Tryz.prog 263 #[.pointer (some ⟨b,o,none⟩),V3 x y z] w (ut (cn .f32 x) (cn .f32 y) (vj (cn .f32 z)) w):=by
 have hK:=hkept
 simp only[zc,ka,kb,zb,kfa,kga]at hK
 have hb:b<w.heap.size:=zg (a:=⟨b,o,none⟩) (by rw[hK.1];rfl)
 have hb1:b<w.heap.size+1:=by omega
 go_enter Tryz.func263,Tryz.ntmps263
 go_upto_region 11 with (fail)
 have Wb:Below w.heap.size w ((w.alloc (.cells #[F1 x,F1 y,F1 z] 38)).alloc (.cells #[F1 0,F1 0,F1 0] 38)):=(by repeat' (first|exact zi _ _|refine zd ?_ _|refine Below.alloc ?_ (by simp<;>omega) _|refine zj ?_ (by simp<;>omega) _|refine za ?_ ‹_›))

 have hkept:=ze (keep hkept Wb) (show zc [(⟨w.heap.size,0,none⟩,F1 x),(⟨w.heap.size,1,none⟩,F1 y),(⟨w.heap.size,2,none⟩,F1 z),(⟨w.heap.size+1,0,none⟩,F1 0),(⟨w.heap.size+1,1,none⟩,F1 0),(⟨w.heap.size+1,2,none⟩,F1 0)] [⟨w.heap.size+1,0,none⟩,⟨w.heap.size+1,1,none⟩,⟨w.heap.size+1,2,none⟩] ((w.alloc (.cells #[F1 x,F1 y,F1 z] 38)).alloc (.cells #[F1 0,F1 0,F1 0] 38)) by
  simp only[zc,ka,kb,zb,kfa,kga];simp)
 generalize (w.alloc (.cells #[F1 x,F1 y,F1 z] 38)).alloc (.cells #[F1 0,F1 0,F1 0] 38)=W1 at Wb hkept ⊢
 refine Qr.wp_below 13 (by kernel_rfl) (by kernel_rfl) PhiP ?_
 repeat (refine Qr.walk_plain rfl fun K hK=>?_;(first|(refine zk _ _ _ _ _ rfl _ _ _ rfl rfl rfl (fun r hr=>?_))|(apply Qr.one_det;(focus (intro w' hw';have HK:=keep hkept hw';simp only[zc,ka,kb,zb,kfa,kga]at HK;go_simp;first|done|rfl)))|(apply Qr.one_call;(focus (intro w' hw';go_simp;first|done|exact⟨rfl,rfl⟩));(focus (intro w' hw';first|(go_at_call 167;refine (uo _ _ _ _ _ _ _).mono ?_;rintro _ w2⟨x1,y1,z1,rfl,hx1,hy1,hz1,hb1⟩;exact⟨_,rfl,by constructor<;>assumption,za hw' ‹_›,by assumption⟩)|((first|(go_at_call 142;refine (xu _ _ _ _ _).mono ?_)|(go_at_call 143;refine (vm _ _ _ _ _ _).mono ?_));rintro _ w2⟨rfl,hb1⟩;exact⟨_,rfl,by constructor<;>assumption,za hw' ‹_›,by assumption⟩)|((first|(go_at_call 88;refine (yd _ _).mono ?_)|(go_at_call 276;refine (v8 _ _ _).mono ?_));rintro _ w2⟨r1,rfl,hr1,hb1⟩;exact⟨_,rfl,by constructor<;>assumption,za hw' ‹_›,by assumption⟩)));intro v hv;cases hv));go_simp;refine hK _ ?_;clear hK K)
 refine Qr.walk_nil fun w6 hw6=>?_
 have hkept:=keep hkept hw6
 have W6b:=za Wb hw6
 clear hK
 have hK:=hkept
 simp only[zc,ka,kb,zb,kfa,kga]at hK
 go_wp2_with fail
 obtain⟨hk1,hk2⟩:=hK
 exact bodyPost_ret (v:=.agg #[F1 _,F1 _,F1 _]) (by simp[results,Tryz.results263,go_sem,hk1,hk2];first|done|exact⟨rfl,rfl,rfl⟩|exact rfl) rfl ⟨_,_,_,rfl,by first|rfl|assumption|(simp only[xx,xt,xy,y9,n20,n21,n10,n01,if_true,if_false, *];done),by first|rfl|assumption|(simp only[xx,xt,xy,y9,n20,n21,n10,n01,if_true,if_false, *];done),by first|rfl|assumption|(simp only[xx,xt,xy,y9,n20,n21,n10,n01,if_true,if_false, *];done),(W6b.setCell (by exact Nat.le_succ _) _).setCell (by exact Nat.le_succ _) _ |>.setCell (by exact Nat.le_succ _) _⟩

set_option maxRecDepth 100000 in
theorem zhx {b o bv ov r0 cap x y z:Nat} {w:World} (hkept:zc [(⟨b,o,none⟩,.int .i64 14),(⟨b,o+2,none⟩,.int .i64 0),(⟨b,o+3,none⟩,.slice (some ⟨bv,ov,none⟩) 1 cap),(⟨bv,ov,none⟩,F1 r0)] [] w) :
  Calls Tryz.prog 263 #[.pointer (some ⟨b,o,none⟩),V3 x y z] w (ut (kq (cn .f32 x) (cn .f32 r0)) (cn .f32 y) (cn .f32 z) w):=by
 have hK:=hkept
 simp only[zc,ka,kb,zb,kfa,kga]at hK
 have hb:b<w.heap.size:=zg (a:=⟨b,o,none⟩) (by rw[hK.1];rfl)
 have hb1:b<w.heap.size+1:=by omega
 go_enter Tryz.func263,Tryz.ntmps263
 go_upto_region 13 with (fail)
 have Wb:Below w.heap.size w ((w.alloc (.cells #[F1 x,F1 y,F1 z] 38)).alloc (.cells #[F1 0,F1 0,F1 0] 38)):=(by repeat' (first|exact zi _ _|refine zd ?_ _|refine Below.alloc ?_ (by simp<;>omega) _|refine zj ?_ (by simp<;>omega) _|refine za ?_ ‹_›))

 have hkept:=ze (keep hkept Wb) (show zc [(⟨w.heap.size,0,none⟩,F1 x),(⟨w.heap.size,1,none⟩,F1 y),(⟨w.heap.size,2,none⟩,F1 z),(⟨w.heap.size+1,0,none⟩,F1 0),(⟨w.heap.size+1,1,none⟩,F1 0),(⟨w.heap.size+1,2,none⟩,F1 0)] [⟨w.heap.size+1,0,none⟩,⟨w.heap.size+1,1,none⟩,⟨w.heap.size+1,2,none⟩] ((w.alloc (.cells #[F1 x,F1 y,F1 z] 38)).alloc (.cells #[F1 0,F1 0,F1 0] 38)) by
  simp only[zc,ka,kb,zb,kfa,kga];simp)
 generalize (w.alloc (.cells #[F1 x,F1 y,F1 z] 38)).alloc (.cells #[F1 0,F1 0,F1 0] 38)=W1 at Wb hkept ⊢
 refine Qr.wp_below 19 (by kernel_rfl) (by kernel_rfl) PhiP ?_
 repeat (refine Qr.walk_plain rfl fun K hK=>?_;(first|(refine zk _ _ _ _ _ rfl _ _ _ rfl rfl rfl (fun r hr=>?_))|(apply Qr.one_det;(focus (intro w' hw';have HK:=keep hkept hw';simp only[zc,ka,kb,zb,kfa,kga]at HK;go_simp;first|done|rfl)))|(apply Qr.one_call;(focus (intro w' hw';go_simp;first|done|exact⟨rfl,rfl⟩));(focus (intro w' hw';first|(go_at_call 167;refine (uo _ _ _ _ _ _ _).mono ?_;rintro _ w2⟨x1,y1,z1,rfl,hx1,hy1,hz1,hb1⟩;exact⟨_,rfl,by constructor<;>assumption,za hw' ‹_›,by assumption⟩)|((first|(go_at_call 142;refine (xu _ _ _ _ _).mono ?_)|(go_at_call 143;refine (vm _ _ _ _ _ _).mono ?_));rintro _ w2⟨rfl,hb1⟩;exact⟨_,rfl,by constructor<;>assumption,za hw' ‹_›,by assumption⟩)|((first|(go_at_call 88;refine (yd _ _).mono ?_)|(go_at_call 276;refine (v8 _ _ _).mono ?_));rintro _ w2⟨r1,rfl,hr1,hb1⟩;exact⟨_,rfl,by constructor<;>assumption,za hw' ‹_›,by assumption⟩)));intro v hv;cases hv));go_simp;refine hK _ ?_;clear hK K)
 refine Qr.walk_nil fun w6 hw6=>?_
 have hkept:=keep hkept hw6
 have W6b:=za Wb hw6
 clear hK
 have hK:=hkept
 simp only[zc,ka,kb,zb,kfa,kga]at hK
 go_wp2_with fail
 obtain⟨hk1,hk2⟩:=hK
 exact bodyPost_ret (v:=.agg #[F1 _,F1 _,F1 _]) (by simp[results,Tryz.results263,go_sem,hk1,hk2];first|done|exact⟨rfl,rfl,rfl⟩|exact rfl) rfl ⟨_,_,_,rfl,by first|rfl|assumption|(simp only[xx,xt,xy,y9,n20,n21,n10,n01,if_true,if_false, *];done),by first|rfl|assumption|(simp only[xx,xt,xy,y9,n20,n21,n10,n01,if_true,if_false, *];done),by first|rfl|assumption|(simp only[xx,xt,xy,y9,n20,n21,n10,n01,if_true,if_false, *];done),(W6b.setCell (by exact Nat.le_succ _) _).setCell (by exact Nat.le_succ _) _ |>.setCell (by exact Nat.le_succ _) _⟩

set_option maxRecDepth 100000 in
theorem zhl {b o bv ov r0 cap x y z:Nat} {w:World} (hkept:zc [(⟨b,o,none⟩,.int .i64 14),(⟨b,o+2,none⟩,.int .i64 1),(⟨b,o+3,none⟩,.slice (some ⟨bv,ov,none⟩) 1 cap),(⟨bv,ov,none⟩,F1 r0)] [] w) :
  Calls Tryz.prog 263 #[.pointer (some ⟨b,o,none⟩),V3 x y z] w (ut (cn .f32 x) (kq (cn .f32 y) (cn .f32 r0)) (cn .f32 z) w):=by
 have hK:=hkept
 simp only[zc,ka,kb,zb,kfa,kga]at hK
 have hb:b<w.heap.size:=zg (a:=⟨b,o,none⟩) (by rw[hK.1];rfl)
 have hb1:b<w.heap.size+1:=by omega
 go_enter Tryz.func263,Tryz.ntmps263
 go_upto_region 13 with (fail)
 have Wb:Below w.heap.size w ((w.alloc (.cells #[F1 x,F1 y,F1 z] 38)).alloc (.cells #[F1 0,F1 0,F1 0] 38)):=(by repeat' (first|exact zi _ _|refine zd ?_ _|refine Below.alloc ?_ (by simp<;>omega) _|refine zj ?_ (by simp<;>omega) _|refine za ?_ ‹_›))

 have hkept:=ze (keep hkept Wb) (show zc [(⟨w.heap.size,0,none⟩,F1 x),(⟨w.heap.size,1,none⟩,F1 y),(⟨w.heap.size,2,none⟩,F1 z),(⟨w.heap.size+1,0,none⟩,F1 0),(⟨w.heap.size+1,1,none⟩,F1 0),(⟨w.heap.size+1,2,none⟩,F1 0)] [⟨w.heap.size+1,0,none⟩,⟨w.heap.size+1,1,none⟩,⟨w.heap.size+1,2,none⟩] ((w.alloc (.cells #[F1 x,F1 y,F1 z] 38)).alloc (.cells #[F1 0,F1 0,F1 0] 38)) by
  simp only[zc,ka,kb,zb,kfa,kga];simp)
 generalize (w.alloc (.cells #[F1 x,F1 y,F1 z] 38)).alloc (.cells #[F1 0,F1 0,F1 0] 38)=W1 at Wb hkept ⊢
 refine Qr.wp_below 19 (by kernel_rfl) (by kernel_rfl) PhiP ?_
 repeat (refine Qr.walk_plain rfl fun K hK=>?_;(first|(refine zk _ _ _ _ _ rfl _ _ _ rfl rfl rfl (fun r hr=>?_))|(apply Qr.one_det;(focus (intro w' hw';have HK:=keep hkept hw';simp only[zc,ka,kb,zb,kfa,kga]at HK;go_simp;first|done|rfl)))|(apply Qr.one_call;(focus (intro w' hw';go_simp;first|done|exact⟨rfl,rfl⟩));(focus (intro w' hw';first|(go_at_call 167;refine (uo _ _ _ _ _ _ _).mono ?_;rintro _ w2⟨x1,y1,z1,rfl,hx1,hy1,hz1,hb1⟩;exact⟨_,rfl,by constructor<;>assumption,za hw' ‹_›,by assumption⟩)|((first|(go_at_call 142;refine (xu _ _ _ _ _).mono ?_)|(go_at_call 143;refine (vm _ _ _ _ _ _).mono ?_));rintro _ w2⟨rfl,hb1⟩;exact⟨_,rfl,by constructor<;>assumption,za hw' ‹_›,by assumption⟩)|((first|(go_at_call 88;refine (yd _ _).mono ?_)|(go_at_call 276;refine (v8 _ _ _).mono ?_));rintro _ w2⟨r1,rfl,hr1,hb1⟩;exact⟨_,rfl,by constructor<;>assumption,za hw' ‹_›,by assumption⟩)));intro v hv;cases hv));go_simp;refine hK _ ?_;clear hK K)
 refine Qr.walk_nil fun w6 hw6=>?_
 have hkept:=keep hkept hw6
 have W6b:=za Wb hw6
 clear hK
 have hK:=hkept
 simp only[zc,ka,kb,zb,kfa,kga]at hK
 go_wp2_with fail
 obtain⟨hk1,hk2⟩:=hK
 exact bodyPost_ret (v:=.agg #[F1 _,F1 _,F1 _]) (by simp[results,Tryz.results263,go_sem,hk1,hk2];first|done|exact⟨rfl,rfl,rfl⟩|exact rfl) rfl ⟨_,_,_,rfl,by first|rfl|assumption|(simp only[xx,xt,xy,y9,n20,n21,n10,n01,if_true,if_false, *];done),by first|rfl|assumption|(simp only[xx,xt,xy,y9,n20,n21,n10,n01,if_true,if_false, *];done),by first|rfl|assumption|(simp only[xx,xt,xy,y9,n20,n21,n10,n01,if_true,if_false, *];done),(W6b.setCell (by exact Nat.le_succ _) _).setCell (by exact Nat.le_succ _) _ |>.setCell (by exact Nat.le_succ _) _⟩

set_option maxRecDepth 100000 in
theorem zh0 {b o bv ov r0 cap x y z:Nat} {w:World} (hkept:zc [(⟨b,o,none⟩,.int .i64 14),(⟨b,o+2,none⟩,.int .i64 2),(⟨b,o+3,none⟩,.slice (some ⟨bv,ov,none⟩) 1 cap),(⟨bv,ov,none⟩,F1 r0)] [] w) :
  Calls Tryz.prog 263 #[.pointer (some ⟨b,o,none⟩),V3 x y z] w (ut (cn .f32 x) (cn .f32 y) (kq (cn .f32 z) (cn .f32 r0)) w):=by
 have hK:=hkept
 simp only[zc,ka,kb,zb,kfa,kga]at hK
 have hb:b<w.heap.size:=zg (a:=⟨b,o,none⟩) (by rw[hK.1];rfl)
 have hb1:b<w.heap.size+1:=by omega
 go_enter Tryz.func263,Tryz.ntmps263
 go_upto_region 13 with (fail)
 have Wb:Below w.heap.size w ((w.alloc (.cells #[F1 x,F1 y,F1 z] 38)).alloc (.cells #[F1 0,F1 0,F1 0] 38)):=(by repeat' (first|exact zi _ _|refine zd ?_ _|refine Below.alloc ?_ (by simp<;>omega) _|refine zj ?_ (by simp<;>omega) _|refine za ?_ ‹_›))

 have hkept:=ze (keep hkept Wb) (show zc [(⟨w.heap.size,0,none⟩,F1 x),(⟨w.heap.size,1,none⟩,F1 y),(⟨w.heap.size,2,none⟩,F1 z),(⟨w.heap.size+1,0,none⟩,F1 0),(⟨w.heap.size+1,1,none⟩,F1 0),(⟨w.heap.size+1,2,none⟩,F1 0)] [⟨w.heap.size+1,0,none⟩,⟨w.heap.size+1,1,none⟩,⟨w.heap.size+1,2,none⟩] ((w.alloc (.cells #[F1 x,F1 y,F1 z] 38)).alloc (.cells #[F1 0,F1 0,F1 0] 38)) by
  simp only[zc,ka,kb,zb,kfa,kga];simp)
 generalize (w.alloc (.cells #[F1 x,F1 y,F1 z] 38)).alloc (.cells #[F1 0,F1 0,F1 0] 38)=W1 at Wb hkept ⊢
 refine Qr.wp_below 19 (by kernel_rfl) (by kernel_rfl) PhiP ?_
 repeat (refine Qr.walk_plain rfl fun K hK=>?_;(first|(refine zk _ _ _ _ _ rfl _ _ _ rfl rfl rfl (fun r hr=>?_))|(apply Qr.one_det;(focus (intro w' hw';have HK:=keep hkept hw';simp only[zc,ka,kb,zb,kfa,kga]at HK;go_simp;first|done|rfl)))|(apply Qr.one_call;(focus (intro w' hw';go_simp;first|done|exact⟨rfl,rfl⟩));(focus (intro w' hw';first|(go_at_call 167;refine (uo _ _ _ _ _ _ _).mono ?_;rintro _ w2⟨x1,y1,z1,rfl,hx1,hy1,hz1,hb1⟩;exact⟨_,rfl,by constructor<;>assumption,za hw' ‹_›,by assumption⟩)|((first|(go_at_call 142;refine (xu _ _ _ _ _).mono ?_)|(go_at_call 143;refine (vm _ _ _ _ _ _).mono ?_));rintro _ w2⟨rfl,hb1⟩;exact⟨_,rfl,by constructor<;>assumption,za hw' ‹_›,by assumption⟩)|((first|(go_at_call 88;refine (yd _ _).mono ?_)|(go_at_call 276;refine (v8 _ _ _).mono ?_));rintro _ w2⟨r1,rfl,hr1,hb1⟩;exact⟨_,rfl,by constructor<;>assumption,za hw' ‹_›,by assumption⟩)));intro v hv;cases hv));go_simp;refine hK _ ?_;clear hK K)
 refine Qr.walk_nil fun w6 hw6=>?_
 have hkept:=keep hkept hw6
 have W6b:=za Wb hw6
 clear hK
 have hK:=hkept
 simp only[zc,ka,kb,zb,kfa,kga]at hK
 go_wp2_with fail
 obtain⟨hk1,hk2⟩:=hK
 exact bodyPost_ret (v:=.agg #[F1 _,F1 _,F1 _]) (by simp[results,Tryz.results263,go_sem,hk1,hk2];first|done|exact⟨rfl,rfl,rfl⟩|exact rfl) rfl ⟨_,_,_,rfl,by first|rfl|assumption|(simp only[xx,xt,xy,y9,n20,n21,n10,n01,if_true,if_false, *];done),by first|rfl|assumption|(simp only[xx,xt,xy,y9,n20,n21,n10,n01,if_true,if_false, *];done),by first|rfl|assumption|(simp only[xx,xt,xy,y9,n20,n21,n10,n01,if_true,if_false, *];done),(W6b.setCell (by exact Nat.le_succ _) _).setCell (by exact Nat.le_succ _) _ |>.setCell (by exact Nat.le_succ _) _⟩

set_option maxRecDepth 100000 in
theorem j0 (k:Int) (hk:k=5∨k=6∨k=7∨k=8∨k=15∨k=16) {b o x y z:Nat} {w:World} (hkept:zc [(⟨b,o,none⟩,.int .i64 k)] [] w) :
  Calls Tryz.prog 263 #[.pointer (some ⟨b,o,none⟩),V3 x y z] w (ut (cn .f32 x) (cn .f32 y) (cn .f32 z) w):=by
 rcases hk with h|h|h|h|h|h
 all_goals
  subst h
  have hK:=hkept
  simp only[zc,ka,kb,zb,kfa,kga]at hK
  have hb:b<w.heap.size:=zg (a:=⟨b,o,none⟩) (by rw[hK];rfl)
  have hb1:b<w.heap.size+1:=by omega
  go_enter Tryz.func263,Tryz.ntmps263
  go_wp2_with fail
  exact bodyPost_ret (v:=.agg #[F1 _,F1 _,F1 _]) (by simp[results,Tryz.results263,go_sem];first|done|exact⟨rfl,rfl,rfl⟩|exact rfl) rfl ⟨_,_,_,rfl,rfl,rfl,rfl,(by repeat' (first|exact zi _ _|refine zd ?_ _|refine Below.alloc ?_ (by simp<;>omega) _|refine zj ?_ (by simp<;>omega) _|refine za ?_ ‹_›))⟩
end Go.Proofs.YtbiacfkiakddiaaGreat
