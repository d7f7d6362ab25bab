/-
 Lemmas: S11.
-/
import Derived.Test.YtbiacfkiakddiaaGreatXah
set_option linter.unusedVariables false
set_option linter.unusedSimpArgs false
set_option maxHeartbeats 2000000
namespace Go.Proofs.YtbiacfkiakddiaaGreat
open Go.RowKit Go.Fl
inductive PhiP:FuncId→Array Value→Value→Prop
 | less (a b c d e f x y z:Nat) (h1:cn .f32 x=B .sub (cn .f32 a) (cn .f32 d)) (h2:cn .f32 y=B .sub (cn .f32 b) (cn .f32 e)) (h3:cn .f32 z=B .sub (cn .f32 c) (cn .f32 f)):PhiP 167 #[V3 a b c,V3 d e f] (V3 x y z)
 | turn0 (x y z t a b c:Nat) (h1:cn .f32 a=cn .f32 x) (h2:cn .f32 b=yr (cn .f32 t) (cn .f32 y) (cn .f32 z)) (h3:cn .f32 c=y8 (cn .f32 t) (cn .f32 y) (cn .f32 z)):PhiP 275 #[V3 x y z,.int .i64 0,F1 t] (V3 a b c)
 | yr (x y z t a b c:Nat) (h1:cn .f32 a=y8 (cn .f32 t) (cn .f32 z) (cn .f32 x)) (h2:cn .f32 b=cn .f32 y) (h3:cn .f32 c=yr (cn .f32 t) (cn .f32 z) (cn .f32 x)):PhiP 275 #[V3 x y z,.int .i64 1,F1 t] (V3 a b c)
 | y8 (x y z t a b c:Nat) (h1:cn .f32 a=yr (cn .f32 t) (cn .f32 x) (cn .f32 y)) (h2:cn .f32 b=y8 (cn .f32 t) (cn .f32 x) (cn .f32 y)) (h3:cn .f32 c=cn .f32 z):PhiP 275 #[V3 x y z,.int .i64 2,F1 t] (V3 a b c)
 | pick (x y z:Nat) (i:Int):PhiP 142 #[V3 x y z,.int .i64 i] (F1 (y9 x y z i))
 | set (x y z:Nat) (i:Int) (v:Nat):PhiP 143 #[V3 x y z,.int .i64 i,F1 v] (V3 (xx x i v) (xt y i v) (xy z i v))
 | size (a r:Nat) (h:cn .f32 r=vj (cn .f32 a)):PhiP 88 #[F1 a] (F1 r)
 | folded (a b r:Nat) (h:cn .f32 r=kq (cn .f32 a) (cn .f32 b)):PhiP 276 #[F1 a,F1 b] (F1 r)


set_option maxRecDepth 100000 in
theorem zkg {b o bv ov r0 r1 r2 cap x y z:Nat} {w:World} (hkept:zc [(⟨b,o,none⟩,.int .i64 9),(⟨b,o+2,none⟩,.int .i64 0),(⟨b,o+3,none⟩,.slice (some ⟨bv,ov,none⟩) 3 cap),(⟨bv,ov,none⟩,F1 r0),(⟨bv,ov+1,none⟩,F1 r1),(⟨bv,ov+2,none⟩,F1 r2)] [] w) :
  Calls Tryz.prog 263 #[.pointer (some ⟨b,o,none⟩),V3 x y z] w (ut (B .sub (cn .f32 x) (cn .f32 r0)) (B .sub (cn .f32 y) (cn .f32 r1)) (B .sub (cn .f32 z) (cn .f32 r2)) w):=by
 have hK:=hkept
 simp only[zc,ka,kb,zb,kfa,kga]at hK
 have hb:b<w.heap.size:=zg (a:=⟨b,o,none⟩) (by rw[hK.1];rfl)
 have hb1:b<w.heap.size+1:=by omega
 go_enter Tryz.func263,Tryz.ntmps263
 go_upto_region 3 with (fail)
 have Wb:Below w.heap.size w ((w.alloc (.cells #[F1 x,F1 y,F1 z] 38)).alloc (.cells #[F1 0,F1 0,F1 0] 38)):=(by repeat' (first|exact zi _ _|refine zd ?_ _|refine Below.alloc ?_ (by simp<;>omega) _|refine zj ?_ (by simp<;>omega) _|refine za ?_ ‹_›))

 have hkept:=ze (keep hkept Wb) (show zc [(⟨w.heap.size,0,none⟩,F1 x),(⟨w.heap.size,1,none⟩,F1 y),(⟨w.heap.size,2,none⟩,F1 z),(⟨w.heap.size+1,0,none⟩,F1 0),(⟨w.heap.size+1,1,none⟩,F1 0),(⟨w.heap.size+1,2,none⟩,F1 0)] [⟨w.heap.size+1,0,none⟩,⟨w.heap.size+1,1,none⟩,⟨w.heap.size+1,2,none⟩] ((w.alloc (.cells #[F1 x,F1 y,F1 z] 38)).alloc (.cells #[F1 0,F1 0,F1 0] 38)) by
  simp only[zc,ka,kb,zb,kfa,kga];simp)
 generalize (w.alloc (.cells #[F1 x,F1 y,F1 z] 38)).alloc (.cells #[F1 0,F1 0,F1 0] 38)=W1 at Wb hkept ⊢
 refine Qr.wp_below 21 (by kernel_rfl) (by kernel_rfl) PhiP ?_
 repeat (refine Qr.walk_plain rfl fun K hK=>?_;(first|(refine zk _ _ _ _ _ rfl _ _ _ rfl rfl rfl (fun r hr=>?_))|(apply Qr.one_det;(focus (intro w' hw';have HK:=keep hkept hw';simp only[zc,ka,kb,zb,kfa,kga]at HK;go_simp;first|done|rfl)))|(apply Qr.one_call;(focus (intro w' hw';go_simp;first|done|exact⟨rfl,rfl⟩));(focus (intro w' hw';first|(go_at_call 167;refine (uo _ _ _ _ _ _ _).mono ?_;rintro _ w2⟨x1,y1,z1,rfl,hx1,hy1,hz1,hb1⟩;exact⟨_,rfl,by constructor<;>assumption,za hw' ‹_›,by assumption⟩)|((first|(go_at_call 142;refine (xu _ _ _ _ _).mono ?_)|(go_at_call 143;refine (vm _ _ _ _ _ _).mono ?_));rintro _ w2⟨rfl,hb1⟩;exact⟨_,rfl,by constructor<;>assumption,za hw' ‹_›,by assumption⟩)|((first|(go_at_call 88;refine (yd _ _).mono ?_)|(go_at_call 276;refine (v8 _ _ _).mono ?_));rintro _ w2⟨r1,rfl,hr1,hb1⟩;exact⟨_,rfl,by constructor<;>assumption,za hw' ‹_›,by assumption⟩)));intro v hv;cases hv));go_simp;refine hK _ ?_;clear hK K)
 refine Qr.walk_nil fun w6 hw6=>?_
 have hkept:=keep hkept hw6
 have W6b:=za Wb hw6
 clear hK
 have hK:=hkept
 simp only[zc,ka,kb,zb,kfa,kga]at hK
 go_wp2_with fail
 obtain⟨hk1,hk2⟩:=hK
 exact bodyPost_ret (v:=.agg #[F1 _,F1 _,F1 _]) (by simp[results,Tryz.results263,go_sem,hk1,hk2];first|done|exact⟨rfl,rfl,rfl⟩|exact rfl) rfl ⟨_,_,_,rfl,by first|rfl|assumption|(simp only[xx,xt,xy,y9,n20,n21,n10,n01,if_true,if_false, *];done),by first|rfl|assumption|(simp only[xx,xt,xy,y9,n20,n21,n10,n01,if_true,if_false, *];done),by first|rfl|assumption|(simp only[xx,xt,xy,y9,n20,n21,n10,n01,if_true,if_false, *];done),(W6b.setCell (by exact Nat.le_succ _) _).setCell (by exact Nat.le_succ _) _ |>.setCell (by exact Nat.le_succ _) _⟩

set_option maxRecDepth 100000 in
theorem zhu {b o bv ov r0 cap x y z:Nat} {w:World} (hkept:zc [(⟨b,o,none⟩,.int .i64 10),(⟨b,o+2,none⟩,.int .i64 0),(⟨b,o+3,none⟩,.slice (some ⟨bv,ov,none⟩) 1 cap),(⟨bv,ov,none⟩,F1 r0)] [] w) :
  Calls Tryz.prog 263 #[.pointer (some ⟨b,o,none⟩),V3 x y z] w (ut (B .quo (cn .f32 x) (cn .f32 r0)) (B .quo (cn .f32 y) (cn .f32 r0)) (B .quo (cn .f32 z) (cn .f32 r0)) w):=by
 have hK:=hkept
 simp only[zc,ka,kb,zb,kfa,kga]at hK
 have hb:b<w.heap.size:=zg (a:=⟨b,o,none⟩) (by rw[hK.1];rfl)
 have hb1:b<w.heap.size+1:=by omega
 go_enter Tryz.func263,Tryz.ntmps263
 go_upto_region 5 with (fail)
 have Wb:Below w.heap.size w ((w.alloc (.cells #[F1 x,F1 y,F1 z] 38)).alloc (.cells #[F1 0,F1 0,F1 0] 38)):=(by repeat' (first|exact zi _ _|refine zd ?_ _|refine Below.alloc ?_ (by simp<;>omega) _|refine zj ?_ (by simp<;>omega) _|refine za ?_ ‹_›))

 have hkept:=ze (keep hkept Wb) (show zc [(⟨w.heap.size,0,none⟩,F1 x),(⟨w.heap.size,1,none⟩,F1 y),(⟨w.heap.size,2,none⟩,F1 z),(⟨w.heap.size+1,0,none⟩,F1 0),(⟨w.heap.size+1,1,none⟩,F1 0),(⟨w.heap.size+1,2,none⟩,F1 0)] [⟨w.heap.size+1,0,none⟩,⟨w.heap.size+1,1,none⟩,⟨w.heap.size+1,2,none⟩] ((w.alloc (.cells #[F1 x,F1 y,F1 z] 38)).alloc (.cells #[F1 0,F1 0,F1 0] 38)) by
  simp only[zc,ka,kb,zb,kfa,kga];simp)
 generalize (w.alloc (.cells #[F1 x,F1 y,F1 z] 38)).alloc (.cells #[F1 0,F1 0,F1 0] 38)=W1 at Wb hkept ⊢
 refine Qr.wp_below 28 (by kernel_rfl) (by kernel_rfl) PhiP ?_
 repeat (refine Qr.walk_plain rfl fun K hK=>?_;(first|(refine zk _ _ _ _ _ rfl _ _ _ rfl rfl rfl (fun r hr=>?_))|(apply Qr.one_det;(focus (intro w' hw';have HK:=keep hkept hw';simp only[zc,ka,kb,zb,kfa,kga]at HK;go_simp;first|done|rfl)))|(apply Qr.one_call;(focus (intro w' hw';go_simp;first|done|exact⟨rfl,rfl⟩));(focus (intro w' hw';first|(go_at_call 167;refine (uo _ _ _ _ _ _ _).mono ?_;rintro _ w2⟨x1,y1,z1,rfl,hx1,hy1,hz1,hb1⟩;exact⟨_,rfl,by constructor<;>assumption,za hw' ‹_›,by assumption⟩)|((first|(go_at_call 142;refine (xu _ _ _ _ _).mono ?_)|(go_at_call 143;refine (vm _ _ _ _ _ _).mono ?_));rintro _ w2⟨rfl,hb1⟩;exact⟨_,rfl,by constructor<;>assumption,za hw' ‹_›,by assumption⟩)|((first|(go_at_call 88;refine (yd _ _).mono ?_)|(go_at_call 276;refine (v8 _ _ _).mono ?_));rintro _ w2⟨r1,rfl,hr1,hb1⟩;exact⟨_,rfl,by constructor<;>assumption,za hw' ‹_›,by assumption⟩)));intro v hv;cases hv));go_simp;refine hK _ ?_;clear hK K)
 refine Qr.walk_nil fun w6 hw6=>?_
 have hkept:=keep hkept hw6
 have W6b:=za Wb hw6
 clear hK
 have hK:=hkept
 simp only[zc,ka,kb,zb,kfa,kga]at hK
 go_wp2_with fail
 obtain⟨hk1,hk2⟩:=hK
 exact bodyPost_ret (v:=.agg #[F1 _,F1 _,F1 _]) (by simp[results,Tryz.results263,go_sem,hk1,hk2];first|done|exact⟨rfl,rfl,rfl⟩|exact rfl) rfl ⟨_,_,_,rfl,by first|rfl|assumption|(simp only[xx,xt,xy,y9,n20,n21,n10,n01,if_true,if_false, *];done),by first|rfl|assumption|(simp only[xx,xt,xy,y9,n20,n21,n10,n01,if_true,if_false, *];done),by first|rfl|assumption|(simp only[xx,xt,xy,y9,n20,n21,n10,n01,if_true,if_false, *];done),(W6b.setCell (by exact Nat.le_succ _) _).setCell (by exact Nat.le_succ _) _ |>.setCell (by exact Nat.le_succ _) _⟩

set_option maxRecDepth 100000 in
theorem zfa {b o bv ov r0 r1 r2 cap x y z:Nat} {w:World} (hkept:zc [(⟨b,o,none⟩,.int .i64 11),(⟨b,o+2,none⟩,.int .i64 0),(⟨b,o+3,none⟩,.slice (some ⟨bv,ov,none⟩) 3 cap),(⟨bv,ov,none⟩,F1 r0),(⟨bv,ov+1,none⟩,F1 r1),(⟨bv,ov+2,none⟩,F1 r2)] [] w) :
  Calls Tryz.prog 263 #[.pointer (some ⟨b,o,none⟩),V3 x y z] w (ut (B .quo (cn .f32 x) (cn .f32 r0)) (B .quo (cn .f32 y) (cn .f32 r1)) (B .quo (cn .f32 z) (cn .f32 r2)) w):=by
 have hK:=hkept
 simp only[zc,ka,kb,zb,kfa,kga]at hK
 have hb:b<w.heap.size:=zg (a:=⟨b,o,none⟩) (by rw[hK.1];rfl)
 have hb1:b<w.heap.size+1:=by omega
 go_enter Tryz.func263,Tryz.ntmps263
 go_upto_region 7 with (fail)
 have Wb:Below w.heap.size w ((w.alloc (.cells #[F1 x,F1 y,F1 z] 38)).alloc (.cells #[F1 0,F1 0,F1 0] 38)):=(by repeat' (first|exact zi _ _|refine zd ?_ _|refine Below.alloc ?_ (by simp<;>omega) _|refine zj ?_ (by simp<;>omega) _|refine za ?_ ‹_›))

 have hkept:=ze (keep hkept Wb) (show zc [(⟨w.heap.size,0,none⟩,F1 x),(⟨w.heap.size,1,none⟩,F1 y),(⟨w.heap.size,2,none⟩,F1 z),(⟨w.heap.size+1,0,none⟩,F1 0),(⟨w.heap.size+1,1,none⟩,F1 0),(⟨w.heap.size+1,2,none⟩,F1 0)] [⟨w.heap.size+1,0,none⟩,⟨w.heap.size+1,1,none⟩,⟨w.heap.size+1,2,none⟩] ((w.alloc (.cells #[F1 x,F1 y,F1 z] 38)).alloc (.cells #[F1 0,F1 0,F1 0] 38)) by
  simp only[zc,ka,kb,zb,kfa,kga];simp)
 generalize (w.alloc (.cells #[F1 x,F1 y,F1 z] 38)).alloc (.cells #[F1 0,F1 0,F1 0] 38)=W1 at Wb hkept ⊢
 refine Qr.wp_below 28 (by kernel_rfl) (by kernel_rfl) PhiP ?_
 repeat (refine Qr.walk_plain rfl fun K hK=>?_;(first|(refine zk _ _ _ _ _ rfl _ _ _ rfl rfl rfl (fun r hr=>?_))|(apply Qr.one_det;(focus (intro w' hw';have HK:=keep hkept hw';simp only[zc,ka,kb,zb,kfa,kga]at HK;go_simp;first|done|rfl)))|(apply Qr.one_call;(focus (intro w' hw';go_simp;first|done|exact⟨rfl,rfl⟩));(focus (intro w' hw';first|(go_at_call 167;refine (uo _ _ _ _ _ _ _).mono ?_;rintro _ w2⟨x1,y1,z1,rfl,hx1,hy1,hz1,hb1⟩;exact⟨_,rfl,by constructor<;>assumption,za hw' ‹_›,by assumption⟩)|((first|(go_at_call 142;refine (xu _ _ _ _ _).mono ?_)|(go_at_call 143;refine (vm _ _ _ _ _ _).mono ?_));rintro _ w2⟨rfl,hb1⟩;exact⟨_,rfl,by constructor<;>assumption,za hw' ‹_›,by assumption⟩)|((first|(go_at_call 88;refine (yd _ _).mono ?_)|(go_at_call 276;refine (v8 _ _ _).mono ?_));rintro _ w2⟨r1,rfl,hr1,hb1⟩;exact⟨_,rfl,by constructor<;>assumption,za hw' ‹_›,by assumption⟩)));intro v hv;cases hv));go_simp;refine hK _ ?_;clear hK K)
 refine Qr.walk_nil fun w6 hw6=>?_
 have hkept:=keep hkept hw6
 have W6b:=za Wb hw6
 clear hK
 have hK:=hkept
 simp only[zc,ka,kb,zb,kfa,kga]at hK
 go_wp2_with fail
 obtain⟨hk1,hk2⟩:=hK
 exact bodyPost_ret (v:=.agg #[F1 _,F1 _,F1 _]) (by simp[results,Tryz.results263,go_sem,hk1,hk2];first|done|exact⟨rfl,rfl,rfl⟩|exact rfl) rfl ⟨_,_,_,rfl,by first|rfl|assumption|(simp only[xx,xt,xy,y9,n20,n21,n10,n01,if_true,if_false, *];done),by first|rfl|assumption|(simp only[xx,xt,xy,y9,n20,n21,n10,n01,if_true,if_false, *];done),by first|rfl|assumption|(simp only[xx,xt,xy,y9,n20,n21,n10,n01,if_true,if_false, *];done),(W6b.setCell (by exact Nat.le_succ _) _).setCell (by exact Nat.le_succ _) _ |>.setCell (by exact Nat.le_succ _) _⟩

set_option maxRecDepth 100000 in
theorem zhp {b o bv ov r0 cap x y z:Nat} {w:World} (hkept:zc [(⟨b,o,none⟩,.int .i64 12),(⟨b,o+2,none⟩,.int .i64 0),(⟨b,o+3,none⟩,.slice (some ⟨bv,ov,none⟩) 1 cap),(⟨bv,ov,none⟩,F1 r0)] [] w) :
  Calls Tryz.prog 263 #[.pointer (some ⟨b,o,none⟩),V3 x y z] w (ut (cn .f32 x) (yr (cn .f32 r0) (cn .f32 y) (cn .f32 z)) (y8 (cn .f32 r0) (cn .f32 y) (cn .f32 z)) w):=by
 have hK:=hkept
 simp only[zc,ka,kb,zb,kfa,kga]at hK
 have hb:b<w.heap.size:=zg (a:=⟨b,o,none⟩) (by rw[hK.1];rfl)
 have hb1:b<w.heap.size+1:=by omega
 go_enter Tryz.func263,Tryz.ntmps263
 go_upto_region 9 with (fail)
 have Wb:Below w.heap.size w ((w.alloc (.cells #[F1 x,F1 y,F1 z] 38)).alloc (.cells #[F1 0,F1 0,F1 0] 38)):=(by repeat' (first|exact zi _ _|refine zd ?_ _|refine Below.alloc ?_ (by simp<;>omega) _|refine zj ?_ (by simp<;>omega) _|refine za ?_ ‹_›))

 have hkept:=ze (keep hkept Wb) (show zc [(⟨w.heap.size,0,none⟩,F1 x),(⟨w.heap.size,1,none⟩,F1 y),(⟨w.heap.size,2,none⟩,F1 z),(⟨w.heap.size+1,0,none⟩,F1 0),(⟨w.heap.size+1,1,none⟩,F1 0),(⟨w.heap.size+1,2,none⟩,F1 0)] [⟨w.heap.size+1,0,none⟩,⟨w.heap.size+1,1,none⟩,⟨w.heap.size+1,2,none⟩] ((w.alloc (.cells #[F1 x,F1 y,F1 z] 38)).alloc (.cells #[F1 0,F1 0,F1 0] 38)) by
  simp only[zc,ka,kb,zb,kfa,kga];simp)
 generalize (w.alloc (.cells #[F1 x,F1 y,F1 z] 38)).alloc (.cells #[F1 0,F1 0,F1 0] 38)=W1 at Wb hkept ⊢
 refine Qr.wp_below 12 (by kernel_rfl) (by kernel_rfl) PhiP ?_
 repeat (refine Qr.walk_plain rfl fun K hK=>?_;(first|(refine zk _ _ _ _ _ rfl _ _ _ rfl rfl rfl (fun r hr=>?_))|(apply Qr.one_det;(focus (intro w' hw';have HK:=keep hkept hw';simp only[zc,ka,kb,zb,kfa,kga]at HK;go_simp;first|done|rfl)))|(apply Qr.one_call;(focus (intro w' hw';go_simp;first|done|exact⟨rfl,rfl⟩));(focus (intro w' hw';go_at_call 275;refine (zny _ _ _ _ _).mono ?_;rintro _ w2⟨x1,y1,z1,rfl,hx1,hy1,hz1,hb1⟩;exact⟨_,rfl,by constructor<;>assumption,za hw' ‹_›,by assumption⟩));intro v hv;cases hv));go_simp;refine hK _ ?_;clear hK K)
 refine Qr.walk_nil fun w6 hw6=>?_
 have hkept:=keep hkept hw6
 have W6b:=za Wb hw6
 clear hK
 have hK:=hkept
 simp only[zc,ka,kb,zb,kfa,kga]at hK
 go_wp2_with fail
 obtain⟨hk1,hk2⟩:=hK
 exact bodyPost_ret (v:=.agg #[F1 _,F1 _,F1 _]) (by simp[results,Tryz.results263,go_sem,hk1,hk2];first|done|exact⟨rfl,rfl,rfl⟩|exact rfl) rfl ⟨_,_,_,rfl,by first|rfl|assumption|(simp only[xx,xt,xy,y9,n20,n21,n10,n01,if_true,if_false, *];done),by first|rfl|assumption|(simp only[xx,xt,xy,y9,n20,n21,n10,n01,if_true,if_false, *];done),by first|rfl|assumption|(simp only[xx,xt,xy,y9,n20,n21,n10,n01,if_true,if_false, *];done),(W6b.setCell (by exact Nat.le_succ _) _).setCell (by exact Nat.le_succ _) _ |>.setCell (by exact Nat.le_succ _) _⟩

set_option maxRecDepth 100000 in
theorem zh6 {b o bv ov r0 cap x y z:Nat} {w:World} (hkept:zc [(⟨b,o,none⟩,.int .i64 12),(⟨b,o+2,none⟩,.int .i64 1),(⟨b,o+3,none⟩,.slice (some ⟨bv,ov,none⟩) 1 cap),(⟨bv,ov,none⟩,F1 r0)] [] w) :
  Calls Tryz.prog 263 #[.pointer (some ⟨b,o,none⟩),V3 x y z] w (ut (y8 (cn .f32 r0) (cn .f32 z) (cn .f32 x)) (cn .f32 y) (yr (cn .f32 r0) (cn .f32 z) (cn .f32 x)) w):=by
 have hK:=hkept
 simp only[zc,ka,kb,zb,kfa,kga]at hK
 have hb:b<w.heap.size:=zg (a:=⟨b,o,none⟩) (by rw[hK.1];rfl)
 have hb1:b<w.heap.size+1:=by omega
 go_enter Tryz.func263,Tryz.ntmps263
 go_upto_region 9 with (fail)
 have Wb:Below w.heap.size w ((w.alloc (.cells #[F1 x,F1 y,F1 z] 38)).alloc (.cells #[F1 0,F1 0,F1 0] 38)):=(by repeat' (first|exact zi _ _|refine zd ?_ _|refine Below.alloc ?_ (by simp<;>omega) _|refine zj ?_ (by simp<;>omega) _|refine za ?_ ‹_›))

 have hkept:=ze (keep hkept Wb) (show zc [(⟨w.heap.size,0,none⟩,F1 x),(⟨w.heap.size,1,none⟩,F1 y),(⟨w.heap.size,2,none⟩,F1 z),(⟨w.heap.size+1,0,none⟩,F1 0),(⟨w.heap.size+1,1,none⟩,F1 0),(⟨w.heap.size+1,2,none⟩,F1 0)] [⟨w.heap.size+1,0,none⟩,⟨w.heap.size+1,1,none⟩,⟨w.heap.size+1,2,none⟩] ((w.alloc (.cells #[F1 x,F1 y,F1 z] 38)).alloc (.cells #[F1 0,F1 0,F1 0] 38)) by
  simp only[zc,ka,kb,zb,kfa,kga];simp)
 generalize (w.alloc (.cells #[F1 x,F1 y,F1 z] 38)).alloc (.cells #[F1 0,F1 0,F1 0] 38)=W1 at Wb hkept ⊢
 refine Qr.wp_below 12 (by kernel_rfl) (by kernel_rfl) PhiP ?_
 repeat (refine Qr.walk_plain rfl fun K hK=>?_;(first|(refine zk _ _ _ _ _ rfl _ _ _ rfl rfl rfl (fun r hr=>?_))|(apply Qr.one_det;(focus (intro w' hw';have HK:=keep hkept hw';simp only[zc,ka,kb,zb,kfa,kga]at HK;go_simp;first|done|rfl)))|(apply Qr.one_call;(focus (intro w' hw';go_simp;first|done|exact⟨rfl,rfl⟩));(focus (intro w' hw';go_at_call 275;refine (znz _ _ _ _ _).mono ?_;rintro _ w2⟨x1,y1,z1,rfl,hx1,hy1,hz1,hb1⟩;exact⟨_,rfl,by constructor<;>assumption,za hw' ‹_›,by assumption⟩));intro v hv;cases hv));go_simp;refine hK _ ?_;clear hK K)
 refine Qr.walk_nil fun w6 hw6=>?_
 have hkept:=keep hkept hw6
 have W6b:=za Wb hw6
 clear hK
 have hK:=hkept
 simp only[zc,ka,kb,zb,kfa,kga]at hK
 go_wp2_with fail
 obtain⟨hk1,hk2⟩:=hK
 exact bodyPost_ret (v:=.agg #[F1 _,F1 _,F1 _]) (by simp[results,Tryz.results263,go_sem,hk1,hk2];first|done|exact⟨rfl,rfl,rfl⟩|exact rfl) rfl ⟨_,_,_,rfl,by first|rfl|assumption|(simp only[xx,xt,xy,y9,n20,n21,n10,n01,if_true,if_false, *];done),by first|rfl|assumption|(simp only[xx,xt,xy,y9,n20,n21,n10,n01,if_true,if_false, *];done),by first|rfl|assumption|(simp only[xx,xt,xy,y9,n20,n21,n10,n01,if_true,if_false, *];done),(W6b.setCell (by exact Nat.le_succ _) _).setCell (by exact Nat.le_succ _) _ |>.setCell (by exact Nat.le_succ _) _⟩

set_option maxRecDepth 100000 in
theorem zht {b o bv ov r0 cap x y z:Nat} {w:World} (hkept:zc [(⟨b,o,none⟩,.int .i64 12),(⟨b,o+2,none⟩,.int .i64 2),(⟨b,o+3,none⟩,.slice (some ⟨bv,ov,none⟩) 1 cap),(⟨bv,ov,none⟩,F1 r0)] [] w) :
  Calls Tryz.prog 263 #[.pointer (some ⟨b,o,none⟩),V3 x y z] w (ut (yr (cn .f32 r0) (cn .f32 x) (cn .f32 y)) (y8 (cn .f32 r0) (cn .f32 x) (cn .f32 y)) (cn .f32 z) w):=by
 have hK:=hkept
 simp only[zc,ka,kb,zb,kfa,kga]at hK
 have hb:b<w.heap.size:=zg (a:=⟨b,o,none⟩) (by rw[hK.1];rfl)
 have hb1:b<w.heap.size+1:=by omega
 go_enter Tryz.func263,Tryz.ntmps263
 go_upto_region 9 with (fail)
 have Wb:Below w.heap.size w ((w.alloc (.cells #[F1 x,F1 y,F1 z] 38)).alloc (.cells #[F1 0,F1 0,F1 0] 38)):=(by repeat' (first|exact zi _ _|refine zd ?_ _|refine Below.alloc ?_ (by simp<;>omega) _|refine zj ?_ (by simp<;>omega) _|refine za ?_ ‹_›))

 have hkept:=ze (keep hkept Wb) (show zc [(⟨w.heap.size,0,none⟩,F1 x),(⟨w.heap.size,1,none⟩,F1 y),(⟨w.heap.size,2,none⟩,F1 z),(⟨w.heap.size+1,0,none⟩,F1 0),(⟨w.heap.size+1,1,none⟩,F1 0),(⟨w.heap.size+1,2,none⟩,F1 0)] [⟨w.heap.size+1,0,none⟩,⟨w.heap.size+1,1,none⟩,⟨w.heap.size+1,2,none⟩] ((w.alloc (.cells #[F1 x,F1 y,F1 z] 38)).alloc (.cells #[F1 0,F1 0,F1 0] 38)) by
  simp only[zc,ka,kb,zb,kfa,kga];simp)
 generalize (w.alloc (.cells #[F1 x,F1 y,F1 z] 38)).alloc (.cells #[F1 0,F1 0,F1 0] 38)=W1 at Wb hkept ⊢
 refine Qr.wp_below 12 (by kernel_rfl) (by kernel_rfl) PhiP ?_
 repeat (refine Qr.walk_plain rfl fun K hK=>?_;(first|(refine zk _ _ _ _ _ rfl _ _ _ rfl rfl rfl (fun r hr=>?_))|(apply Qr.one_det;(focus (intro w' hw';have HK:=keep hkept hw';simp only[zc,ka,kb,zb,kfa,kga]at HK;go_simp;first|done|rfl)))|(apply Qr.one_call;(focus (intro w' hw';go_simp;first|done|exact⟨rfl,rfl⟩));(focus (intro w' hw';go_at_call 275;refine (zn7 _ _ _ _ _).mono ?_;rintro _ w2⟨x1,y1,z1,rfl,hx1,hy1,hz1,hb1⟩;exact⟨_,rfl,by constructor<;>assumption,za hw' ‹_›,by assumption⟩));intro v hv;cases hv));go_simp;refine hK _ ?_;clear hK K)
 refine Qr.walk_nil fun w6 hw6=>?_
 have hkept:=keep hkept hw6
 have W6b:=za Wb hw6
 clear hK
 have hK:=hkept
 simp only[zc,ka,kb,zb,kfa,kga]at hK
 go_wp2_with fail
 obtain⟨hk1,hk2⟩:=hK
 exact bodyPost_ret (v:=.agg #[F1 _,F1 _,F1 _]) (by simp[results,Tryz.results263,go_sem,hk1,hk2];first|done|exact⟨rfl,rfl,rfl⟩|exact rfl) rfl ⟨_,_,_,rfl,by first|rfl|assumption|(simp only[xx,xt,xy,y9,n20,n21,n10,n01,if_true,if_false, *];done),by first|rfl|assumption|(simp only[xx,xt,xy,y9,n20,n21,n10,n01,if_true,if_false, *];done),by first|rfl|assumption|(simp only[xx,xt,xy,y9,n20,n21,n10,n01,if_true,if_false, *];done),(W6b.setCell (by exact Nat.le_succ _) _).setCell (by exact Nat.le_succ _) _ |>.setCell (by exact Nat.le_succ _) _⟩

end Go.Proofs.YtbiacfkiakddiaaGreat
