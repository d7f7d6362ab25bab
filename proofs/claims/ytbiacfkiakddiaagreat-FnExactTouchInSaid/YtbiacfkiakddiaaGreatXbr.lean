/-
 Lemmas: V26.
-/
import Derived.Test.YtbiacfkiakddiaaGreatXbl
set_option linter.unusedVariables false
set_option linter.unusedSimpArgs false
set_option maxHeartbeats 2000000
namespace Go.Proofs.YtbiacfkiakddiaaGreat
open Go.RowKit Go.Fl
def Sl1 (W:World) (d1:Tmp) (A:Array Value) (T:TypeId) (n:Nat) (d:Tmp) (v:Value) (w:World):Prop :=
 d=d1→v=undef∨∃ g,v=.slice (some ⟨g,0,none⟩) n n∧W.heap.size≤g∧w.heap[g]? = some (.cells A T (0,0))
theorem zr3 (W:World) (d1:Tmp) (A:Array Value) (T:TypeId) (n:Nat):Qg.Lasts (Sl1 W d1 A T n):=by
 refine⟨fun d v w w' h hb hd=>?_,fun d w _=>.inl rfl⟩
 rcases h hd with h|⟨g,h1,h2,h3⟩
 ·exact .inl h
 ·exact .inr ⟨g,h1,h2,by rw[hb.block g (zl h3)];exact h3⟩
theorem zrj {W:World} {d1:Tmp} {A:Array Value} {T:TypeId} {n:Nat} {a:Act} {w:World} (h:a.tmps.getD d1 undef=undef):Qg.E (Sl1 W d1 A T n) [] a w:=by
 refine⟨fun d hd=>.inl (by rw[hd];exact h),?_,?_⟩<;>(intro d hd;cases hd)
theorem zxp {W:World} {d1 d:Tmp} {A:Array Value} {T:TypeId} {n:Nat} {v:Value} {w:World} (h1:d ≠ d1):Qg.gd (Sl1 W d1 A T n) (some d) v w:=fun h=>absurd h h1
theorem zwn {W:World} {d1:Tmp} {A:Array Value} {T:TypeId} {n:Nat} {w:World} (hb:Below W.heap.size W w):Qg.gd (Sl1 W d1 A T n) (some d1) (.slice (some ⟨w.heap.size,0,none⟩) n n) (w.alloc (.cells A T)) :=
 fun _=>.inr ⟨_,rfl,hb.size,zch _ _⟩
theorem zx5 {w:World} {g:Nat} {a b c:Value} {T:TypeId} (h:w.heap[g]? = some (.cells #[a,b,c] T (0,0))):zc [(⟨g,0,none⟩,a),(⟨g,1,none⟩,b),(⟨g,2,none⟩,c)] [] w:=by
 refine zm ?_ (zm ?_ (zm ?_ ve))<;>simp[World.cell?,h]

set_option maxRecDepth 100000 in
theorem zo9 {b o bv ov cap r0 r1 r2 x0 x1 y0 y1 z0 z1:Nat} {bp:Option Addr} {w:World} (hN:zc [(⟨b,o,none⟩,.int .i64 9),(⟨b,o+2,none⟩,.int .i64 0),(⟨b,o+3,none⟩,.slice (some ⟨bv,ov,none⟩) 3 cap),(⟨bv,ov,none⟩,F1 r0),(⟨bv,ov+1,none⟩,F1 r1),(⟨bv,ov+2,none⟩,F1 r2)] [] w) :
  Calls Tryz.prog 122 #[.pointer (some ⟨b,o,none⟩),Rg3 x0 x1 y0 y1 z0 z1] w (vn (uf (cn .f32 x0,cn .f32 x1) (cn .f32 r0),uf (cn .f32 y0,cn .f32 y1) (cn .f32 r1),uf (cn .f32 z0,cn .f32 z1) (cn .f32 r2)) w):=by
 have hK:=hN
 simp only[zc,ka,kb,zb,kfa,kga]at hK
 have hb:b<w.heap.size:=zg (a:=⟨b,o,none⟩) (by first|(rw[hK.1];rfl)|(rw[hK];rfl))
 go_enter Tryz.func122,Tryz.ntmps122
 go_upto_region 1 with fail
 clear hK
 generalize hW:(w.alloc (.cells #[F1 x0,F1 x1,F1 y0,F1 y1,F1 z0,F1 z1] 180)).alloc (.cells #[F1 0,F1 0,F1 0,F1 0,F1 0,F1 0] 180)=W1 at *
 have W1b:Below w.heap.size w W1:=by subst hW;exact xa ..
 have hkept:=yt true true hW;simp only[zr,zq,zo,zv,Nat.reduceAdd]at hkept;clear hW
 have hkept:=ze (keep hN W1b) hkept
 have hK:=hkept;simp only[zc,ka,kb,zb,kfa,kga]at hK
 have hb1:b<W1.heap.size:=Nat.lt_of_lt_of_le hb W1b.size
 go_upto_region 3 with fail
 refine Qr.wp_below 11 (by kernel_rfl) (by kernel_rfl) PhiTs ?_
 repeat (refine Qr.walk_plain rfl fun K hK=>?_;(first|(refine zk _ _ _ _ _ rfl _ _ _ rfl rfl rfl (fun r hr=>?_))|(apply Qr.one_det;(focus (intro w' hw';have HK:=keep hkept hw';simp only[zc,ka,kb,zb,kfa,kga]at HK;go_simp;first|done|rfl)))|(apply Qr.one_call;(focus (intro w' hw';go_simp;first|done|exact⟨rfl,rfl⟩));(focus (intro w' hw';(first|(go_at_call 187;refine (yn _ _ _ _ _).mono ?_)|(go_at_call 188;refine (y5 _ _).mono ?_)|(go_at_call 193;refine (yp _ _ _ _).mono ?_)|(go_at_call 192;refine (xp _ _ _ _ _).mono ?_));rintro _ w2⟨l1,u1,rfl,hr1,hb1⟩;exact⟨_,rfl,by constructor<;>assumption,za hw' ‹_›,by assumption⟩));intro v hv;cases hv));go_simp;refine hK _ ?_;clear hK K)
 rename_i l0 u0 h0 m0 v0 g0
 refine Qr.walk_nil fun w2 hw2=>?_
 have hkept:=keep hkept hw2
 have W2b:=za W1b hw2
 clear hK
 have hK:=hkept
 simp only[zc,ka,kb,zb,kfa,kga]at hK
 go_upto_region 4 with fail
 have W3b:=(W2b.setCell (p:=⟨w.heap.size,0,none⟩) (Nat.le_refl _) (F1 m0)).setCell (p:=⟨w.heap.size,1,none⟩) (Nat.le_refl _) (F1 v0)
 have hset:zc [(⟨w.heap.size,0,none⟩,F1 m0),(⟨w.heap.size,1,none⟩,F1 v0),(⟨w.heap.size,2,none⟩,F1 y0),(⟨w.heap.size,3,none⟩,F1 y1),(⟨w.heap.size,4,none⟩,F1 z0),(⟨w.heap.size,5,none⟩,F1 z1),(⟨w.heap.size+1,0,none⟩,F1 0),(⟨w.heap.size+1,1,none⟩,F1 0),(⟨w.heap.size+1,2,none⟩,F1 0),(⟨w.heap.size+1,3,none⟩,F1 0),(⟨w.heap.size+1,4,none⟩,F1 0),(⟨w.heap.size+1,5,none⟩,F1 0)] [⟨w.heap.size,0,none⟩,⟨w.heap.size,1,none⟩,⟨w.heap.size,2,none⟩,⟨w.heap.size,3,none⟩,⟨w.heap.size,4,none⟩,⟨w.heap.size,5,none⟩,⟨w.heap.size+1,0,none⟩,⟨w.heap.size+1,1,none⟩,⟨w.heap.size+1,2,none⟩,⟨w.heap.size+1,3,none⟩,⟨w.heap.size+1,4,none⟩,⟨w.heap.size+1,5,none⟩] ((w2.setCell ⟨w.heap.size,0,none⟩ (F1 m0)).setCell ⟨w.heap.size,1,none⟩ (F1 v0)):=by simp only[zc,ka,kb,zb,kfa,kga];simp[hK,go_sem,zf,zh,yk]
 have hkept:=ze (keep hN W3b) hset
 clear hK hset
 generalize ((w2.setCell ⟨w.heap.size,0,none⟩ (F1 m0)).setCell ⟨w.heap.size,1,none⟩ (F1 v0))=W3 at *
 have hK:=hkept;simp only[zc,ka,kb,zb,kfa,kga]at hK
 go_upto_region 4 with fail
 refine Qr.wp_below 11 (by kernel_rfl) (by kernel_rfl) PhiTs ?_
 repeat (refine Qr.walk_plain rfl fun K hK=>?_;(first|(refine zk _ _ _ _ _ rfl _ _ _ rfl rfl rfl (fun r hr=>?_))|(apply Qr.one_det;(focus (intro w' hw';have HK:=keep hkept hw';simp only[zc,ka,kb,zb,kfa,kga]at HK;go_simp;first|done|rfl)))|(apply Qr.one_call;(focus (intro w' hw';go_simp;first|done|exact⟨rfl,rfl⟩));(focus (intro w' hw';(first|(go_at_call 187;refine (yn _ _ _ _ _).mono ?_)|(go_at_call 188;refine (y5 _ _).mono ?_)|(go_at_call 193;refine (yp _ _ _ _).mono ?_)|(go_at_call 192;refine (xp _ _ _ _ _).mono ?_));rintro _ w2⟨l1,u1,rfl,hr1,hb1⟩;exact⟨_,rfl,by constructor<;>assumption,za hw' ‹_›,by assumption⟩));intro v hv;cases hv));go_simp;refine hK _ ?_;clear hK K)
 rename_i l1 u1 h1 m1 v1 g1
 refine Qr.walk_nil fun w4 hw4=>?_
 have hkept:=keep hkept hw4
 have W4b:=za W3b hw4
 clear hK
 have hK:=hkept
 simp only[zc,ka,kb,zb,kfa,kga]at hK
 go_upto_region 5 with fail
 have W5b:=(W4b.setCell (p:=⟨w.heap.size,2,none⟩) (Nat.le_refl _) (F1 m1)).setCell (p:=⟨w.heap.size,3,none⟩) (Nat.le_refl _) (F1 v1)
 have hset:zc [(⟨w.heap.size,0,none⟩,F1 m0),(⟨w.heap.size,1,none⟩,F1 v0),(⟨w.heap.size,2,none⟩,F1 m1),(⟨w.heap.size,3,none⟩,F1 v1),(⟨w.heap.size,4,none⟩,F1 z0),(⟨w.heap.size,5,none⟩,F1 z1),(⟨w.heap.size+1,0,none⟩,F1 0),(⟨w.heap.size+1,1,none⟩,F1 0),(⟨w.heap.size+1,2,none⟩,F1 0),(⟨w.heap.size+1,3,none⟩,F1 0),(⟨w.heap.size+1,4,none⟩,F1 0),(⟨w.heap.size+1,5,none⟩,F1 0)] [⟨w.heap.size,0,none⟩,⟨w.heap.size,1,none⟩,⟨w.heap.size,2,none⟩,⟨w.heap.size,3,none⟩,⟨w.heap.size,4,none⟩,⟨w.heap.size,5,none⟩,⟨w.heap.size+1,0,none⟩,⟨w.heap.size+1,1,none⟩,⟨w.heap.size+1,2,none⟩,⟨w.heap.size+1,3,none⟩,⟨w.heap.size+1,4,none⟩,⟨w.heap.size+1,5,none⟩] ((w4.setCell ⟨w.heap.size,2,none⟩ (F1 m1)).setCell ⟨w.heap.size,3,none⟩ (F1 v1)):=by simp only[zc,ka,kb,zb,kfa,kga];simp[hK,go_sem,zf,zh,yk]
 have hkept:=ze (keep hN W5b) hset
 clear hK hset
 generalize ((w4.setCell ⟨w.heap.size,2,none⟩ (F1 m1)).setCell ⟨w.heap.size,3,none⟩ (F1 v1))=W5 at *
 have hK:=hkept;simp only[zc,ka,kb,zb,kfa,kga]at hK
 go_upto_region 5 with fail
 refine Qr.wp_below 11 (by kernel_rfl) (by kernel_rfl) PhiTs ?_
 repeat (refine Qr.walk_plain rfl fun K hK=>?_;(first|(refine zk _ _ _ _ _ rfl _ _ _ rfl rfl rfl (fun r hr=>?_))|(apply Qr.one_det;(focus (intro w' hw';have HK:=keep hkept hw';simp only[zc,ka,kb,zb,kfa,kga]at HK;go_simp;first|done|rfl)))|(apply Qr.one_call;(focus (intro w' hw';go_simp;first|done|exact⟨rfl,rfl⟩));(focus (intro w' hw';(first|(go_at_call 187;refine (yn _ _ _ _ _).mono ?_)|(go_at_call 188;refine (y5 _ _).mono ?_)|(go_at_call 193;refine (yp _ _ _ _).mono ?_)|(go_at_call 192;refine (xp _ _ _ _ _).mono ?_));rintro _ w2⟨l1,u1,rfl,hr1,hb1⟩;exact⟨_,rfl,by constructor<;>assumption,za hw' ‹_›,by assumption⟩));intro v hv;cases hv));go_simp;refine hK _ ?_;clear hK K)
 rename_i l2 u2 h2 m2 v2 g2
 refine Qr.walk_nil fun w6 hw6=>?_
 have hkept:=keep hkept hw6
 have W6b:=za W5b hw6
 clear hK
 have hK:=hkept
 simp only[zc,ka,kb,zb,kfa,kga]at hK
 go_upto_region 27 with fail
 have W7b:=(W6b.setCell (p:=⟨w.heap.size,4,none⟩) (Nat.le_refl _) (F1 m2)).setCell (p:=⟨w.heap.size,5,none⟩) (Nat.le_refl _) (F1 v2)
 have hset:zc [(⟨w.heap.size,0,none⟩,F1 m0),(⟨w.heap.size,1,none⟩,F1 v0),(⟨w.heap.size,2,none⟩,F1 m1),(⟨w.heap.size,3,none⟩,F1 v1),(⟨w.heap.size,4,none⟩,F1 m2),(⟨w.heap.size,5,none⟩,F1 v2),(⟨w.heap.size+1,0,none⟩,F1 0),(⟨w.heap.size+1,1,none⟩,F1 0),(⟨w.heap.size+1,2,none⟩,F1 0),(⟨w.heap.size+1,3,none⟩,F1 0),(⟨w.heap.size+1,4,none⟩,F1 0),(⟨w.heap.size+1,5,none⟩,F1 0)] [⟨w.heap.size,0,none⟩,⟨w.heap.size,1,none⟩,⟨w.heap.size,2,none⟩,⟨w.heap.size,3,none⟩,⟨w.heap.size,4,none⟩,⟨w.heap.size,5,none⟩,⟨w.heap.size+1,0,none⟩,⟨w.heap.size+1,1,none⟩,⟨w.heap.size+1,2,none⟩,⟨w.heap.size+1,3,none⟩,⟨w.heap.size+1,4,none⟩,⟨w.heap.size+1,5,none⟩] ((w6.setCell ⟨w.heap.size,4,none⟩ (F1 m2)).setCell ⟨w.heap.size,5,none⟩ (F1 v2)):=by simp only[zc,ka,kb,zb,kfa,kga];simp[hK,go_sem,zf,zh,yk]
 have hkept:=ze (keep hN W7b) hset
 clear hK hset
 generalize ((w6.setCell ⟨w.heap.size,4,none⟩ (F1 m2)).setCell ⟨w.heap.size,5,none⟩ (F1 v2))=W7 at *
 have hK:=hkept;simp only[zc,ka,kb,zb,kfa,kga]at hK
 go_wp2_with fail
 exact bodyPost_ret (v:=Rg3 m0 v0 m1 v1 m2 v2) (by simp[results,Tryz.results122,go_sem,hK,zf,zh];first|done|exact⟨rfl,rfl,rfl,rfl,rfl,rfl⟩) rfl ⟨_,_,_,_,_,_,rfl,by rw[g0,h0];rfl,by rw[g1,h1];rfl,by rw[g2,h2];rfl,xr W7b (by omega) ..⟩

set_option maxRecDepth 100000 in
theorem zoc {b o bv ov cap r0 r1 r2 x0 x1 y0 y1 z0 z1:Nat} {bp:Option Addr} {w:World} (hN:zc [(⟨b,o,none⟩,.int .i64 11),(⟨b,o+2,none⟩,.int .i64 0),(⟨b,o+3,none⟩,.slice (some ⟨bv,ov,none⟩) 3 cap),(⟨bv,ov,none⟩,F1 r0),(⟨bv,ov+1,none⟩,F1 r1),(⟨bv,ov+2,none⟩,F1 r2)] [] w) :
  Calls Tryz.prog 122 #[.pointer (some ⟨b,o,none⟩),Rg3 x0 x1 y0 y1 z0 z1] w (vn (uq (cn .f32 r0) (cn .f32 x0,cn .f32 x1),uq (cn .f32 r1) (cn .f32 y0,cn .f32 y1),uq (cn .f32 r2) (cn .f32 z0,cn .f32 z1)) w):=by
 have hK:=hN
 simp only[zc,ka,kb,zb,kfa,kga]at hK
 have hb:b<w.heap.size:=zg (a:=⟨b,o,none⟩) (by first|(rw[hK.1];rfl)|(rw[hK];rfl))
 go_enter Tryz.func122,Tryz.ntmps122
 go_upto_region 1 with fail
 clear hK
 generalize hW:(w.alloc (.cells #[F1 x0,F1 x1,F1 y0,F1 y1,F1 z0,F1 z1] 180)).alloc (.cells #[F1 0,F1 0,F1 0,F1 0,F1 0,F1 0] 180)=W1 at *
 have W1b:Below w.heap.size w W1:=by subst hW;exact xa ..
 have hkept:=yt true true hW;simp only[zr,zq,zo,zv,Nat.reduceAdd]at hkept;clear hW
 have hkept:=ze (keep hN W1b) hkept
 have hK:=hkept;simp only[zc,ka,kb,zb,kfa,kga]at hK
 have hb1:b<W1.heap.size:=Nat.lt_of_lt_of_le hb W1b.size
 go_upto_region 11 with fail
 refine Qr.wp_below 16 (by kernel_rfl) (by kernel_rfl) PhiTs ?_
 repeat (first|(refine Qr.walk_plain rfl fun K hK=>?_;refine zk _ _ _ _ _ rfl _ _ _ rfl rfl rfl (fun r hr=>?_);go_simp;refine hK _ ?_;clear hK K)|(refine Qr.walk_plain rfl fun K hK=>?_;apply Qr.one_det;(focus (intro w' hw';have HK:=keep hkept hw';simp only[zc,ka,kb,zb,kfa,kga]at HK;go_simp;first|done|rfl));go_simp;refine hK _ ?_;clear hK K))
 rename_i l0 h0
 revert r
 intro u0 g0
 refine Qr.walk_nil fun w3 hw3=>?_
 have hkept:=keep hkept hw3
 have W3b:=za W1b hw3
 clear hK
 have hK:=hkept
 simp only[zc,ka,kb,zb,kfa,kga]at hK
 go_upto_region 12 with fail
 have W4b:=(W3b.setCell (p:=⟨w.heap.size,0,none⟩) (Nat.le_refl _) (F1 l0)).setCell (p:=⟨w.heap.size,1,none⟩) (Nat.le_refl _) (F1 u0)
 have hset:zc [(⟨w.heap.size,0,none⟩,F1 l0),(⟨w.heap.size,1,none⟩,F1 u0),(⟨w.heap.size,2,none⟩,F1 y0),(⟨w.heap.size,3,none⟩,F1 y1),(⟨w.heap.size,4,none⟩,F1 z0),(⟨w.heap.size,5,none⟩,F1 z1),(⟨w.heap.size+1,0,none⟩,F1 0),(⟨w.heap.size+1,1,none⟩,F1 0),(⟨w.heap.size+1,2,none⟩,F1 0),(⟨w.heap.size+1,3,none⟩,F1 0),(⟨w.heap.size+1,4,none⟩,F1 0),(⟨w.heap.size+1,5,none⟩,F1 0)] [⟨w.heap.size,0,none⟩,⟨w.heap.size,1,none⟩,⟨w.heap.size,2,none⟩,⟨w.heap.size,3,none⟩,⟨w.heap.size,4,none⟩,⟨w.heap.size,5,none⟩,⟨w.heap.size+1,0,none⟩,⟨w.heap.size+1,1,none⟩,⟨w.heap.size+1,2,none⟩,⟨w.heap.size+1,3,none⟩,⟨w.heap.size+1,4,none⟩,⟨w.heap.size+1,5,none⟩] ((w3.setCell ⟨w.heap.size,0,none⟩ (F1 l0)).setCell ⟨w.heap.size,1,none⟩ (F1 u0)):=by simp only[zc,ka,kb,zb,kfa,kga];simp[hK,go_sem,zf,zh,yk]
 have hkept:=ze (keep hN W4b) hset
 clear hK hset
 generalize ((w3.setCell ⟨w.heap.size,0,none⟩ (F1 l0)).setCell ⟨w.heap.size,1,none⟩ (F1 u0))=W4 at *
 have hK:=hkept;simp only[zc,ka,kb,zb,kfa,kga]at hK
 go_upto_region 12 with fail
 refine Qr.wp_below 16 (by kernel_rfl) (by kernel_rfl) PhiTs ?_
 repeat (first|(refine Qr.walk_plain rfl fun K hK=>?_;refine zk _ _ _ _ _ rfl _ _ _ rfl rfl rfl (fun r hr=>?_);go_simp;refine hK _ ?_;clear hK K)|(refine Qr.walk_plain rfl fun K hK=>?_;apply Qr.one_det;(focus (intro w' hw';have HK:=keep hkept hw';simp only[zc,ka,kb,zb,kfa,kga]at HK;go_simp;first|done|rfl));go_simp;refine hK _ ?_;clear hK K))
 rename_i l1 h1
 revert r
 intro u1 g1
 refine Qr.walk_nil fun w5 hw5=>?_
 have hkept:=keep hkept hw5
 have W5b:=za W4b hw5
 clear hK
 have hK:=hkept
 simp only[zc,ka,kb,zb,kfa,kga]at hK
 go_upto_region 13 with fail
 have W6b:=(W5b.setCell (p:=⟨w.heap.size,2,none⟩) (Nat.le_refl _) (F1 l1)).setCell (p:=⟨w.heap.size,3,none⟩) (Nat.le_refl _) (F1 u1)
 have hset:zc [(⟨w.heap.size,0,none⟩,F1 l0),(⟨w.heap.size,1,none⟩,F1 u0),(⟨w.heap.size,2,none⟩,F1 l1),(⟨w.heap.size,3,none⟩,F1 u1),(⟨w.heap.size,4,none⟩,F1 z0),(⟨w.heap.size,5,none⟩,F1 z1),(⟨w.heap.size+1,0,none⟩,F1 0),(⟨w.heap.size+1,1,none⟩,F1 0),(⟨w.heap.size+1,2,none⟩,F1 0),(⟨w.heap.size+1,3,none⟩,F1 0),(⟨w.heap.size+1,4,none⟩,F1 0),(⟨w.heap.size+1,5,none⟩,F1 0)] [⟨w.heap.size,0,none⟩,⟨w.heap.size,1,none⟩,⟨w.heap.size,2,none⟩,⟨w.heap.size,3,none⟩,⟨w.heap.size,4,none⟩,⟨w.heap.size,5,none⟩,⟨w.heap.size+1,0,none⟩,⟨w.heap.size+1,1,none⟩,⟨w.heap.size+1,2,none⟩,⟨w.heap.size+1,3,none⟩,⟨w.heap.size+1,4,none⟩,⟨w.heap.size+1,5,none⟩] ((w5.setCell ⟨w.heap.size,2,none⟩ (F1 l1)).setCell ⟨w.heap.size,3,none⟩ (F1 u1)):=by simp only[zc,ka,kb,zb,kfa,kga];simp[hK,go_sem,zf,zh,yk]
 have hkept:=ze (keep hN W6b) hset
 clear hK hset
 generalize ((w5.setCell ⟨w.heap.size,2,none⟩ (F1 l1)).setCell ⟨w.heap.size,3,none⟩ (F1 u1))=W6 at *
 have hK:=hkept;simp only[zc,ka,kb,zb,kfa,kga]at hK
 go_upto_region 13 with fail
 refine Qr.wp_below 16 (by kernel_rfl) (by kernel_rfl) PhiTs ?_
 repeat (first|(refine Qr.walk_plain rfl fun K hK=>?_;refine zk _ _ _ _ _ rfl _ _ _ rfl rfl rfl (fun r hr=>?_);go_simp;refine hK _ ?_;clear hK K)|(refine Qr.walk_plain rfl fun K hK=>?_;apply Qr.one_det;(focus (intro w' hw';have HK:=keep hkept hw';simp only[zc,ka,kb,zb,kfa,kga]at HK;go_simp;first|done|rfl));go_simp;refine hK _ ?_;clear hK K))
 rename_i l2 h2
 revert r
 intro u2 g2
 refine Qr.walk_nil fun w7 hw7=>?_
 have hkept:=keep hkept hw7
 have W7b:=za W6b hw7
 clear hK
 have hK:=hkept
 simp only[zc,ka,kb,zb,kfa,kga]at hK
 go_upto_region 27 with fail
 have W8b:=(W7b.setCell (p:=⟨w.heap.size,4,none⟩) (Nat.le_refl _) (F1 l2)).setCell (p:=⟨w.heap.size,5,none⟩) (Nat.le_refl _) (F1 u2)
 have hset:zc [(⟨w.heap.size,0,none⟩,F1 l0),(⟨w.heap.size,1,none⟩,F1 u0),(⟨w.heap.size,2,none⟩,F1 l1),(⟨w.heap.size,3,none⟩,F1 u1),(⟨w.heap.size,4,none⟩,F1 l2),(⟨w.heap.size,5,none⟩,F1 u2),(⟨w.heap.size+1,0,none⟩,F1 0),(⟨w.heap.size+1,1,none⟩,F1 0),(⟨w.heap.size+1,2,none⟩,F1 0),(⟨w.heap.size+1,3,none⟩,F1 0),(⟨w.heap.size+1,4,none⟩,F1 0),(⟨w.heap.size+1,5,none⟩,F1 0)] [⟨w.heap.size,0,none⟩,⟨w.heap.size,1,none⟩,⟨w.heap.size,2,none⟩,⟨w.heap.size,3,none⟩,⟨w.heap.size,4,none⟩,⟨w.heap.size,5,none⟩,⟨w.heap.size+1,0,none⟩,⟨w.heap.size+1,1,none⟩,⟨w.heap.size+1,2,none⟩,⟨w.heap.size+1,3,none⟩,⟨w.heap.size+1,4,none⟩,⟨w.heap.size+1,5,none⟩] ((w7.setCell ⟨w.heap.size,4,none⟩ (F1 l2)).setCell ⟨w.heap.size,5,none⟩ (F1 u2)):=by simp only[zc,ka,kb,zb,kfa,kga];simp[hK,go_sem,zf,zh,yk]
 have hkept:=ze (keep hN W8b) hset
 clear hK hset
 generalize ((w7.setCell ⟨w.heap.size,4,none⟩ (F1 l2)).setCell ⟨w.heap.size,5,none⟩ (F1 u2))=W8 at *
 have hK:=hkept;simp only[zc,ka,kb,zb,kfa,kga]at hK
 go_wp2_with fail
 exact bodyPost_ret (v:=Rg3 l0 u0 l1 u1 l2 u2) (by simp[results,Tryz.results122,go_sem,hK,zf,zh];first|done|exact⟨rfl,rfl,rfl,rfl,rfl,rfl⟩) rfl ⟨_,_,_,_,_,_,rfl,pr h0 g0,pr h1 g1,pr h2 g2,xr W8b (by omega) ..⟩

set_option maxRecDepth 100000 in
theorem zon {b o bv ov cap r0 x0 x1 y0 y1 z0 z1:Nat} {bp:Option Addr} {w:World} (hN:zc [(⟨b,o,none⟩,.int .i64 10),(⟨b,o+2,none⟩,.int .i64 0),(⟨b,o+3,none⟩,.slice (some ⟨bv,ov,none⟩) 1 cap),(⟨bv,ov,none⟩,F1 r0)] [] w) :
  Calls Tryz.prog 122 #[.pointer (some ⟨b,o,none⟩),Rg3 x0 x1 y0 y1 z0 z1] w (vn (uq (cn .f32 r0) (cn .f32 x0,cn .f32 x1),uq (cn .f32 r0) (cn .f32 y0,cn .f32 y1),uq (cn .f32 r0) (cn .f32 z0,cn .f32 z1)) w):=by
 have hK:=hN
 simp only[zc,ka,kb,zb,kfa,kga]at hK
 have hb:b<w.heap.size:=zg (a:=⟨b,o,none⟩) (by first|(rw[hK.1];rfl)|(rw[hK];rfl))
 go_enter Tryz.func122,Tryz.ntmps122
 go_upto_region 1 with fail
 clear hK
 generalize hW:(w.alloc (.cells #[F1 x0,F1 x1,F1 y0,F1 y1,F1 z0,F1 z1] 180)).alloc (.cells #[F1 0,F1 0,F1 0,F1 0,F1 0,F1 0] 180)=W1 at *
 have W1b:Below w.heap.size w W1:=by subst hW;exact xa ..
 have hkept:=yt true true hW;simp only[zr,zq,zo,zv,Nat.reduceAdd]at hkept;clear hW
 have hkept:=ze (keep hN W1b) hkept
 have hK:=hkept;simp only[zc,ka,kb,zb,kfa,kga]at hK
 have hb1:b<W1.heap.size:=Nat.lt_of_lt_of_le hb W1b.size
 have hsz0:w.heap.size<W1.heap.size:=by
  have hK1:=hkept
  simp only[zc,ka,kb,zb,kfa,kga]at hK1
  exact zg (a:=⟨w.heap.size,0,none⟩) (by simp[hK1])
 go_upto_region 10 with fail
 refine Qg.wp_gd 10 (by kernel_rfl) (by kernel_rfl) PhiNone (Sl1 W1 72 #[F1 r0,F1 r0,F1 r0] 25 3) [] (zr3 ..) (zrj rfl) ?_
 intro hC0
 repeat (first|(refine Qg.walk_step fun K hK=>?_;apply Qg.one_det hC0 (by intro d _ hd;cases hd) rfl;(focus (intro w' hw';have HK:=keep hkept hw';simp only[zc,ka,kb,zb,kfa,kga]at HK;go_simp;first|done|rfl));(focus (intro w' hw' hs;exact zxp (by decide)));go_simp;refine hK _ ?_;clear hK K)|(refine Qg.walk_step fun K hK=>?_;refine zog (fun g=>.slice (some ⟨g,0,none⟩) 3 3) (.cells #[F1 r0,F1 r0,F1 r0] 25) hC0 (by intro d _ hd;cases hd) rfl ?_ ?_ ?_ ?_;(focus (intro w' hw';go_simp;first|done|rfl));(focus (intro w' hw';exact hw'.alloc hw'.size _));(focus (intro w' hw';exact zwn hw'));intro g;go_simp;refine hK _ ?_;clear hK K))
 refine Qg.walk_nil fun w2 hw2 hE=>?_
 rcases hE.1 72 rfl with h|⟨g',h,hg,hgc⟩
 ·cases h
 injection h with h
 injection h with h
 injection h with h
 subst h
 clear hE hC0
 have hkept:=ze (keep hkept hw2) (zx5 hgc)
 have W2b:=za W1b hw2
 clear hK hgc
 have hK:=hkept;simp only[zc,ka,kb,zb,kfa,kga]at hK
 have hlt0:w.heap.size<W1.heap.size:=hsz0
 have hgn:g ≠ w.heap.size:=by omega
 have hgn':w.heap.size ≠ g:=by omega
 go_upto_region 11 with fail
 refine Qr.wp_below 16 (by kernel_rfl) (by kernel_rfl) PhiTs ?_
 repeat (first|(refine Qr.walk_plain rfl fun K hK=>?_;refine zk _ _ _ _ _ rfl _ _ _ rfl rfl rfl (fun r hr=>?_);go_simp;refine hK _ ?_;clear hK K)|(refine Qr.walk_plain rfl fun K hK=>?_;apply Qr.one_det;(focus (intro w' hw';have HK:=keep hkept hw';simp only[zc,ka,kb,zb,kfa,kga]at HK;go_simp;first|done|rfl));go_simp;refine hK _ ?_;clear hK K))
 rename_i l0 h0
 revert r
 intro u0 g0
 refine Qr.walk_nil fun w3 hw3=>?_
 have hkept:=keep hkept hw3
 have W3b:=za W2b hw3
 clear hK
 have hK:=hkept
 simp only[zc,ka,kb,zb,kfa,kga]at hK
 go_upto_region 12 with fail
 have W4b:=(W3b.setCell (p:=⟨w.heap.size,0,none⟩) (Nat.le_refl _) (F1 l0)).setCell (p:=⟨w.heap.size,1,none⟩) (Nat.le_refl _) (F1 u0)
 have hset:zc [(⟨w.heap.size,0,none⟩,F1 l0),(⟨w.heap.size,1,none⟩,F1 u0),(⟨w.heap.size,2,none⟩,F1 y0),(⟨w.heap.size,3,none⟩,F1 y1),(⟨w.heap.size,4,none⟩,F1 z0),(⟨w.heap.size,5,none⟩,F1 z1),(⟨w.heap.size+1,0,none⟩,F1 0),(⟨w.heap.size+1,1,none⟩,F1 0),(⟨w.heap.size+1,2,none⟩,F1 0),(⟨w.heap.size+1,3,none⟩,F1 0),(⟨w.heap.size+1,4,none⟩,F1 0),(⟨w.heap.size+1,5,none⟩,F1 0),(⟨g,0,none⟩,F1 r0),(⟨g,1,none⟩,F1 r0),(⟨g,2,none⟩,F1 r0)] [⟨w.heap.size,0,none⟩,⟨w.heap.size,1,none⟩,⟨w.heap.size,2,none⟩,⟨w.heap.size,3,none⟩,⟨w.heap.size,4,none⟩,⟨w.heap.size,5,none⟩,⟨w.heap.size+1,0,none⟩,⟨w.heap.size+1,1,none⟩,⟨w.heap.size+1,2,none⟩,⟨w.heap.size+1,3,none⟩,⟨w.heap.size+1,4,none⟩,⟨w.heap.size+1,5,none⟩] ((w3.setCell ⟨w.heap.size,0,none⟩ (F1 l0)).setCell ⟨w.heap.size,1,none⟩ (F1 u0)):=by simp only[zc,ka,kb,zb,kfa,kga];simp[hK,hgn,hgn',go_sem,zf,zh,yk]
 have hkept:=ze (keep hN W4b) hset
 clear hK hset
 generalize ((w3.setCell ⟨w.heap.size,0,none⟩ (F1 l0)).setCell ⟨w.heap.size,1,none⟩ (F1 u0))=W4 at *
 have hK:=hkept;simp only[zc,ka,kb,zb,kfa,kga]at hK
 go_upto_region 12 with fail
 refine Qr.wp_below 16 (by kernel_rfl) (by kernel_rfl) PhiTs ?_
 repeat (first|(refine Qr.walk_plain rfl fun K hK=>?_;refine zk _ _ _ _ _ rfl _ _ _ rfl rfl rfl (fun r hr=>?_);go_simp;refine hK _ ?_;clear hK K)|(refine Qr.walk_plain rfl fun K hK=>?_;apply Qr.one_det;(focus (intro w' hw';have HK:=keep hkept hw';simp only[zc,ka,kb,zb,kfa,kga]at HK;go_simp;first|done|rfl));go_simp;refine hK _ ?_;clear hK K))
 rename_i l1 h1
 revert r
 intro u1 g1
 refine Qr.walk_nil fun w5 hw5=>?_
 have hkept:=keep hkept hw5
 have W5b:=za W4b hw5
 clear hK
 have hK:=hkept
 simp only[zc,ka,kb,zb,kfa,kga]at hK
 go_upto_region 13 with fail
 have W6b:=(W5b.setCell (p:=⟨w.heap.size,2,none⟩) (Nat.le_refl _) (F1 l1)).setCell (p:=⟨w.heap.size,3,none⟩) (Nat.le_refl _) (F1 u1)
 have hset:zc [(⟨w.heap.size,0,none⟩,F1 l0),(⟨w.heap.size,1,none⟩,F1 u0),(⟨w.heap.size,2,none⟩,F1 l1),(⟨w.heap.size,3,none⟩,F1 u1),(⟨w.heap.size,4,none⟩,F1 z0),(⟨w.heap.size,5,none⟩,F1 z1),(⟨w.heap.size+1,0,none⟩,F1 0),(⟨w.heap.size+1,1,none⟩,F1 0),(⟨w.heap.size+1,2,none⟩,F1 0),(⟨w.heap.size+1,3,none⟩,F1 0),(⟨w.heap.size+1,4,none⟩,F1 0),(⟨w.heap.size+1,5,none⟩,F1 0),(⟨g,0,none⟩,F1 r0),(⟨g,1,none⟩,F1 r0),(⟨g,2,none⟩,F1 r0)] [⟨w.heap.size,0,none⟩,⟨w.heap.size,1,none⟩,⟨w.heap.size,2,none⟩,⟨w.heap.size,3,none⟩,⟨w.heap.size,4,none⟩,⟨w.heap.size,5,none⟩,⟨w.heap.size+1,0,none⟩,⟨w.heap.size+1,1,none⟩,⟨w.heap.size+1,2,none⟩,⟨w.heap.size+1,3,none⟩,⟨w.heap.size+1,4,none⟩,⟨w.heap.size+1,5,none⟩] ((w5.setCell ⟨w.heap.size,2,none⟩ (F1 l1)).setCell ⟨w.heap.size,3,none⟩ (F1 u1)):=by simp only[zc,ka,kb,zb,kfa,kga];simp[hK,hgn,hgn',go_sem,zf,zh,yk]
 have hkept:=ze (keep hN W6b) hset
 clear hK hset
 generalize ((w5.setCell ⟨w.heap.size,2,none⟩ (F1 l1)).setCell ⟨w.heap.size,3,none⟩ (F1 u1))=W6 at *
 have hK:=hkept;simp only[zc,ka,kb,zb,kfa,kga]at hK
 go_upto_region 13 with fail
 refine Qr.wp_below 16 (by kernel_rfl) (by kernel_rfl) PhiTs ?_
 repeat (first|(refine Qr.walk_plain rfl fun K hK=>?_;refine zk _ _ _ _ _ rfl _ _ _ rfl rfl rfl (fun r hr=>?_);go_simp;refine hK _ ?_;clear hK K)|(refine Qr.walk_plain rfl fun K hK=>?_;apply Qr.one_det;(focus (intro w' hw';have HK:=keep hkept hw';simp only[zc,ka,kb,zb,kfa,kga]at HK;go_simp;first|done|rfl));go_simp;refine hK _ ?_;clear hK K))
 rename_i l2 h2
 revert r
 intro u2 g2
 refine Qr.walk_nil fun w7 hw7=>?_
 have hkept:=keep hkept hw7
 have W7b:=za W6b hw7
 clear hK
 have hK:=hkept
 simp only[zc,ka,kb,zb,kfa,kga]at hK
 go_upto_region 27 with fail
 have W8b:=(W7b.setCell (p:=⟨w.heap.size,4,none⟩) (Nat.le_refl _) (F1 l2)).setCell (p:=⟨w.heap.size,5,none⟩) (Nat.le_refl _) (F1 u2)
 have hset:zc [(⟨w.heap.size,0,none⟩,F1 l0),(⟨w.heap.size,1,none⟩,F1 u0),(⟨w.heap.size,2,none⟩,F1 l1),(⟨w.heap.size,3,none⟩,F1 u1),(⟨w.heap.size,4,none⟩,F1 l2),(⟨w.heap.size,5,none⟩,F1 u2),(⟨w.heap.size+1,0,none⟩,F1 0),(⟨w.heap.size+1,1,none⟩,F1 0),(⟨w.heap.size+1,2,none⟩,F1 0),(⟨w.heap.size+1,3,none⟩,F1 0),(⟨w.heap.size+1,4,none⟩,F1 0),(⟨w.heap.size+1,5,none⟩,F1 0),(⟨g,0,none⟩,F1 r0),(⟨g,1,none⟩,F1 r0),(⟨g,2,none⟩,F1 r0)] [⟨w.heap.size,0,none⟩,⟨w.heap.size,1,none⟩,⟨w.heap.size,2,none⟩,⟨w.heap.size,3,none⟩,⟨w.heap.size,4,none⟩,⟨w.heap.size,5,none⟩,⟨w.heap.size+1,0,none⟩,⟨w.heap.size+1,1,none⟩,⟨w.heap.size+1,2,none⟩,⟨w.heap.size+1,3,none⟩,⟨w.heap.size+1,4,none⟩,⟨w.heap.size+1,5,none⟩] ((w7.setCell ⟨w.heap.size,4,none⟩ (F1 l2)).setCell ⟨w.heap.size,5,none⟩ (F1 u2)):=by simp only[zc,ka,kb,zb,kfa,kga];simp[hK,hgn,hgn',go_sem,zf,zh,yk]
 have hkept:=ze (keep hN W8b) hset
 clear hK hset
 generalize ((w7.setCell ⟨w.heap.size,4,none⟩ (F1 l2)).setCell ⟨w.heap.size,5,none⟩ (F1 u2))=W8 at *
 have hK:=hkept;simp only[zc,ka,kb,zb,kfa,kga]at hK
 go_wp2_with fail
 exact bodyPost_ret (v:=Rg3 l0 u0 l1 u1 l2 u2) (by simp[results,Tryz.results122,go_sem,hK,zf,zh];first|done|exact⟨rfl,rfl,rfl,rfl,rfl,rfl⟩) rfl ⟨_,_,_,_,_,_,rfl,pr h0 g0,pr h1 g1,pr h2 g2,xr W8b (by omega) ..⟩

set_option maxRecDepth 100000 in
theorem zl3 {b o x0 x1 y0 y1 z0 z1:Nat} {bp:Option Addr} {w:World} (hN:zc [(⟨b,o,none⟩,.int .i64 5)] [] w) :
  Calls Tryz.prog 122 #[.pointer (some ⟨b,o,none⟩),Rg3 x0 x1 y0 y1 z0 z1] w (vn ((cn .f32 x0,cn .f32 x1),(cn .f32 y0,cn .f32 y1),(cn .f32 z0,cn .f32 z1)) w):=by
 have hK:=hN
 simp only[zc,ka,kb,zb,kfa,kga]at hK
 have hb:b<w.heap.size:=zg (a:=⟨b,o,none⟩) (by first|(rw[hK.1];rfl)|(rw[hK];rfl))
 go_enter Tryz.func122,Tryz.ntmps122
 go_upto_region 1 with fail
 clear hK
 generalize hW:(w.alloc (.cells #[F1 x0,F1 x1,F1 y0,F1 y1,F1 z0,F1 z1] 180)).alloc (.cells #[F1 0,F1 0,F1 0,F1 0,F1 0,F1 0] 180)=W1 at *
 have W1b:Below w.heap.size w W1:=by subst hW;exact xa ..
 have hkept:=yt true true hW;simp only[zr,zq,zo,zv,Nat.reduceAdd]at hkept;clear hW
 have hkept:=ze (keep hN W1b) hkept
 have hK:=hkept;simp only[zc,ka,kb,zb,kfa,kga]at hK
 have hb1:b<W1.heap.size:=Nat.lt_of_lt_of_le hb W1b.size
 go_wp2_with fail
 exact bodyPost_ret (v:=Rg3 x0 x1 y0 y1 z0 z1) (by simp[results,Tryz.results122,go_sem,hK,zf,zh];first|done|exact⟨rfl,rfl,rfl,rfl,rfl,rfl⟩) rfl ⟨_,_,_,_,_,_,rfl,rfl,rfl,rfl,xr W1b (by omega) ..⟩

set_option maxRecDepth 100000 in
theorem zm2 {b o x0 x1 y0 y1 z0 z1:Nat} {bp:Option Addr} {w:World} (hN:zc [(⟨b,o,none⟩,.int .i64 6)] [] w) :
  Calls Tryz.prog 122 #[.pointer (some ⟨b,o,none⟩),Rg3 x0 x1 y0 y1 z0 z1] w (vn ((cn .f32 x0,cn .f32 x1),(cn .f32 y0,cn .f32 y1),(cn .f32 z0,cn .f32 z1)) w):=by
 have hK:=hN
 simp only[zc,ka,kb,zb,kfa,kga]at hK
 have hb:b<w.heap.size:=zg (a:=⟨b,o,none⟩) (by first|(rw[hK.1];rfl)|(rw[hK];rfl))
 go_enter Tryz.func122,Tryz.ntmps122
 go_upto_region 1 with fail
 clear hK
 generalize hW:(w.alloc (.cells #[F1 x0,F1 x1,F1 y0,F1 y1,F1 z0,F1 z1] 180)).alloc (.cells #[F1 0,F1 0,F1 0,F1 0,F1 0,F1 0] 180)=W1 at *
 have W1b:Below w.heap.size w W1:=by subst hW;exact xa ..
 have hkept:=yt true true hW;simp only[zr,zq,zo,zv,Nat.reduceAdd]at hkept;clear hW
 have hkept:=ze (keep hN W1b) hkept
 have hK:=hkept;simp only[zc,ka,kb,zb,kfa,kga]at hK
 have hb1:b<W1.heap.size:=Nat.lt_of_lt_of_le hb W1b.size
 go_wp2_with fail
 exact bodyPost_ret (v:=Rg3 x0 x1 y0 y1 z0 z1) (by simp[results,Tryz.results122,go_sem,hK,zf,zh];first|done|exact⟨rfl,rfl,rfl,rfl,rfl,rfl⟩) rfl ⟨_,_,_,_,_,_,rfl,rfl,rfl,rfl,xr W1b (by omega) ..⟩

set_option maxRecDepth 100000 in
theorem zk6 {b o x0 x1 y0 y1 z0 z1:Nat} {bp:Option Addr} {w:World} (hN:zc [(⟨b,o,none⟩,.int .i64 7)] [] w) :
  Calls Tryz.prog 122 #[.pointer (some ⟨b,o,none⟩),Rg3 x0 x1 y0 y1 z0 z1] w (vn ((cn .f32 x0,cn .f32 x1),(cn .f32 y0,cn .f32 y1),(cn .f32 z0,cn .f32 z1)) w):=by
 have hK:=hN
 simp only[zc,ka,kb,zb,kfa,kga]at hK
 have hb:b<w.heap.size:=zg (a:=⟨b,o,none⟩) (by first|(rw[hK.1];rfl)|(rw[hK];rfl))
 go_enter Tryz.func122,Tryz.ntmps122
 go_upto_region 1 with fail
 clear hK
 generalize hW:(w.alloc (.cells #[F1 x0,F1 x1,F1 y0,F1 y1,F1 z0,F1 z1] 180)).alloc (.cells #[F1 0,F1 0,F1 0,F1 0,F1 0,F1 0] 180)=W1 at *
 have W1b:Below w.heap.size w W1:=by subst hW;exact xa ..
 have hkept:=yt true true hW;simp only[zr,zq,zo,zv,Nat.reduceAdd]at hkept;clear hW
 have hkept:=ze (keep hN W1b) hkept
 have hK:=hkept;simp only[zc,ka,kb,zb,kfa,kga]at hK
 have hb1:b<W1.heap.size:=Nat.lt_of_lt_of_le hb W1b.size
 go_wp2_with fail
 exact bodyPost_ret (v:=Rg3 x0 x1 y0 y1 z0 z1) (by simp[results,Tryz.results122,go_sem,hK,zf,zh];first|done|exact⟨rfl,rfl,rfl,rfl,rfl,rfl⟩) rfl ⟨_,_,_,_,_,_,rfl,rfl,rfl,rfl,xr W1b (by omega) ..⟩

set_option maxRecDepth 100000 in
theorem zlc {b o x0 x1 y0 y1 z0 z1:Nat} {bp:Option Addr} {w:World} (hN:zc [(⟨b,o,none⟩,.int .i64 8)] [] w) :
  Calls Tryz.prog 122 #[.pointer (some ⟨b,o,none⟩),Rg3 x0 x1 y0 y1 z0 z1] w (vn ((cn .f32 x0,cn .f32 x1),(cn .f32 y0,cn .f32 y1),(cn .f32 z0,cn .f32 z1)) w):=by
 have hK:=hN
 simp only[zc,ka,kb,zb,kfa,kga]at hK
 have hb:b<w.heap.size:=zg (a:=⟨b,o,none⟩) (by first|(rw[hK.1];rfl)|(rw[hK];rfl))
 go_enter Tryz.func122,Tryz.ntmps122
 go_upto_region 1 with fail
 clear hK
 generalize hW:(w.alloc (.cells #[F1 x0,F1 x1,F1 y0,F1 y1,F1 z0,F1 z1] 180)).alloc (.cells #[F1 0,F1 0,F1 0,F1 0,F1 0,F1 0] 180)=W1 at *
 have W1b:Below w.heap.size w W1:=by subst hW;exact xa ..
 have hkept:=yt true true hW;simp only[zr,zq,zo,zv,Nat.reduceAdd]at hkept;clear hW
 have hkept:=ze (keep hN W1b) hkept
 have hK:=hkept;simp only[zc,ka,kb,zb,kfa,kga]at hK
 have hb1:b<W1.heap.size:=Nat.lt_of_lt_of_le hb W1b.size
 go_wp2_with fail
 exact bodyPost_ret (v:=Rg3 x0 x1 y0 y1 z0 z1) (by simp[results,Tryz.results122,go_sem,hK,zf,zh];first|done|exact⟨rfl,rfl,rfl,rfl,rfl,rfl⟩) rfl ⟨_,_,_,_,_,_,rfl,rfl,rfl,rfl,xr W1b (by omega) ..⟩

set_option maxRecDepth 100000 in
theorem zj5 {b o x0 x1 y0 y1 z0 z1:Nat} {bp:Option Addr} {w:World} (hN:zc [(⟨b,o,none⟩,.int .i64 15)] [] w) :
  Calls Tryz.prog 122 #[.pointer (some ⟨b,o,none⟩),Rg3 x0 x1 y0 y1 z0 z1] w (vn ((cn .f32 x0,cn .f32 x1),(cn .f32 y0,cn .f32 y1),(cn .f32 z0,cn .f32 z1)) w):=by
 have hK:=hN
 simp only[zc,ka,kb,zb,kfa,kga]at hK
 have hb:b<w.heap.size:=zg (a:=⟨b,o,none⟩) (by first|(rw[hK.1];rfl)|(rw[hK];rfl))
 go_enter Tryz.func122,Tryz.ntmps122
 go_upto_region 1 with fail
 clear hK
 generalize hW:(w.alloc (.cells #[F1 x0,F1 x1,F1 y0,F1 y1,F1 z0,F1 z1] 180)).alloc (.cells #[F1 0,F1 0,F1 0,F1 0,F1 0,F1 0] 180)=W1 at *
 have W1b:Below w.heap.size w W1:=by subst hW;exact xa ..
 have hkept:=yt true true hW;simp only[zr,zq,zo,zv,Nat.reduceAdd]at hkept;clear hW
 have hkept:=ze (keep hN W1b) hkept
 have hK:=hkept;simp only[zc,ka,kb,zb,kfa,kga]at hK
 have hb1:b<W1.heap.size:=Nat.lt_of_lt_of_le hb W1b.size
 go_wp2_with fail
 exact bodyPost_ret (v:=Rg3 x0 x1 y0 y1 z0 z1) (by simp[results,Tryz.results122,go_sem,hK,zf,zh];first|done|exact⟨rfl,rfl,rfl,rfl,rfl,rfl⟩) rfl ⟨_,_,_,_,_,_,rfl,rfl,rfl,rfl,xr W1b (by omega) ..⟩

set_option maxRecDepth 100000 in
theorem zjr {b o x0 x1 y0 y1 z0 z1:Nat} {bp:Option Addr} {w:World} (hN:zc [(⟨b,o,none⟩,.int .i64 16)] [] w) :
  Calls Tryz.prog 122 #[.pointer (some ⟨b,o,none⟩),Rg3 x0 x1 y0 y1 z0 z1] w (vn ((cn .f32 x0,cn .f32 x1),(cn .f32 y0,cn .f32 y1),(cn .f32 z0,cn .f32 z1)) w):=by
 have hK:=hN
 simp only[zc,ka,kb,zb,kfa,kga]at hK
 have hb:b<w.heap.size:=zg (a:=⟨b,o,none⟩) (by first|(rw[hK.1];rfl)|(rw[hK];rfl))
 go_enter Tryz.func122,Tryz.ntmps122
 go_upto_region 1 with fail
 clear hK
 generalize hW:(w.alloc (.cells #[F1 x0,F1 x1,F1 y0,F1 y1,F1 z0,F1 z1] 180)).alloc (.cells #[F1 0,F1 0,F1 0,F1 0,F1 0,F1 0] 180)=W1 at *
 have W1b:Below w.heap.size w W1:=by subst hW;exact xa ..
 have hkept:=yt true true hW;simp only[zr,zq,zo,zv,Nat.reduceAdd]at hkept;clear hW
 have hkept:=ze (keep hN W1b) hkept
 have hK:=hkept;simp only[zc,ka,kb,zb,kfa,kga]at hK
 have hb1:b<W1.heap.size:=Nat.lt_of_lt_of_le hb W1b.size
 go_wp2_with fail
 exact bodyPost_ret (v:=Rg3 x0 x1 y0 y1 z0 z1) (by simp[results,Tryz.results122,go_sem,hK,zf,zh];first|done|exact⟨rfl,rfl,rfl,rfl,rfl,rfl⟩) rfl ⟨_,_,_,_,_,_,rfl,rfl,rfl,rfl,xr W1b (by omega) ..⟩

end Go.Proofs.YtbiacfkiakddiaaGreat
