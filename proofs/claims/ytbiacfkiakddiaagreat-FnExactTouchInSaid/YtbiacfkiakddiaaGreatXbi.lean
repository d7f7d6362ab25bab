/-
 Lemmas: V13,Z2,Z3.
-/
import Derived.Test.YtbiacfkiakddiaaGreatXbg
set_option linter.unusedVariables false
set_option linter.unusedSimpArgs false
set_option maxHeartbeats 2000000
namespace Go.Proofs.YtbiacfkiakddiaaGreat
open Go.RowKit Go.Fl
inductive PhiTs:FuncId→Array Value→Value→Prop
 | long (a b c d e f l h:Nat) (q:(cn .f32 l,cn .f32 h)=zal (cn .f32 a,cn .f32 b) (cn .f32 c,cn .f32 d) (cn .f32 e,cn .f32 f)):PhiTs 199 #[RgV a b,RgV c d,RgV e f] (RgV l h)
 | less (a b c d l h:Nat) (e:(cn .f32 l,cn .f32 h)=jm (cn .f32 a,cn .f32 b) (cn .f32 c,cn .f32 d)):PhiTs 187 #[RgV a b,RgV c d] (RgV l h)
 | one (a l h:Nat) (e:(cn .f32 l,cn .f32 h)=(cn .f32 a,cn .f32 a)):PhiTs 188 #[F1 a] (RgV l h)
 | times (a b v l h:Nat) (e:(cn .f32 l,cn .f32 h)=xw (cn .f32 a,cn .f32 b) (cn .f32 v)):PhiTs 193 #[RgV a b,F1 v] (RgV l h)
 | add (a b c d l h:Nat) (e:(cn .f32 l,cn .f32 h)=zbn (cn .f32 a,cn .f32 b) (cn .f32 c,cn .f32 d)):PhiTs 192 #[RgV a b,RgV c d] (RgV l h)
 | lesser (a b r:Nat) (h:cn .f32 r=yo (cn .f32 a) (cn .f32 b)):PhiTs 197 #[F1 a,F1 b] (F1 r)
 | greater (a b r:Nat) (h:cn .f32 r=z7 (cn .f32 a) (cn .f32 b)):PhiTs 198 #[F1 a,F1 b] (F1 r)


set_option maxRecDepth 100000 in
theorem zhz {b o bv ov cap r0 r1 r2 r3 c p x0 x1 y0 y1 z0 z1:Nat} {w:World} (hN:zc [(⟨b,o,none⟩,.int .i64 4),(⟨b,o+3,none⟩,.slice (some ⟨bv,ov,none⟩) 4 cap),(⟨bv,ov,none⟩,F1 r0),(⟨bv,ov+1,none⟩,F1 r1),(⟨bv,ov+2,none⟩,F1 r2),(⟨bv,ov+3,none⟩,F1 r3),(⟨c,p,none⟩,F1 x0),(⟨c,p+1,none⟩,F1 x1),(⟨c,p+2,none⟩,F1 y0),(⟨c,p+3,none⟩,F1 y1),(⟨c,p+4,none⟩,F1 z0),(⟨c,p+5,none⟩,F1 z1)] [] w) :
  Calls Tryz.prog 123 #[.pointer (some ⟨b,o,none⟩),.pointer (some ⟨c,p,none⟩)] w (x6 (uf (zbn (zbn (xw (cn .f32 x0,cn .f32 x1) (cn .f32 r0)) (xw (cn .f32 y0,cn .f32 y1) (cn .f32 r1))) (xw (cn .f32 z0,cn .f32 z1) (cn .f32 r2))) (cn .f32 r3)) w):=by
 have hK:=hN
 simp only[zc,ka,kb,zb,kfa,kga]at hK
 have hb:b<w.heap.size:=zg (a:=⟨b,o,none⟩) (by rw[hK.1];rfl)
 go_enter Tryz.func123,Tryz.ntmps123
 go_upto_region 1 with fail
 clear hK
 generalize hW:w.alloc (.cells #[F1 0,F1 0] 118)=W1 at *
 have W1b:Below w.heap.size w W1:=by subst hW;exact zt ..
 have hkept:=jg true hW;simp only[zr,zq,zo,zv,Nat.reduceAdd]at hkept;clear hW
 have hkept:=ze (keep hN W1b) hkept
 clear hN
 have hK:=hkept;simp only[zc,ka,kb,zb,kfa,kga]at hK
 have hb1:b<W1.heap.size:=Nat.lt_of_lt_of_le hb W1b.size
 go_upto_region 16 with fail
 refine Qr.wp_made 24 23 12 #[F1 0,F1 0] 118 (by kernel_rfl) (by kernel_rfl) PhiTs rfl (by kernel_rfl) ⟨_,rfl,rfl,fun a w=>by go_simp⟩ (by kernel_rfl) ?_
 repeat (first|(refine Qr.walk_plain rfl fun K hK=>?_;refine Qr.one_rel (fun v=>∃ g,v=.pointer (some ⟨g,0,none⟩)) (fun w' hw'=>⟨.pointer (some ⟨w'.heap.size,0,none⟩),_,by go_simp;rfl,⟨_,rfl⟩,hw'.alloc hw'.size _,zt ..⟩) (fun v hv=>?_);obtain⟨g,rfl⟩:=hv;go_simp;refine hK _ ?_;clear hK K)|(refine Qr.walk_plain rfl fun K hK=>?_;(first|(refine zk _ _ _ _ _ rfl _ _ _ rfl rfl rfl (fun r hr=>?_))|(apply Qr.one_det;(focus (intro w' hw';have HK:=keep hkept hw';simp only[zc,ka,kb,zb,kfa,kga]at HK;go_simp;first|done|rfl)))|(apply Qr.one_call;(focus (intro w' hw';go_simp;first|done|exact⟨rfl,rfl⟩));(focus (intro w' hw';first|((first|(go_at_call 199;refine (ql _ _ _ _ _ _ _).mono ?_)|(go_at_call 187;refine (yn _ _ _ _ _).mono ?_)|(go_at_call 188;refine (y5 _ _).mono ?_)|(go_at_call 193;refine (yp _ _ _ _).mono ?_)|(go_at_call 192;refine (xp _ _ _ _ _).mono ?_));rintro _ w2⟨l1,u1,rfl,hr1,hb1⟩;exact⟨_,rfl,by constructor<;>assumption,za hw' ‹_›,by assumption⟩)|((first|(go_at_call 197;refine (zu _ _ _).mono ?_)|(go_at_call 198;refine (zp _ _ _).mono ?_));rintro _ w2⟨r1,rfl,hr1,hb1⟩;exact⟨_,rfl,by constructor<;>assumption,za hw' ‹_›,by assumption⟩)));intro v hv;cases hv));go_simp;refine hK _ ?_;clear hK K))
 rename_i l1 u1 h1 l2 u2 h2 l3 u3 h3
 refine Qr.walk_nil fun w3 hw3 hmade=>?_
 obtain⟨g3,hg3,hgw,hgc⟩:=hmade _ rfl
 injection hg3 with hg3
 injection hg3 with hg3
 subst hg3
 obtain⟨hc0,hc1,hf0,hf1⟩:=xc hgc
 have hset:=zay hgc (F1 l3) (F1 u3)
 have hbw:=hw3.trans (hset.2.mono hgw)
 go_upto_region 17 with fail
 clear hc0 hc1 hf0 hf1 hgc hw3
 generalize (w3.setCell ⟨g,0,none⟩ (F1 l3)).setCell ⟨g,1,none⟩ (F1 u3)=w4 at hset hbw ⊢
 have hkept:=ze (keep hkept hbw) (zdh hset.1)
 have w4b:=za W1b hbw
 clear hset hbw hK
 have hK:=hkept;simp only[zc,ka,kb,zb,kfa,kga]at hK
 refine Qr.wp_below 21 (by kernel_rfl) (by kernel_rfl) PhiTs ?_
 repeat (refine Qr.walk_plain rfl fun K hK=>?_;(first|(refine zk _ _ _ _ _ rfl _ _ _ rfl rfl rfl (fun r hr=>?_))|(apply Qr.one_det;(focus (intro w' hw';have HK:=keep hkept hw';simp only[zc,ka,kb,zb,kfa,kga]at HK;go_simp;first|done|rfl)))|(apply Qr.one_call;(focus (intro w' hw';go_simp;first|done|exact⟨rfl,rfl⟩));(focus (intro w' hw';first|((first|(go_at_call 199;refine (ql _ _ _ _ _ _ _).mono ?_)|(go_at_call 187;refine (yn _ _ _ _ _).mono ?_)|(go_at_call 188;refine (y5 _ _).mono ?_)|(go_at_call 193;refine (yp _ _ _ _).mono ?_)|(go_at_call 192;refine (xp _ _ _ _ _).mono ?_));rintro _ w2⟨l1,u1,rfl,hr1,hb1⟩;exact⟨_,rfl,by constructor<;>assumption,za hw' ‹_›,by assumption⟩)|((first|(go_at_call 197;refine (zu _ _ _).mono ?_)|(go_at_call 198;refine (zp _ _ _).mono ?_));rintro _ w2⟨r1,rfl,hr1,hb1⟩;exact⟨_,rfl,by constructor<;>assumption,za hw' ‹_›,by assumption⟩)));intro v hv;cases hv));go_simp;refine hK _ ?_;clear hK K)
 rename_i l4 u4 h4 l5 u5 h5 l6 u6 h6 q1 q2 h7
 refine Qr.walk_nil fun w8 hw8=>?_
 have hkept:=keep hkept hw8
 have W8b:=za w4b hw8
 clear hK
 have hK:=hkept
 simp only[zc,ka,kb,zb,kfa,kga]at hK
 go_wp2_with fail
 exact bodyPost_ret (v:=RgV q1 q2) (by simp[results,Tryz.results123,go_sem,hK,zf,zh];first|done|exact⟨rfl,rfl⟩) rfl ⟨_,_,rfl,by rw[h7,h6,h5,h4,h3,h2,h1];rfl,y4 W8b (by omega) ..⟩

set_option maxRecDepth 100000 in
theorem zi6 {b o bv ov cap r0 r1 c p x0 x1 y0 y1 z0 z1:Nat} {w:World} (hN:zc [(⟨b,o,none⟩,.int .i64 3),(⟨b,o+3,none⟩,.slice (some ⟨bv,ov,none⟩) 2 cap),(⟨bv,ov,none⟩,F1 r0),(⟨bv,ov+1,none⟩,F1 r1),(⟨c,p,none⟩,F1 x0),(⟨c,p+1,none⟩,F1 x1),(⟨c,p+2,none⟩,F1 y0),(⟨c,p+3,none⟩,F1 y1),(⟨c,p+4,none⟩,F1 z0),(⟨c,p+5,none⟩,F1 z1)] [] w) :
  Calls Tryz.prog 123 #[.pointer (some ⟨b,o,none⟩),.pointer (some ⟨c,p,none⟩)] w (x6 (uf (zal (uf (zal (cn .f32 x0,cn .f32 x1) (cn .f32 0,cn .f32 0) (cn .f32 z0,cn .f32 z1)) (cn .f32 r0)) (cn .f32 y0,cn .f32 y1) (cn .f32 0,cn .f32 0)) (cn .f32 r1)) w):=by
 have hK:=hN
 simp only[zc,ka,kb,zb,kfa,kga]at hK
 have hb:b<w.heap.size:=zg (a:=⟨b,o,none⟩) (by rw[hK.1];rfl)
 go_enter Tryz.func123,Tryz.ntmps123
 go_upto_region 1 with fail
 clear hK
 generalize hW:w.alloc (.cells #[F1 0,F1 0] 118)=W1 at *
 have W1b:Below w.heap.size w W1:=by subst hW;exact zt ..
 have hkept:=jg true hW;simp only[zr,zq,zo,zv,Nat.reduceAdd]at hkept;clear hW
 have hkept:=ze (keep hN W1b) hkept
 clear hN
 have hK:=hkept;simp only[zc,ka,kb,zb,kfa,kga]at hK
 have hb1:b<W1.heap.size:=Nat.lt_of_lt_of_le hb W1b.size
 go_upto_region 14 with fail
 refine Qr.wp_made 19 18 11 #[F1 0,F1 0] 118 (by kernel_rfl) (by kernel_rfl) PhiTs rfl (by kernel_rfl) ⟨_,rfl,rfl,fun a w=>by go_simp⟩ (by kernel_rfl) ?_
 repeat (first|(refine Qr.walk_plain rfl fun K hK=>?_;refine Qr.one_rel (fun v=>∃ g,v=.pointer (some ⟨g,0,none⟩)) (fun w' hw'=>⟨.pointer (some ⟨w'.heap.size,0,none⟩),_,by go_simp;rfl,⟨_,rfl⟩,hw'.alloc hw'.size _,zt ..⟩) (fun v hv=>?_);obtain⟨g,rfl⟩:=hv;go_simp;refine hK _ ?_;clear hK K)|(refine Qr.walk_plain rfl fun K hK=>?_;(first|(refine zk _ _ _ _ _ rfl _ _ _ rfl rfl rfl (fun r hr=>?_))|(apply Qr.one_det;(focus (intro w' hw';have HK:=keep hkept hw';simp only[zc,ka,kb,zb,kfa,kga]at HK;go_simp;first|done|rfl)))|(apply Qr.one_call;(focus (intro w' hw';go_simp;first|done|exact⟨rfl,rfl⟩));(focus (intro w' hw';first|((first|(go_at_call 199;refine (ql _ _ _ _ _ _ _).mono ?_)|(go_at_call 187;refine (yn _ _ _ _ _).mono ?_)|(go_at_call 188;refine (y5 _ _).mono ?_)|(go_at_call 193;refine (yp _ _ _ _).mono ?_)|(go_at_call 192;refine (xp _ _ _ _ _).mono ?_));rintro _ w2⟨l1,u1,rfl,hr1,hb1⟩;exact⟨_,rfl,by constructor<;>assumption,za hw' ‹_›,by assumption⟩)|((first|(go_at_call 197;refine (zu _ _ _).mono ?_)|(go_at_call 198;refine (zp _ _ _).mono ?_));rintro _ w2⟨r1,rfl,hr1,hb1⟩;exact⟨_,rfl,by constructor<;>assumption,za hw' ‹_›,by assumption⟩)));intro v hv;cases hv));go_simp;refine hK _ ?_;clear hK K))
 rename_i l0 u0 h0 l1 u1 h1 l2 u2 h2 l3 u3 h3
 refine Qr.walk_nil fun w3 hw3 hmade=>?_
 obtain⟨g3,hg3,hgw,hgc⟩:=hmade _ rfl
 injection hg3 with hg3
 injection hg3 with hg3
 subst hg3
 obtain⟨hc0,hc1,hf0,hf1⟩:=xc hgc
 have hset:=zay hgc (F1 l3) (F1 u3)
 have hbw:=hw3.trans (hset.2.mono hgw)
 go_upto_region 15 with fail
 clear hc0 hc1 hf0 hf1 hgc hw3
 generalize (w3.setCell ⟨g,0,none⟩ (F1 l3)).setCell ⟨g,1,none⟩ (F1 u3)=w4 at hset hbw ⊢
 have hkept:=ze (keep hkept hbw) (zdh hset.1)
 have w4b:=za W1b hbw
 clear hset hbw hK
 have hK:=hkept;simp only[zc,ka,kb,zb,kfa,kga]at hK
 refine Qr.wp_below 15 (by kernel_rfl) (by kernel_rfl) PhiTs ?_
 repeat (refine Qr.walk_plain rfl fun K hK=>?_;(first|(refine zk _ _ _ _ _ rfl _ _ _ rfl rfl rfl (fun r hr=>?_))|(apply Qr.one_det;(focus (intro w' hw';have HK:=keep hkept hw';simp only[zc,ka,kb,zb,kfa,kga]at HK;go_simp;first|done|rfl)))|(apply Qr.one_call;(focus (intro w' hw';go_simp;first|done|exact⟨rfl,rfl⟩));(focus (intro w' hw';first|((first|(go_at_call 199;refine (ql _ _ _ _ _ _ _).mono ?_)|(go_at_call 187;refine (yn _ _ _ _ _).mono ?_)|(go_at_call 188;refine (y5 _ _).mono ?_)|(go_at_call 193;refine (yp _ _ _ _).mono ?_)|(go_at_call 192;refine (xp _ _ _ _ _).mono ?_));rintro _ w2⟨l1,u1,rfl,hr1,hb1⟩;exact⟨_,rfl,by constructor<;>assumption,za hw' ‹_›,by assumption⟩)|((first|(go_at_call 197;refine (zu _ _ _).mono ?_)|(go_at_call 198;refine (zp _ _ _).mono ?_));rintro _ w2⟨r1,rfl,hr1,hb1⟩;exact⟨_,rfl,by constructor<;>assumption,za hw' ‹_›,by assumption⟩)));intro v hv;cases hv));go_simp;refine hK _ ?_;clear hK K)
 rename_i l4 u4 h4 l5 u5 h5 l6 u6 h6 q1 q2 h7
 refine Qr.walk_nil fun w8 hw8=>?_
 have hkept:=keep hkept hw8
 have W8b:=za w4b hw8
 clear hK
 have hK:=hkept
 simp only[zc,ka,kb,zb,kfa,kga]at hK
 go_wp2_with fail
 exact bodyPost_ret (v:=RgV q1 q2) (by simp[results,Tryz.results123,go_sem,hK,zf,zh];first|done|exact⟨rfl,rfl⟩) rfl ⟨_,_,rfl,by rw[h7,h6,h5,h4,h3,h2,h1,h0];rfl,y4 W8b (by omega) ..⟩

set_option maxRecDepth 100000 in
theorem zjo {b o bv ov cap r0 r1 c p x0 x1 y0 y1 z0 z1:Nat} {w:World} (hN:zc [(⟨b,o,none⟩,.int .i64 2),(⟨b,o+3,none⟩,.slice (some ⟨bv,ov,none⟩) 2 cap),(⟨bv,ov,none⟩,F1 r0),(⟨bv,ov+1,none⟩,F1 r1),(⟨c,p,none⟩,F1 x0),(⟨c,p+1,none⟩,F1 x1),(⟨c,p+2,none⟩,F1 y0),(⟨c,p+3,none⟩,F1 y1),(⟨c,p+4,none⟩,F1 z0),(⟨c,p+5,none⟩,F1 z1)] [] w) :
  Calls Tryz.prog 123 #[.pointer (some ⟨b,o,none⟩),.pointer (some ⟨c,p,none⟩)] w (x6 (uf (zal (cn .f32 x0,cn .f32 x1) (zb6 (fun y=>zbv y (cn .f32 r0)) (cn .f32 y0,cn .f32 y1)) (cn .f32 z0,cn .f32 z1)) (cn .f32 r1)) w):=by
 have hK:=hN
 simp only[zc,ka,kb,zb,kfa,kga]at hK
 have hb:b<w.heap.size:=zg (a:=⟨b,o,none⟩) (by rw[hK.1];rfl)
 go_enter Tryz.func123,Tryz.ntmps123
 go_upto_region 1 with fail
 clear hK
 generalize hW:w.alloc (.cells #[F1 0,F1 0] 118)=W1 at *
 have W1b:Below w.heap.size w W1:=by subst hW;exact zt ..
 have hkept:=jg true hW;simp only[zr,zq,zo,zv,Nat.reduceAdd]at hkept;clear hW
 have hkept:=ze (keep hN W1b) hkept
 clear hN
 have hK:=hkept;simp only[zc,ka,kb,zb,kfa,kga]at hK
 have hb1:b<W1.heap.size:=Nat.lt_of_lt_of_le hb W1b.size
 go_upto_region 11 with fail
 refine Qr.wp_made 30 29 10 #[F1 0,F1 0] 118 (by kernel_rfl) (by kernel_rfl) PhiTs rfl (by kernel_rfl) ⟨_,rfl,rfl,fun a w=>by go_simp⟩ (by kernel_rfl) ?_
 repeat (first|(refine Qr.walk_plain rfl fun K hK=>?_;refine Qr.one_rel (fun v=>∃ g,v=.pointer (some ⟨g,0,none⟩)) (fun w' hw'=>⟨.pointer (some ⟨w'.heap.size,0,none⟩),_,by go_simp;rfl,⟨_,rfl⟩,hw'.alloc hw'.size _,zt ..⟩) (fun v hv=>?_);obtain⟨g,rfl⟩:=hv;go_simp;refine hK _ ?_;clear hK K)|(refine Qr.walk_plain rfl fun K hK=>?_;(first|(refine zk _ _ _ _ _ rfl _ _ _ rfl rfl rfl (fun r hr=>?_))|(apply Qr.one_det;(focus (intro w' hw';have HK:=keep hkept hw';simp only[zc,ka,kb,zb,kfa,kga]at HK;go_simp;first|done|rfl)))|(apply Qr.one_call;(focus (intro w' hw';go_simp;first|done|exact⟨rfl,rfl⟩));(focus (intro w' hw';first|((first|(go_at_call 199;refine (ql _ _ _ _ _ _ _).mono ?_)|(go_at_call 187;refine (yn _ _ _ _ _).mono ?_)|(go_at_call 188;refine (y5 _ _).mono ?_)|(go_at_call 193;refine (yp _ _ _ _).mono ?_)|(go_at_call 192;refine (xp _ _ _ _ _).mono ?_));rintro _ w2⟨l1,u1,rfl,hr1,hb1⟩;exact⟨_,rfl,by constructor<;>assumption,za hw' ‹_›,by assumption⟩)|((first|(go_at_call 197;refine (zu _ _ _).mono ?_)|(go_at_call 198;refine (zp _ _ _).mono ?_));rintro _ w2⟨r1,rfl,hr1,hb1⟩;exact⟨_,rfl,by constructor<;>assumption,za hw' ‹_›,by assumption⟩)));intro v hv;cases hv));go_simp;refine hK _ ?_;clear hK K))
 rename_i t1 g1 t2 g2 t3 g3_ t4 g4 t5 g5
 refine Qr.walk_nil fun w3 hw3 hmade=>?_
 obtain⟨g3,hg3,hgw,hgc⟩:=hmade _ rfl
 injection hg3 with hg3
 injection hg3 with hg3
 subst hg3
 obtain⟨hc0,hc1,hf0,hf1⟩:=xc hgc
 have hset:=zay hgc (F1 t3) (F1 r)
 have hbw:=hw3.trans (hset.2.mono hgw)
 go_upto_region 12 with fail
 clear hc0 hc1 hf0 hf1 hgc hw3
 generalize (w3.setCell ⟨g,0,none⟩ (F1 t3)).setCell ⟨g,1,none⟩ (F1 r)=w4 at hset hbw ⊢
 have hkept:=ze (keep hkept hbw) (zdh hset.1)
 have w4b:=za W1b hbw
 clear hset hbw hK
 have hK:=hkept;simp only[zc,ka,kb,zb,kfa,kga]at hK
 refine Qr.wp_below 18 (by kernel_rfl) (by kernel_rfl) PhiTs ?_
 repeat (refine Qr.walk_plain rfl fun K hK=>?_;(first|(refine zk _ _ _ _ _ rfl _ _ _ rfl rfl rfl (fun r hr=>?_))|(apply Qr.one_det;(focus (intro w' hw';have HK:=keep hkept hw';simp only[zc,ka,kb,zb,kfa,kga]at HK;go_simp;first|done|rfl)))|(apply Qr.one_call;(focus (intro w' hw';go_simp;first|done|exact⟨rfl,rfl⟩));(focus (intro w' hw';first|((first|(go_at_call 199;refine (ql _ _ _ _ _ _ _).mono ?_)|(go_at_call 187;refine (yn _ _ _ _ _).mono ?_)|(go_at_call 188;refine (y5 _ _).mono ?_)|(go_at_call 193;refine (yp _ _ _ _).mono ?_)|(go_at_call 192;refine (xp _ _ _ _ _).mono ?_));rintro _ w2⟨l1,u1,rfl,hr1,hb1⟩;exact⟨_,rfl,by constructor<;>assumption,za hw' ‹_›,by assumption⟩)|((first|(go_at_call 197;refine (zu _ _ _).mono ?_)|(go_at_call 198;refine (zp _ _ _).mono ?_));rintro _ w2⟨r1,rfl,hr1,hb1⟩;exact⟨_,rfl,by constructor<;>assumption,za hw' ‹_›,by assumption⟩)));intro v hv;cases hv));go_simp;refine hK _ ?_;clear hK K)
 rename_i l4 u4 h4 l5 u5 h5 q1 q2 h7
 refine Qr.walk_nil fun w8 hw8=>?_
 have hkept:=keep hkept hw8
 have W8b:=za w4b hw8
 clear hK
 have hK:=hkept
 simp only[zc,ka,kb,zb,kfa,kga]at hK
 go_wp2_with fail
 exact bodyPost_ret (v:=RgV q1 q2) (by simp[results,Tryz.results123,go_sem,hK,zf,zh];first|done|exact⟨rfl,rfl⟩) rfl ⟨_,_,rfl,by rw[h7,h5,h4,hr,g3_,g5,g2,g4,g1,ye];rfl,y4 W8b (by omega) ..⟩

theorem zdv {x:Nat} {s:Bool} {e:Int} (h:FloatKind.f32.decode x=.number s 0 e):e=-149:=by
 change Ieee.single.read x=_ at h
 unfold Ieee.Format.read at h
 simp only[bS,iS,sS,lpS]at h
 split at h
 ·injection h with h1 h2 h3
  exact h3.symm
 ·split at h
  ·injection h with h1 h2 h3
   omega
  ·split at h<;>cases h

theorem zv4 {x:Nat} (h:FloatKind.f32.format.order x 0=some .eq):∃ s,FloatKind.f32.decode x=.number s 0 (-149):=by
 have h0:FloatKind.f32.decode 0=.number false 0 (-149):=by decide +kernel
 change (FloatKind.f32.decode x).order (FloatKind.f32.decode 0)=_ at h
 rw[h0]at h
 cases hx:FloatKind.f32.decode x with
 | nan s t=>rw[hx]at h;cases h
 | infinity s=>rw[hx]at h;cases s<;>cases h
 | number s m e =>
  rw[hx]at h
  have h1:some (compare (Ieee.signed s m (e-min e (-149)).toNat) (Ieee.signed false 0 (-149-min e (-149)).toNat))=some Ordering.eq:=h
  have hm:=zma (Option.some.inj h1)
  subst hm
  rw[zdv hx]
  exact⟨s,rfl⟩

theorem qa {x x':Nat} (hx:Zw .f32 x x'):Zw .f32 (vp x) (vj x'):=by
 have ho:FloatKind.f32.format.order x 0=FloatKind.f32.format.order x' 0:=Zw.order hx (Zw.refl _ 0)
 unfold vp vj
 cases h:FloatKind.f32.format.order x 0 with
 | none =>
  have h1:ltk .f32 x 0=false:=by unfold ltk;rw[h];rfl
  have h2:lek .f32 x' 0=false:=by unfold lek;rw[← ho,h];rfl
  rw[h1,h2];exact hx
 | some o =>
  cases o with
  | lt =>
   have h1:ltk .f32 x 0=true:=by unfold ltk;rw[h];rfl
   have h2:lek .f32 x' 0=true:=by unfold lek;rw[← ho,h];rfl
   rw[h1,h2]
   exact Zw.trans (zw3 h1) (Zw.sub (Zw.refl _ _) hx)
  | eq =>
   have h1:ltk .f32 x 0=false:=by unfold ltk;rw[h];rfl
   have h2:lek .f32 x' 0=true:=by unfold lek;rw[← ho,h];rfl
   rw[h1,h2]
   obtain⟨s,hd⟩:=zv4 h
   have h3:Zw .f32 x 0:=.inr ⟨s,false,-149,hd,by decide +kernel⟩
   have h4:Zw .f32 0 (B .sub 0 0):=by
    have:B .sub 0 0=0:=by decide +kernel
    rw[this];exact Zw.refl _ _
   have h5:Zw .f32 x' x:=Zd.symm hx
   exact Zw.trans h3 (Zw.trans h4 (Zw.sub (Zw.refl _ _) (Zd.symm (Zw.trans h5 h3))))
  | gt =>
   have h1:ltk .f32 x 0=false:=by unfold ltk;rw[h];rfl
   have h2:lek .f32 x' 0=false:=by unfold lek;rw[← ho,h];rfl
   rw[h1,h2];exact hx

def Zv (p q:Nat × Nat × Nat):Prop:=Zw .f32 p.1 q.1∧Zw .f32 p.2.1 q.2.1∧Zw .f32 p.2.2 q.2.2
theorem Zv.refl (p:Nat × Nat × Nat):Zv p p:=⟨Zw.refl _ _,Zw.refl _ _,Zw.refl _ _⟩

theorem zyb {x y z x' y' z':Nat} (h1:Zw .f32 x x') (h2:Zw .f32 y y') (h3:Zw .f32 z z') (u v t:Nat):Zw .f32 (zce x y z u v t) (ja x' y' z' u v t):=by
 have R:=fun x=>Zw.refl .f32 x
 have d:=Zw.sub (qa h1) (R u)
 have e:=Zw.sub (qa h2) (R v)
 have f:=Zw.sub (qa h3) (R t)
 unfold zce ja
 change Zw .f32 (B .sub (vp x) u) (B .sub (vj x') u) at d
 change Zw .f32 (B .sub (vp y) v) (B .sub (vj y') v) at e
 change Zw .f32 (B .sub (vp z) t) (B .sub (vj z') t) at f
 generalize B .sub (vp x) u=a1 at *
 generalize B .sub (vp y) v=a2 at *
 generalize B .sub (vp z) t=a3 at *
 generalize B .sub (vj x') u=b1 at *
 generalize B .sub (vj y') v=b2 at *
 generalize B .sub (vj z') t=b3 at *
 exact Zw.add (Zw.long (Zw.greater (R 0) d) (Zw.greater (R 0) e) (Zw.greater (R 0) f)) (Zw.lesser (R 0) (Zw.greater (Zw.greater d e) f))

theorem zxy {x y z x' y' z':Nat} (h1:Zw .f32 x x') (h2:Zw .f32 y y') (h3:Zw .f32 z z') (u r:Nat):Zw .f32 (zkt x y z u r) (zmi x' y' z' u r):=by
 have i:Zw .f32 (B .sub (jo x 0 z) u) (B .sub (jo x' 0 z') u):=Zw.sub (Zw.long h1 (Zw.refl .f32 0) h3) (Zw.refl .f32 u)
 unfold zkt zmi
 generalize B .sub (jo x 0 z) u=a1 at *
 generalize B .sub (jo x' 0 z') u=b1 at *
 exact Zw.sub (Zw.long i h2 (Zw.refl .f32 0)) (Zw.refl .f32 r)

theorem zx2 {n:PN} (hok:n.ok) (hc:(zz n.kind).2.1=0) {p q:Nat × Nat × Nat} (hp:Zv p q):Zw .f32 (zim n p.1 p.2.1 p.2.2) (zmr n q.1 q.2.1 q.2.2):=by
 obtain⟨h1,h2,h3⟩:=hp
 have R:=fun x=>Zw.refl .f32 x
 have hr:=hok.kind
 have hl:=hok.nums
 obtain⟨k,na,nb,nums⟩:=n
 simp only at *
 have:k=0∨k=1∨k=2∨k=3∨k=4∨k=5∨k=6∨k=7∨k=8∨k=9∨k=10∨k=11∨k=12∨k=13∨k=14∨k=15∨k=16:=by omega
 rcases this with h|h|h|h|h|h|h|h|h|h|h|h|h|h|h|h|h<;>subst h
 ·obtain⟨r,rfl⟩:=uv hl
  exact (Zw.long h1 h2 h3).sub (R _)
 ·obtain⟨r,s,t,rfl⟩:=zdl hl
  simp only[zim,zmr,List.map_cons,List.map_nil]
  exact zyb h1 h2 h3 _ _ _
 ·obtain⟨r,s,rfl⟩:=zhm hl
  exact (Zw.long h1 (h2.sub (((R 0).greater h2).lesser (R _))) h3).sub (R _)
 ·obtain⟨r,s,rfl⟩:=zhm hl
  simp only[zim,zmr,List.map_cons,List.map_nil]
  exact zxy h1 h2 h3 _ _
 ·obtain⟨r,s,t,u,rfl⟩:=zuw hl
  exact (Zw.inner h1 h2 h3 (R _) (R _) (R _)).sub (R _)
 all_goals exact absurd hc (by decide)

theorem zu7 {a b a' b':Nat} (ha:Zw .f32 a a') (hb:Zw .f32 b b') (k:Nat):Zw .f32 (zcz a b k) (zc5 a' b' k):=by
 have hh:=(Zw.refl .f32 k).sub (qa (ha.sub hb))
 have hg:=Zw.gtk hh (Zw.refl .f32 0)
 unfold zcz zc5 jk
 change gtk .f32 (B .sub k (vp (B .sub a b))) 0=gtk .f32 (B .sub k (vj (B .sub a' b'))) 0 at hg
 rw[← hg]
 cases hc:gtk .f32 (B .sub k (vp (B .sub a b))) 0
 ·simp only[Bool.false_eq_true,if_false]
  exact ha.lesser hb
 ·simp only[if_true]
  exact (ha.lesser hb).sub ((hh.mul hh).quo _)

theorem zxk {n:PN} (hok:n.ok) (hc:(zz n.kind).2.1 ≠ 0) {x y x' y':Nat} (hx:Zw .f32 x x') (hy:Zw .f32 y y'):Zw .f32 (zoz n x y) (zrn n x' y'):=by
 have R:=fun x=>Zw.refl .f32 x
 have hr:=hok.kind
 have hl:=hok.nums
 obtain⟨k,na,nb,nums⟩:=n
 simp only at *
 have:k=0∨k=1∨k=2∨k=3∨k=4∨k=5∨k=6∨k=7∨k=8∨k=9∨k=10∨k=11∨k=12∨k=13∨k=14∨k=15∨k=16:=by omega
 rcases this with h|h|h|h|h|h|h|h|h|h|h|h|h|h|h|h|h<;>subst h
 iterate 5 exact absurd rfl hc
 ·exact hx.lesser hy
 ·exact hx.greater hy
 ·exact hx.greater hy.neg
 ·obtain⟨r,rfl⟩:=uv hl
  exact zu7 hx hy _
 ·exact hx
 ·obtain⟨r,rfl⟩:=uv hl
  exact hx.mul (R _)
 ·exact hx
 ·exact hx
 ·exact hx
 ·exact hx
 ·obtain⟨r,rfl⟩:=uv hl
  exact hx.sub (R _)
 ·obtain⟨r,rfl⟩:=uv hl
  exact (qa hx).sub (R _)

theorem zga {c c':Nat} (hc:Zw .f32 c c') (s:Nat):Zw .f32 (y7 c s) (kq c' s) :=
 qa (hc.sub ((Zw.refl _ _).mul (Zw.near (hc.quo _))))
theorem zj4 {i i' j j':Nat} (hi:Zw .f32 i i') (hj:Zw .f32 j j') (t:Nat):Zw .f32 (yr t i j) (yr t i' j') :=
 ((Zw.refl _ _).mul hi).add ((Zw.refl _ _).mul hj)
theorem zj7 {i i' j j':Nat} (hi:Zw .f32 i i') (hj:Zw .f32 j j') (t:Nat):Zw .f32 (y8 t i j) (y8 t i' j') :=
 ((Zw.refl _ _).mul hj).sub ((Zw.refl _ _).mul hi)

theorem zvy {n:PN} (hok:n.ok) (hc:(zz n.kind).2.1=1) {p q:Nat × Nat × Nat} (hp:Zv p q):Zv (kn n p) (q9 n q):=by
 obtain⟨h1,h2,h3⟩:=hp
 have R:=fun x=>Zw.refl .f32 x
 have hr:=hok.kind
 have hl:=hok.nums
 have hax:=hok.axis
 obtain⟨k,na,nb,nums⟩:=n
 obtain⟨x,y,z⟩:=p
 obtain⟨x',y',z'⟩:=q
 simp only at *
 have:k=0∨k=1∨k=2∨k=3∨k=4∨k=5∨k=6∨k=7∨k=8∨k=9∨k=10∨k=11∨k=12∨k=13∨k=14∨k=15∨k=16:=by omega
 rcases this with h|h|h|h|h|h|h|h|h|h|h|h|h|h|h|h|h<;>subst h
 iterate 9 exact absurd hc (by decide)
 ·obtain⟨r,s,t,rfl⟩:=zdl hl
  exact⟨h1.sub (R _),h2.sub (R _),h3.sub (R _)⟩
 ·obtain⟨r,rfl⟩:=uv hl
  exact⟨h1.quo _,h2.quo _,h3.quo _⟩
 ·obtain⟨r,s,t,rfl⟩:=zdl hl
  exact⟨h1.quo _,h2.quo _,h3.quo _⟩
 ·have hb0:nb=0∨nb=1∨nb=2:=by
   rcases hax with h|h|⟨_,h⟩
   ·exact absurd h (by decide)
   ·omega
   ·omega
  obtain⟨r,rfl⟩:=uv hl
  rcases hb0 with h|h|h<;>subst h
  ·exact⟨h1,zj4 h2 h3 _,zj7 h2 h3 _⟩
  ·exact⟨zj7 h3 h1 _,h2,zj4 h3 h1 _⟩
  ·exact⟨zj4 h1 h2 _,zj7 h1 h2 _,h3⟩
 ·have hb0:nb=0∨nb=1∨nb=2:=by
   rcases hax with h|h|⟨_,h⟩
   ·exact absurd h (by decide)
   ·omega
   ·omega
  have hl0:nums=[]:=List.length_eq_zero_iff.1 hl
  subst hl0
  rcases hb0 with h|h|h<;>subst h
  ·exact⟨qa h1,h2,h3⟩
  ·exact⟨h1,qa h2,h3⟩
  ·exact⟨h1,h2,qa h3⟩
 ·have hb0:nb=0∨nb=1∨nb=2:=by
   rcases hax with h|h|⟨_,h⟩
   ·exact absurd h (by decide)
   ·omega
   ·omega
  obtain⟨r,rfl⟩:=uv hl
  rcases hb0 with h|h|h<;>subst h
  ·exact⟨zga h1 _,h2,h3⟩
  ·exact⟨h1,zga h2 _,h3⟩
  ·exact⟨h1,h2,zga h3 _⟩
 ·exact⟨h1,h2,h3⟩
 ·exact⟨h1,h2,h3⟩

theorem zpw {n:PN} (hok:n.ok) (hc:(zz n.kind).2.1=2) (q:Nat × Nat × Nat):q9 n q=q:=by
 have hr:=hok.kind
 obtain⟨k,na,nb,nums⟩:=n
 simp only at *
 have:k=0∨k=1∨k=2∨k=3∨k=4∨k=5∨k=6∨k=7∨k=8∨k=9∨k=10∨k=11∨k=12∨k=13∨k=14∨k=15∨k=16:=by omega
 rcases this with h|h|h|h|h|h|h|h|h|h|h|h|h|h|h|h|h<;>subst h<;>first|rfl|exact absurd hc (by decide)
theorem zt8 {α:Type} (p q:α→Bool):∀ l:List α,l.any (fun x=>p x || q x)=(l.any p || l.any q)
 | []=>rfl
 | x::l=>by
  simp only[List.any_cons,zt8 p q l]
  cases p x<;>cases q x<;>cases l.any p<;>cases l.any q<;>rfl

theorem zth {n:PN} (h:inI n.kind 0 16=true):zcw n.kind n.nums=zmw n:=by
 have hk:qe n.kind=true:=h
 unfold zcw zmw
 rw[hk,show (ze7 (zz n.kind).2.2.2)=fun x=>(!qn x) || qb (zz n.kind).2.2.2 x from rfl,zt8]
 cases decide (n.nums.length=(zz n.kind).1)<;>cases n.nums.any (fun x=>!qn x)<;>cases n.nums.any (qb (zz n.kind).2.2.2)<;>rfl

theorem zvv {k:Int} (h:0≤k∧k≤16):inI k 12 14=(zz k).2.2.1:=by
 have:k=0∨k=1∨k=2∨k=3∨k=4∨k=5∨k=6∨k=7∨k=8∨k=9∨k=10∨k=11∨k=12∨k=13∨k=14∨k=15∨k=16:=by omega
 rcases this with h|h|h|h|h|h|h|h|h|h|h|h|h|h|h|h|h<;>subst h<;>decide
theorem zsr {k:Int} (h:0≤k∧k≤16) (ha:(zz k).2.2.1=true):(zz k).2.1=1:=by
 have:k=0∨k=1∨k=2∨k=3∨k=4∨k=5∨k=6∨k=7∨k=8∨k=9∨k=10∨k=11∨k=12∨k=13∨k=14∨k=15∨k=16:=by omega
 rcases this with h|h|h|h|h|h|h|h|h|h|h|h|h|h|h|h|h<;>subst h<;>first|rfl|exact absurd ha (by decide)

theorem zgb (i:Nat) (c:Int) (cs:List Int) (ps:List Nat):uw i (c::cs) ps=if inI c 0 ((i:Int)-1) then uw i cs (zf0 ps c) else none:=by
 rw[uw]
 by_cases h:0≤c∧c<(i:Int)
 ·have:inI c 0 ((i:Int)-1)=true:=by simp only[inI,Bool.and_eq_true,decide_eq_true_eq];omega
  rw[if_pos h,this];rfl
 ·have:inI c 0 ((i:Int)-1)=false:=by simp only[inI,Bool.and_eq_false_iff,decide_eq_false_iff_not];omega
  rw[if_neg h,this];rfl

theorem zsl (n:PN) (i:Nat) (ps:List Nat):(if j3 n then uw i (vt n) ps else none)=if qj n i then some (zb9 (qp ps n) n) else none:=by
 cases hk:inI n.kind 0 16
 ·have h1:j3 n=false:=by
   have:qe n.kind=false:=hk
   simp[j3,zcw,this]
  have h2:qj n i=false:=by simp[qj,hk]
  rw[h1,h2];rfl
 ·have hkk:0≤n.kind∧n.kind≤16:=by simpa [inI] using hk
  obtain⟨k1,k2⟩:=zb4 hkk
  have k3:=zvv hkk
  have k4:=zsr hkk
  have hnum:=zth hk
  unfold j3 qj
  rw[hk,hnum]
  cases hn:zmw n
  ·simp
  ·have hkc:=ur n.kind
   unfold zs2 vt zb9 qp
   rw[k1,k2,k3]
   rcases hkc with h|h|h
   ·have h3:(zz n.kind).2.2.1=false:=by
     cases h4:(zz n.kind).2.2.1
     ·rfl
     ·have:=k4 h4;omega
    rw[h,h3]
    by_cases ha:n.a=0<;>by_cases hb:n.b=0<;>simp[ha,hb,uw]
   ·rw[h]
    simp only[List.take_succ_cons,List.take_zero]
    rw[zgb,uw]
    cases h3:(zz n.kind).2.2.1
    ·cases hia:inI n.a 0 ((i:Int)-1)<;>by_cases hb:n.b=0<;>simp[hb]
    ·cases hia:inI n.a 0 ((i:Int)-1)<;>by_cases hb:n.b=0
     all_goals simp[hb,inI]
   ·have h3:(zz n.kind).2.2.1=false:=by
     cases h4:(zz n.kind).2.2.1
     ·rfl
     ·have:=k4 h4;omega
    rw[h,h3]
    simp only[List.take_succ_cons,List.take_zero]
    rw[zgb,zgb,uw]
    cases hia:inI n.a 0 ((i:Int)-1)<;>cases hib:inI n.b 0 ((i:Int)-1)<;>simp

theorem zl1:∀ (l:List PN) (i:Nat) (ps:List Nat),kqa l i ps=zas l i ps
 | [],_,_=>rfl
 | n::rest,i,ps=>by
  rw[kqa,zas]
  have h:=zsl n i ps
  cases hn:j3 n
  ·rw[hn]at h
   cases hs:qj n i
   ·rfl
   ·rw[hs]at h;cases h
  ·rw[hn]at h
   simp only[if_true]at h ⊢
   rw[h]
   cases hs:qj n i
   ·rfl
   ·simp only[if_true];exact zl1 rest (i+1) _

def zck (c:Nat) (n:PN):Nat:=(if inI n.kind 0 4 then 0 else if n.a.toNat=c then 1 else 0)+(if inI n.kind 5 8 then (if n.b.toNat=c then 1 else 0) else 0)

theorem zk3 (us:List Nat) (c:Int) (j:Nat) (hc:c.toNat<us.length):(zf0 us c).getD j 0=us.getD j 0+if c.toNat=j then 1 else 0:=by
 unfold zf0
 rw[List.getD_eq_getElem?_getD,List.getD_eq_getElem?_getD,List.getElem?_set]
 by_cases h:c.toNat=j
 ·subst h
  rw[if_pos rfl,if_pos hc,if_pos rfl,List.getD_eq_getElem?_getD];rfl
 ·rw[if_neg h,if_neg h];rfl

theorem zgz:∀ (l:List PN) (i:Nat) (us r:List Nat),i+l.length≤us.length→zas l i us=some r→r.length=us.length∧∀ c,r.getD c 0=us.getD c 0+(l.map (zck c)).sum
 | [],_,us,r,_,h=>by
  rw[zas]at h
  cases h
  exact⟨rfl,fun c=>by simp⟩
 | n::rest,i,us,r,hl,h=>by
  rw[zas]at h
  cases hn:qj n i
  ·rw[hn]at h;cases h
  ·rw[hn,if_pos rfl]at h
   obtain⟨ka,kb⟩:=zdn hn
   obtain⟨h1,h2⟩:=zgz rest (i+1) _ r (by rw[zgl,zap];simp at hl;omega) h
   rw[zgl,zap]at h1
   refine⟨h1,fun c=>?_⟩
   rw[h2 c,List.map_cons,List.sum_cons]
   simp at hl
   have e1:(qp us n).getD c 0=us.getD c 0+if inI n.kind 0 4 then 0 else if n.a.toNat=c then 1 else 0:=by
    unfold qp
    cases hk:inI n.kind 0 4
    ·simp only[Bool.false_eq_true,if_false]
     exact zk3 us n.a c (by have:=ka hk;omega)
    ·simp
   have e2:(zb9 (qp us n) n).getD c 0=(qp us n).getD c 0+if inI n.kind 5 8 then (if n.b.toNat=c then 1 else 0) else 0:=by
    unfold zb9
    cases hk:inI n.kind 5 8
    ·simp
    ·simp only[if_true]
     exact zk3 _ n.b c (by rw[zap];have:=kb hk;omega)
   rw[e2,e1]
   unfold zck
   omega

theorem zqe:∀ (l:List PN) (i:Nat) (us r:List Nat),zas l i us=some r→∀ j (h:j<l.length),qj l[j] ((i+j:Nat):Int)=true
 | [],_,_,_,_,j,h=>by simp at h
 | n::rest,i,us,r,h,j,hj=>by
  rw[zas]at h
  cases hn:qj n i
  ·rw[hn]at h;cases h
  ·rw[hn,if_pos rfl]at h
   cases j with
   | zero=>exact hn
   | succ j =>
    have:=zqe rest (i+1) _ r h j (by simpa using hj)
    rw[show i+1+j=i+(j+1) by omega]at this
    exact this

theorem zlh {α:Type} (f:α→Nat):∀ (l:List α),(∀ j (h:j<l.length),f l[j]=0)→(l.map f).sum=0
 | [],_=>rfl
 | x::l,h=>by
  have h0:f x=0:=h 0 (by simp)
  rw[List.map_cons,List.sum_cons,h0,zlh f l (fun j hj=>h (j+1) (by simpa using hj))]
theorem zop {α:Type} (f:α→Nat):∀ (l:List α) (j:Nat) (h:j<l.length),f l[j]≤(l.map f).sum
 | x::l,0,_=>by rw[List.map_cons,List.sum_cons];exact Nat.le_add_right _ _
 | x::l,j+1,h=>by
  rw[List.map_cons,List.sum_cons]
  exact Nat.le_trans (zop f l j (by simpa using h)) (Nat.le_add_left _ _)
theorem zjm {α:Type} (f:α→Nat):∀ (l:List α) (j k:Nat) (hj:j<k) (hk:k<l.length),f (l[j]'(by omega))+f l[k]≤(l.map f).sum
 | x::l,0,k+1,_,hk=>by
  rw[List.map_cons,List.sum_cons]
  exact Nat.add_le_add_left (zop f l k (by simpa using hk)) _
 | x::l,j+1,k+1,hj,hk=>by
  rw[List.map_cons,List.sum_cons]
  exact Nat.le_trans (zjm f l j k (by omega) (by simpa using hk)) (Nat.le_add_left _ _)

theorem zam (ns:List PN):v6 ns=xd ns:=by
 unfold v6 xd
 rw[zl1]
 by_cases hl:1≤ns.length∧ns.length≤16
 ·cases hr:zas ns 0 (List.replicate ns.length 0) with
  | none=>rfl
  | some r =>
   obtain⟨h1,h2⟩:=zgz ns 0 _ r (by simp) hr
   have hok:=zqe ns 0 _ r hr
   have hlast:r.getD (ns.length-1) 0=0:=by
    rw[h2]
    have e1:(List.replicate ns.length 0).getD (ns.length-1) 0=0:=by
     rw[List.getD_eq_getElem?_getD,List.getElem?_replicate]
     split<;>rfl
    rw[e1,zlh]
    intro j hj
    have hn:=hok j hj
    rw[Nat.zero_add]at hn
    obtain⟨ka,kb⟩:=zdn hn
    unfold zck
    cases hk:inI ns[j].kind 0 4
    ·have:=ka hk
     cases hk2:inI ns[j].kind 5 8
     ·have e:¬ ns[j].a.toNat=ns.length-1:=by omega
      simp[e]
     ·have:=kb hk2
      have e:¬ ns[j].a.toNat=ns.length-1:=by omega
      have e2:¬ ns[j].b.toNat=ns.length-1:=by omega
      simp[e,e2]
    ·cases hk2:inI ns[j].kind 5 8
     ·simp
     ·exfalso
      simp only[inI,Bool.and_eq_true,decide_eq_true_eq]at hk hk2
      omega
   simp only[zrh,znp,hlast]
   rfl
 ·have:(decide (1≤ns.length) && decide (ns.length≤16))=false:=by
   simp only[Bool.and_eq_false_iff,decide_eq_false_iff_not];omega
  rw[this];rfl

structure Tree (ns:List PN):Prop where
 len:1≤ns.length∧ns.length≤16
 ok:qx ns
 one:∀ c,c<ns.length-1→(ns.map (zck c)).sum=1

theorem zq2 {ns:List PN} (h:xd ns=true):Tree ns:=by
 obtain⟨hl,hok⟩:=zcf h
 refine⟨hl,hok,fun c hc=>?_⟩
 rw[← zam]at h
 unfold v6 at h
 cases hr:zas ns 0 (List.replicate ns.length 0) with
 | none=>rw[hr]at h;simp[zrh]at h
 | some r =>
  rw[hr]at h
  simp only[Bool.and_eq_true,zrh,Bool.not_eq_true']at h
  obtain⟨h1,h2⟩:=zgz ns 0 _ r (by simp) hr
  have h3:=h2 c
  have e1:(List.replicate ns.length 0).getD c 0=0:=by
   rw[List.getD_eq_getElem?_getD,List.getElem?_replicate]
   split<;>rfl
  rw[e1,Nat.zero_add]at h3
  rw[← h3]
  have hcl:c<r.length:=by rw[h1];simp;omega
  have hm:r[c]∈r.take (ns.length-1):=List.mem_take_iff_getElem.2 ⟨c,by omega,rfl⟩
  have:=List.any_eq_false.1 h.2 _ hm
  rw[List.getD_eq_getElem?_getD,List.getElem?_eq_getElem hcl]
  simpa using this
end Go.Proofs.YtbiacfkiakddiaaGreat
