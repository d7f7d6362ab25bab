/-
 Lemmas: V28.
-/
import Derived.Test.YtbiacfkiakddiaaGreatXbs
set_option linter.unusedVariables false
set_option linter.unusedSimpArgs false
namespace Go.Proofs.YtbiacfkiakddiaaGreat
open Go.RowKit Go.Fl
abbrev ug (a b c d e f:Nat):Value:=.agg #[F1 a,F1 b,F1 c,F1 d,F1 e,F1 f]
def zyx (l:List (Nat × Nat)) (n:Nat) (w:World) (e:Ending) (w':World):Prop:=∃ g O,e=.returned (.slice (some ⟨g,0,none⟩) n n)∧w'.heap[g]? = some (.cells (zab n O) 118 (0,0))∧(∀ i,i<n→cn2 (O i)=l.getD i (0,0))∧w.heap.size≤g∧Below w.heap.size w w'


inductive PhiMx (R:Nat × Nat):FuncId→Array Value→Value→Prop
 | mk (args:Array Value) (l h:Nat) (e:(cn .f32 l,cn .f32 h)=R):PhiMx R 136 args (RgV l h)
inductive PhiCo:FuncId→Array Value→Value→Prop
 | mk (a b c:Nat):PhiCo 133 #[V3 a b c] (V3 a b c)
set_option maxRecDepth 100000 in
set_option maxHeartbeats 8000000 in
theorem zgp (ns:List PN) (hok:qx ns) (hl:1≤ns.length∧ns.length≤16) (sb so nb no cap a b c d e f:Nat) (w:World) (hsh:ShapeIn ns sb so nb no cap w) :
  Calls Tryz.prog 67 #[.pointer (some ⟨sb,so,none⟩),ug a b c d e f] w (zyx (za3 ns ((cn .f32 a,cn .f32 d),(cn .f32 b,cn .f32 e),(cn .f32 c,cn .f32 f))) ns.length w):=by
 have hlist:=hsh.list
 have hsb:sb<w.heap.size:=zg (a:=⟨sb,so,none⟩) (by rw[hlist];rfl)
 have hl16:=hl.2
 have hr1:(1:Int)≤(ns.length:Int):=by omega
 have hr2:(ns.length:Int)≤16:=by omega
 have hr0:(0:Int)≤(ns.length:Int)-1:=by omega
 have hr3:((ns.length:Int)-1).toNat=ns.length-1:=by omega
 have hr4:(ns.length:Int)-1<(ns.length:Int):=by omega
 go_enter Tryz.func67,Tryz.ntmps67
 go_upto_region 1 with fail
 generalize hW:w.alloc (.cells #[F1 a,F1 b,F1 c,F1 d,F1 e,F1 f] 40)=W1 at *
 have W1b:Below w.heap.size w W1:=by subst hW;exact zt ..
 have hkept:=jg false hW;simp only[zr,zq,zo,zv,Nat.reduceAdd]at hkept;clear hW
 have hN:zc [(⟨sb,so,none⟩,.slice (some ⟨nb,no,none⟩) ns.length cap)] [] w:=zm hlist ve
 have hkept:=ze (keep hN W1b) hkept
 refine Qg.wp_gd_all (by kernel_rfl) (by kernel_rfl) PhiNone (SlD W1 ns.length 22 28) [] (zrg ..) (zs7 (by intro d hd;simp at hd;rcases hd with rfl|rfl<;>rfl)) ?_
 intro hC0
 repeat (first|(refine Qg.walk_step fun K hK=>?_;apply Qg.one_det hC0 (by intro d _ hd;cases hd) rfl;(focus (intro w' hw';have HK:=keep hkept hw';simp only[zc,ka,kb,zb,kfa,kga]at HK;go_simp;first|done|rfl));(focus (intro w' hw' hs;exact zxq (by decide) (by decide)));go_simp;refine hK _ ?_;clear hK K)|(refine Qg.walk_step fun K hK=>?_;refine zog (fun g=>.slice (some ⟨g,0,none⟩) ns.length ns.length) (.cells (jb ns.length fun _=>qo) 197) hC0 (by intro d _ hd;cases hd) rfl ?_ ?_ ?_ ?_;(focus (intro w' hw';have hm:=zw8 ns.length hl16 w';go_simp;first|done|rfl));(focus (intro w' hw';exact hw'.alloc hw'.size _));(focus (intro w' hw';exact zw1 (by decide) hw'));intro ga;go_simp;refine hK _ ?_;clear hK K)|(refine Qg.walk_step fun K hK=>?_;refine zog (fun g=>.slice (some ⟨g,0,none⟩) ns.length ns.length) (.cells (zab ns.length fun _=>(0,0)) 118) hC0 (by intro d _ hd;cases hd) rfl ?_ ?_ ?_ ?_;(focus (intro w' hw';have hm:=zvt ns.length hl16 w';go_simp;first|done|rfl));(focus (intro w' hw';exact hw'.alloc hw'.size _));(focus (intro w' hw';exact zvw (by decide) hw'));intro gb;go_simp;refine hK _ ?_;clear hK K))
 refine Qg.walk_nil fun w2 hw2 hE=>?_
 rcases (hE.1 22).1 rfl with h|⟨g',h,hga,hpa⟩
 ·cases h
 injection h with h;injection h with h;injection h with h;subst h
 rcases (hE.1 28).2 rfl with h|⟨g',h,hgb,hpb⟩
 ·cases h
 injection h with h;injection h with h;injection h with h;subst h
 clear hE hC0
 have hab:ga ≠ gb:=by
  intro h
  subst h
  rw[hpa]at hpb
  injection hpb with hpb
  injection hpb with _ hpb _
  exact absurd hpb (by decide)
 have hkept:=keep hkept hw2
 have W2b:=za W1b hw2
 have hgaw:w.heap.size≤ga:=Nat.le_trans W1b.size hga
 have hgbw:w.heap.size≤gb:=Nat.le_trans W1b.size hgb
 clear hw2 hN
 have hK:=hkept;simp only[zc,ka,kb,zb,kfa,kga]at hK
 go_upto_region 2 with fail
 refine Qg.wp_gd 8 (by kernel_rfl) (by kernel_rfl) PhiCo (GdL [] w2 [] [(7,#[F1 0,F1 0,F1 0],194),(8,#[F1 0,F1 0,F1 0],194)] 1000 (fun _=>True)) [7,8] (qk ..) (ki (by intro d hd;simp at hd;rcases hd with rfl|rfl|rfl<;>rfl) rfl) ?_
 intro hC0
 repeat (first|(refine Qg.walk_step fun K hK=>?_;apply Qg.one_det hC0 (by intro d hd;cases hd;decide) rfl;(focus (intro w' hw';have HK:=keep hkept hw';simp only[zc,ka,kb,zb,kfa,kga]at HK;go_simp;first|done|rfl));(focus (intro w' hw' hs;exact jy (by decide) (by decide) (by decide)));go_simp;refine hK _ ?_;clear hK K)|(refine Qg.walk_step fun K hK=>?_;refine Qg.one_new (.cells #[F1 0,F1 0,F1 0] 194) hC0 rfl ?_ ?_ ?_ ?_;(focus (intro w' hw';go_simp;first|done|rfl));(focus (intro w' hw';exact hw'.alloc hw'.size _));(focus (intro w' hw';exact zc1 (by decide) (by simp) (by decide) hw'));intro _;go_simp;refine hK _ ?_;clear hK K)|(refine Qg.walk_step fun K hK=>?_;apply Qg.one_call _ _ hC0 (by intro d hd;cases hd;decide) rfl;(focus (intro w' hw';go_simp;first|done|exact⟨rfl,rfl⟩));(focus (apply Exists.intro;(constructor<;>exact (0:Nat))));(focus (intro w' hw' hs; go_at_call 133;refine (ya _ _ _ _).mono ?_;rintro _ wA⟨rfl,hb1⟩;exact⟨_,rfl,.mk _ _ _,jy (by decide) (by decide) (by decide),za hw' hb1,hb1⟩ ));intro v hv;cases hv;go_simp;refine hK _ ?_;clear hK K))
 rename_i gl gh
 refine Qg.walk_nil fun w3 hw3 hE=>?_
 obtain⟨g,ee,hgl,hcl⟩:=(hE.1 7).2.1 (7,#[F1 0,F1 0,F1 0],194) (by simp) rfl _ rfl
 injection ee with ee;injection ee with ee;subst ee
 obtain⟨g,ee,hgh,hch⟩:=(hE.1 8).2.1 (8,#[F1 0,F1 0,F1 0],194) (by simp) rfl _ rfl
 injection ee with ee;injection ee with ee;subst ee
 have n1:gl ≠ gh:=fun h=>hE.2.2 7 (by simp) 8 (by simp) (by decide) gl rfl (by rw[h];rfl)
 clear hE hC0
 obtain⟨hset,hbw⟩:=zy1 (B:=w2.heap.size) hcl hch n1 ⟨hgl,hgh⟩ (F1 a) (F1 b) (F1 c) (F1 d) (F1 e) (F1 f)
 have hbw:=hw3.trans hbw
 obtain⟨pa0,pa1,pa2,fa0,fa1,fa2⟩:=vw hcl
 obtain⟨pb0,pb1,pb2,fb0,fb1,fb2⟩:=vw hch
 clear hcl hch
 go_upto_region 3 with fail
 clear pa0 pa1 pa2 fa0 fa1 fa2 pb0 pb1 pb2 fb0 fb1 fb2
 have hga2:=zl hpa
 have hgb2:=zl hpb
 have hpa:=(hbw.block ga hga2).trans hpa
 have hpb:=(hbw.block gb hgb2).trans hpb
 have W4b:=za W2b hbw
 have hw4:=hbw.size
 clear hK hw3 hbw W2b hkept
 have e0:(fun _:Nat=>qo)=vv (fun _=>qo) (ns.length-1) qo:=(zrt (fun _=>qo) (ns.length-1)).symm
 rw[e0]at hpa
 clear e0
 generalize hw4e:((((((w3.setCell ⟨gl,0,none⟩ (F1 a)).setCell ⟨gl,1,none⟩ (F1 b)).setCell ⟨gl,2,none⟩ (F1 c)).setCell ⟨gh,0,none⟩ (F1 d)).setCell ⟨gh,1,none⟩ (F1 e)).setCell ⟨gh,2,none⟩ (F1 f))=w4 at *
 clear hw4e
 have n2:ga ≠ gl:=by omega
 have n3:ga ≠ gh:=by omega
 clear hgl hgh hga hgb
 have hlast:∀ w',ShapeIn ns sb so nb no cap w'→Calls Tryz.prog 83 #[.pointer (some ⟨sb,so,none⟩)] w' (fun e w''=>e=.returned (.int .i64 ((ns.length:Int)-1))∧Below w'.heap.size w' w''):=fun w' h =>
  (zav sb so _ _ _ w' h.list).mono (by rintro _ _ ⟨rfl,rfl⟩;exact⟨by rw[zaw ⟨hl.1,by omega⟩],zi _ _⟩)
 go_wp2_with fail
 go_loopw [35] (fun i wr=>∃ (m:Nat) (q:Pl),i=.int .i64 (m:Int)∧((m=0∧q=qo)∨(m=1∧q=((a,d),(0,0),(0,0)))∨(m=2∧q=((a,d),(b,e),(0,0)))∨(m=3∧q=((a,d),(b,e),(c,f))))∧wr.heap[ga]? = some (.cells (jb ns.length (vv (fun _=>qo) (ns.length-1) q)) 197 (0,0))∧wr.heap[gb]? = some (.cells (zab ns.length fun _=>(0,0)) 118 (0,0))∧zc [(⟨gl,0,none⟩,F1 a),(⟨gl,1,none⟩,F1 b),(⟨gl,2,none⟩,F1 c),(⟨gh,0,none⟩,F1 d),(⟨gh,1,none⟩,F1 e),(⟨gh,2,none⟩,F1 f)] [] wr∧Below w.heap.size w wr) (fun i _=>3-(intOf i).toNat)
 case atStart=>exact⟨0,qo,rfl,.inl ⟨rfl,rfl⟩,hpa,hpb,hset,W4b⟩
 case round =>
  clear hpa hpb hset W4b
  obtain⟨m,q,rfl,hm,hpa,hpb,hkept,Wb⟩:=hrel
  have hshr:=hsh.keep Wb
  rcases hm with⟨rfl,rfl⟩|⟨rfl,rfl⟩|⟨rfl,rfl⟩|⟨rfl,rfl⟩
  ·have hK:=hkept;simp only[zc,ka,kb,zb,kfa,kga]at hK
   go_upto_region 6 with fail
   refine Qr.wp_below 13 (by kernel_rfl) (by kernel_rfl) (PhiT ns) ?_
   repeat (refine Qr.walk_plain rfl fun K hK=>?_;(first|(apply Qr.one_det;(focus (intro w' hw';have HK:=keep hkept hw';simp only[zc,ka,kb,zb,kfa,kga]at HK;go_simp;first|done|rfl)))|(apply Qr.one_call;(focus (intro w' hw';go_simp;first|done|exact⟨rfl,rfl⟩));(focus (intro w' hw';go_at_call 83;refine (hlast _ (hshr.keep hw')).mono ?_;rintro _ w3⟨rfl,hb1⟩;exact⟨_,rfl,by constructor<;>assumption,za hw' ‹_›,by assumption⟩));intro v hv;cases hv));go_simp;refine hK _ ?_;clear hK K)
   refine Qr.walk_nil fun w6 hw6=>?_
   have hkept:=keep hkept hw6
   replace hpa:=(hw6.block ga (zl hpa)).trans hpa
   replace hpb:=(hw6.block gb (zl hpb)).trans hpb
   have W6b:=za Wb hw6
   obtain⟨q0,q1,q2,q3,q4,q5⟩:=vi hpa (ns.length-1) (by omega)
   have hfz:=vk hpa
   have hset:=Lib.hid (zwv hpa a d)
   have hpb:=Lib.hid (x7 (x7 hpb hab ((ns.length-1)*6) (F1 a)) hab ((ns.length-1)*6+1) (F1 d))
   have hkept:=Lib.hid (vy (vy hkept (a:=⟨ga,(ns.length-1)*6,none⟩) (by simp[n2,n3]) (by simp) (F1 a)) (a:=⟨ga,(ns.length-1)*6+1,none⟩) (by simp[n2,n3]) (by simp) (F1 d))
   have Wc:=Lib.hid ((W6b.setCell (p:=⟨ga,(ns.length-1)*6,none⟩) hgaw (F1 a)).setCell (p:=⟨ga,(ns.length-1)*6+1,none⟩) hgaw (F1 d))
   clear hK hlast hshr hw6 hpa W6b
   go_wp2_with fail
   exact⟨⟨1,_,rfl,.inr (.inl ⟨rfl,rfl⟩),hset.out,hpb.out,hkept.out,Wc.out⟩,by simp[intOf]⟩
  ·have hK:=hkept;simp only[zc,ka,kb,zb,kfa,kga]at hK
   go_upto_region 6 with fail
   refine Qr.wp_below 13 (by kernel_rfl) (by kernel_rfl) (PhiT ns) ?_
   repeat (refine Qr.walk_plain rfl fun K hK=>?_;(first|(apply Qr.one_det;(focus (intro w' hw';have HK:=keep hkept hw';simp only[zc,ka,kb,zb,kfa,kga]at HK;go_simp;first|done|rfl)))|(apply Qr.one_call;(focus (intro w' hw';go_simp;first|done|exact⟨rfl,rfl⟩));(focus (intro w' hw';go_at_call 83;refine (hlast _ (hshr.keep hw')).mono ?_;rintro _ w3⟨rfl,hb1⟩;exact⟨_,rfl,by constructor<;>assumption,za hw' ‹_›,by assumption⟩));intro v hv;cases hv));go_simp;refine hK _ ?_;clear hK K)
   refine Qr.walk_nil fun w6 hw6=>?_
   have hkept:=keep hkept hw6
   replace hpa:=(hw6.block ga (zl hpa)).trans hpa
   replace hpb:=(hw6.block gb (zl hpb)).trans hpb
   have W6b:=za Wb hw6
   obtain⟨q0,q1,q2,q3,q4,q5⟩:=vi hpa (ns.length-1) (by omega)
   have hfz:=vk hpa
   have hset:=Lib.hid (zwu hpa b e)
   have hpb:=Lib.hid (x7 (x7 hpb hab ((ns.length-1)*6+2) (F1 b)) hab ((ns.length-1)*6+3) (F1 e))
   have hkept:=Lib.hid (vy (vy hkept (a:=⟨ga,(ns.length-1)*6+2,none⟩) (by simp[n2,n3]) (by simp) (F1 b)) (a:=⟨ga,(ns.length-1)*6+3,none⟩) (by simp[n2,n3]) (by simp) (F1 e))
   have Wc:=Lib.hid ((W6b.setCell (p:=⟨ga,(ns.length-1)*6+2,none⟩) hgaw (F1 b)).setCell (p:=⟨ga,(ns.length-1)*6+3,none⟩) hgaw (F1 e))
   clear hK hlast hshr hw6 hpa W6b
   go_wp2_with fail
   exact⟨⟨2,_,rfl,.inr (.inr (.inl ⟨rfl,rfl⟩)),hset.out,hpb.out,hkept.out,Wc.out⟩,by simp[intOf]⟩
  ·have hK:=hkept;simp only[zc,ka,kb,zb,kfa,kga]at hK
   go_upto_region 6 with fail
   refine Qr.wp_below 13 (by kernel_rfl) (by kernel_rfl) (PhiT ns) ?_
   repeat (refine Qr.walk_plain rfl fun K hK=>?_;(first|(apply Qr.one_det;(focus (intro w' hw';have HK:=keep hkept hw';simp only[zc,ka,kb,zb,kfa,kga]at HK;go_simp;first|done|rfl)))|(apply Qr.one_call;(focus (intro w' hw';go_simp;first|done|exact⟨rfl,rfl⟩));(focus (intro w' hw';go_at_call 83;refine (hlast _ (hshr.keep hw')).mono ?_;rintro _ w3⟨rfl,hb1⟩;exact⟨_,rfl,by constructor<;>assumption,za hw' ‹_›,by assumption⟩));intro v hv;cases hv));go_simp;refine hK _ ?_;clear hK K)
   refine Qr.walk_nil fun w6 hw6=>?_
   have hkept:=keep hkept hw6
   replace hpa:=(hw6.block ga (zl hpa)).trans hpa
   replace hpb:=(hw6.block gb (zl hpb)).trans hpb
   have W6b:=za Wb hw6
   obtain⟨q0,q1,q2,q3,q4,q5⟩:=vi hpa (ns.length-1) (by omega)
   have hfz:=vk hpa
   have hset:=Lib.hid (zwi hpa c f)
   have hpb:=Lib.hid (x7 (x7 hpb hab ((ns.length-1)*6+4) (F1 c)) hab ((ns.length-1)*6+5) (F1 f))
   have hkept:=Lib.hid (vy (vy hkept (a:=⟨ga,(ns.length-1)*6+4,none⟩) (by simp[n2,n3]) (by simp) (F1 c)) (a:=⟨ga,(ns.length-1)*6+5,none⟩) (by simp[n2,n3]) (by simp) (F1 f))
   have Wc:=Lib.hid ((W6b.setCell (p:=⟨ga,(ns.length-1)*6+4,none⟩) hgaw (F1 c)).setCell (p:=⟨ga,(ns.length-1)*6+5,none⟩) hgaw (F1 f))
   clear hK hlast hshr hw6 hpa W6b
   go_wp2_with fail
   exact⟨⟨3,_,rfl,.inr (.inr (.inr ⟨rfl,rfl⟩)),hset.out,hpb.out,hkept.out,Wc.out⟩,by simp[intOf]⟩
  ·have hSr:=hshr.list
   have hP0:∀ j,cn6 (vv (fun _=>qo) (ns.length-1) ((a,d),(b,e),(c,f)) j)=qw vl ns ((cn .f32 a,cn .f32 d),(cn .f32 b,cn .f32 e),(cn .f32 c,cn .f32 f)) (ns.length-ns.length) j:=fun j=>by
    rw[Nat.sub_self]
    show cn6 (vv _ _ _ j)=vv _ _ _ j
    unfold vv
    split
    ·rfl
    ·show ((cn .f32 0,cn .f32 0),(cn .f32 0,cn .f32 0),(cn .f32 0,cn .f32 0))=_
     rw[ye]
   clear hkept hlast hshr n2 n3 n1
   generalize vv (fun _=>qo) (ns.length-1) ((a,d),(b,e),(c,f))=P0 at *
   have hHP0:=Lib.hid hP0
   clear hP0
   go_wp2_with fail
   clear hSr
   generalize ((cn .f32 a,cn .f32 d),(cn .f32 b,cn .f32 e),(cn .f32 c,cn .f32 f))=pl at *
   go_loopw [10] (fun i wr=>∃ (m:Nat) (P:Nat→Pl),m≤ns.length∧i=.int .i64 ((m:Int)-1)∧wr.heap[ga]? = some (.cells (jb ns.length P) 197 (0,0))∧wr.heap[gb]? = some (.cells (zab ns.length fun _=>(0,0)) 118 (0,0))∧Hid (∀ j,cn6 (P j)=qw vl ns pl (ns.length-m) j)∧Below w.heap.size w wr) (fun i _=>(intOf i+1).toNat)
   case atStart=>exact⟨ns.length,P0,by omega,rfl,hpa,hpb,hHP0,Wb⟩
   case round =>
    clear hpa hpb hHP0 Wb
    obtain⟨m,P,hm,rfl,hpa,hpb,hC,Wb⟩:=hrel
    cases m with
    | zero =>
     rw[show ((0:Nat):Int)-1=-1 from rfl]
     have hP:Hid (∀ j,cn6 (P j)=qw vl ns pl ns.length j):=hC
     clear hC
     have hSr:=(hsh.keep Wb).list
     go_wp2_with fail
     clear hSr
     obtain⟨C,hCg⟩:∃ C,Hid (qw vl ns pl ns.length=C):=⟨_,rfl⟩
     rw[hCg.out]at hP
     go_loopw [101] (fun i wr=>∃ (m:Nat) (O:Nat→Nat × Nat),m≤ns.length∧i=.int .i64 (m:Int)∧wr.heap[ga]? = some (.cells (jb ns.length P) 197 (0,0))∧wr.heap[gb]? = some (.cells (zab ns.length O) 118 (0,0))∧Hid (∀ j,j<m→cn2 (O j)=(uu zce ns C m).getD j (0,0))∧Below w.heap.size w wr) (fun i _=>ns.length-(intOf i).toNat)
     case atStart=>exact⟨0,_,by omega,rfl,hpa,hpb,Lib.hid (fun j hj=>by omega),Wb⟩
     case round =>
      clear hpa hpb Wb
      obtain⟨m,O,hm,rfl,hpa,hpb,hO,Wb⟩:=hrel
      by_cases hlt:m<ns.length
      ·have hlt':(m:Int)<(ns.length:Int):=by omega
       have h0:(0:Int)≤(m:Int):=by omega
       have hn0:=hsh.node m hlt
       have hSr:=(hsh.keep Wb).list
       obtain⟨hokn,hca,hcb⟩:=hok m hlt
       have hg:Hid (ns[m]? = some ns[m]):=List.getElem?_eq_getElem hlt
       have hc3:=ur ns[m].kind
       generalize ns[m]=n at *
       have hnb:nb<w.heap.size:=zg (a:=⟨nb,no+m*4,none⟩) (by rw[hn0.kind];rfl)
       go_upto_region 23 with fail
       clear hSr
       rcases hc3 with hc|hc|hc
       ·go_upto_region 24 with (go_at_call 93;refine (xz nb (no+m*4) n.kind n.a n.b _ (hn0.keep Wb).kind (hn0.keep Wb).a (hn0.keep Wb).b).mono ?_;rintro _ w5⟨gk,rfl,hg0,hg1,hgw5,hb5⟩;rw[hc];clear hg0 hg1 hgw5)
        replace hpa:=(hb5.block ga (zl hpa)).trans hpa
        replace hpb:=(hb5.block gb (zl hpb)).trans hpb
        have W5b:=za Wb hb5
        clear hb5 Wb
        go_upto_region 27 with fail
        obtain⟨p0,p1,p2,p3,p4,p5⟩:=vi hpa m hlt
        have hcall:=zoh (hn0.keep W5b) hokn hc (P m).1.1 (P m).1.2 (P m).2.1.1 (P m).2.1.2 (P m).2.2.1 (P m).2.2.2
        go_upto_region 30 with (go_at_call 135;refine hcall.mono ?_;rintro _ w9⟨l,u,rfl,e0,hb9⟩;(replace hpa:=(hb9.block ga (zl hpa)).trans hpa);(replace hpb:=(hb9.block gb (zl hpb)).trans hpb);(have hput:=Lib.hid (zjb hpb hpa (Ne.symm hab) (za W5b hb9) hgbw m l u));obtain⟨q0,q1⟩:=jn hpb m hlt;have hfz:=qf hpb;clear hpa hpb hb9 p0 p1 p2 p3 p4 p5)
        clear q0 q1 hfz
        obtain⟨hpb,hpa,Wc⟩:=hput.out
        clear hput hcall W5b
        generalize ((w9.setCell ⟨gb,m*2,none⟩ (F1 l)).setCell ⟨gb,m*2+1,none⟩ (F1 u))=w10 at *
        have hraw:Hid ((cn .f32 l,cn .f32 u)=k7 zce n (C m) (uu zce ns C m)):=Lib.hid (by rw[e0];simp only[k7,hc];rw[← hP.out m];rfl)
        clear e0
        obtain⟨r0,r1⟩:=jn hpb m hlt
        rw[zcy]at r0 r1
        have hfz:=qf hpb
        have hkept:zc [(⟨gb,m*2,none⟩,F1 l),(⟨gb,m*2+1,none⟩,F1 u)] [⟨gb,m*2,none⟩,⟨gb,m*2+1,none⟩] w10:=by simp only[zc,ka,kb,zb,kfa,kga];simp[r0,r1,hfz]
        clear r0 r1 hfz
        have hbc:=zi w10.heap.size w10
        have hpaH:=Lib.hid hpa
        have hpbH:=Lib.hid hpb
        clear hpa hpb
        have hK:=hkept;simp only[zc,ka,kb,zb,kfa,kga]at hK
        cases h1:(FloatKind.f32.format.order l l==some .eq)
        ·have hmd:xj (cn .f32 l,cn .f32 u)=(zaz,kl):=by unfold xj;rw[vo h1];rfl
         go_wp2_with (first|(go_at_call 137;refine (ui _ _).mono ?_;rintro _ w8⟨rfl,hb1⟩;(replace hbc:=za hbc hb1);have hkept:=zn hkept hb1 rfl;replace hK:=hkept;simp only[zc,ka,kb,zb,kfa,kga]at hK;simp only[h1,Bool.not_true,Bool.not_false])|(go_at_call 138;refine (z8 _).mono ?_;rintro _ w9⟨a0,a1,rfl,ea,hb1⟩;(replace hbc:=za hbc hb1);have hkept:=zn hkept hb1 rfl;replace hK:=hkept;simp only[zc,ka,kb,zb,kfa,kga]at hK))
         obtain⟨hpb2,hpa2,Wd⟩:=zjb ((hbc.block gb (zl hpbH.out)).trans hpbH.out) ((hbc.block ga (zl hpaH.out)).trans hpaH.out) (Ne.symm hab) (za Wc hbc) hgbw m a0 a1
         rw[zaj]at hpb2
         refine⟨?_,?_⟩;(focus ((repeat apply Exists.intro);refine⟨?_,rfl⟩));rotate_left;rotate_left
         ·exact⟨m+1,_,by omega,by simp,hpa2,hpb2,Lib.hid (qr hlt hg.out hO.out (by show (cn .f32 a0,cn .f32 a1)=_;rw[ea,← hraw.out,hmd])),Wd⟩
         ·first|(simp[intOf];done)|(simp[intOf];omega)
        ·cases h2:(FloatKind.f32.format.order u u==some .eq)
         ·have hmd:xj (cn .f32 l,cn .f32 u)=(zaz,kl):=by unfold xj;rw[vo h1,vo h2];rfl
          go_wp2_with (first|(go_at_call 137;refine (ui _ _).mono ?_;rintro _ w8⟨rfl,hb1⟩;(replace hbc:=za hbc hb1);have hkept:=zn hkept hb1 rfl;replace hK:=hkept;simp only[zc,ka,kb,zb,kfa,kga]at hK;simp only[h1,h2,Bool.not_true,Bool.not_false])|(go_at_call 138;refine (z8 _).mono ?_;rintro _ w9⟨a0,a1,rfl,ea,hb1⟩;(replace hbc:=za hbc hb1);have hkept:=zn hkept hb1 rfl;replace hK:=hkept;simp only[zc,ka,kb,zb,kfa,kga]at hK))
          obtain⟨hpb2,hpa2,Wd⟩:=zjb ((hbc.block gb (zl hpbH.out)).trans hpbH.out) ((hbc.block ga (zl hpaH.out)).trans hpaH.out) (Ne.symm hab) (za Wc hbc) hgbw m a0 a1
          rw[zaj]at hpb2
          refine⟨?_,?_⟩;(focus ((repeat apply Exists.intro);refine⟨?_,rfl⟩));rotate_left;rotate_left
          ·exact⟨m+1,_,by omega,by simp,hpa2,hpb2,Lib.hid (qr hlt hg.out hO.out (by show (cn .f32 a0,cn .f32 a1)=_;rw[ea,← hraw.out,hmd])),Wd⟩
          ·first|(simp[intOf];done)|(simp[intOf];omega)
         ·have hmd:xj (cn .f32 l,cn .f32 u)=(cn .f32 l,cn .f32 u):=by unfold xj;rw[vo h1,vo h2];rfl
          go_wp2_with (go_at_call 137;refine (ui _ _).mono ?_;rintro _ w8⟨rfl,hb1⟩;(replace hbc:=za hbc hb1);have hkept:=zn hkept hb1 rfl;replace hK:=hkept;simp only[zc,ka,kb,zb,kfa,kga]at hK;simp only[h1,h2,Bool.not_true,Bool.not_false])
          refine⟨?_,?_⟩;(focus ((repeat apply Exists.intro);refine⟨?_,rfl⟩));rotate_left;rotate_left
          ·exact⟨m+1,_,by omega,by simp,(hbc.block ga (zl hpaH.out)).trans hpaH.out,(hbc.block gb (zl hpbH.out)).trans hpbH.out,Lib.hid (qr hlt hg.out hO.out (by show (cn .f32 l,cn .f32 u)=_;rw[← hraw.out,hmd])),za Wc hbc⟩
          ·first|(simp[intOf];done)|(simp[intOf];omega)
       ·have hca':=hca (by rw[hc];decide)
        obtain⟨ca,hcaI⟩:=Int.eq_ofNat_of_zero_le (hca').1
        have hcal:ca<m:=by have:=(hca').2;omega
        have hcaL:(ca:Int)<(ns.length:Int):=by omega
        have hca0:(0:Int)≤(ca:Int):=by omega
        have hHa:Hid (n.a.toNat=ca):=by unfold Hid;rw[hcaI];rfl
        clear hca hcb hca'
        go_upto_region 24 with (go_at_call 93;refine (xz nb (no+m*4) n.kind n.a n.b _ (hn0.keep Wb).kind (hn0.keep Wb).a (hn0.keep Wb).b).mono ?_;rintro _ w5⟨gk,rfl,hg0,hg1,hgw5,hb5⟩;rw[hc];clear hg0 hg1 hgw5)
        replace hpa:=(hb5.block ga (zl hpa)).trans hpa
        replace hpb:=(hb5.block gb (zl hpb)).trans hpb
        have W5b:=za Wb hb5
        clear hb5 Wb
        go_upto_region 29 with fail
        obtain⟨p0,p1⟩:=jn hpb ca (by omega)
        have hA:=(hn0.keep W5b).a
        rw[hcaI]at hA
        clear hcaI
        have hcall:=zic (hn0.keep W5b) hokn (by rw[hc];decide) (O ca).1 (O ca).2 0 0
        go_upto_region 30 with (go_at_call 136;refine hcall.mono ?_;rintro _ w9⟨l,u,rfl,e0,hb9⟩;(replace hpa:=(hb9.block ga (zl hpa)).trans hpa);(replace hpb:=(hb9.block gb (zl hpb)).trans hpb);(have hput:=Lib.hid (zjb hpb hpa (Ne.symm hab) (za W5b hb9) hgbw m l u));obtain⟨q0,q1⟩:=jn hpb m hlt;have hfz:=qf hpb;clear hpa hpb hb9 p0 p1 hA)
        clear q0 q1 hfz
        obtain⟨hpb,hpa,Wc⟩:=hput.out
        clear hput hcall W5b
        generalize ((w9.setCell ⟨gb,m*2,none⟩ (F1 l)).setCell ⟨gb,m*2+1,none⟩ (F1 u))=w10 at *
        have hraw:Hid ((cn .f32 l,cn .f32 u)=k7 zce n (C m) (uu zce ns C m)):=Lib.hid (by rw[e0];simp only[k7,hc];rw[hHa.out,← hO.out ca hcal,ye];rfl)
        clear e0
        obtain⟨r0,r1⟩:=jn hpb m hlt
        rw[zcy]at r0 r1
        have hfz:=qf hpb
        have hkept:zc [(⟨gb,m*2,none⟩,F1 l),(⟨gb,m*2+1,none⟩,F1 u)] [⟨gb,m*2,none⟩,⟨gb,m*2+1,none⟩] w10:=by simp only[zc,ka,kb,zb,kfa,kga];simp[r0,r1,hfz]
        clear r0 r1 hfz
        have hbc:=zi w10.heap.size w10
        have hpaH:=Lib.hid hpa
        have hpbH:=Lib.hid hpb
        clear hpa hpb
        have hK:=hkept;simp only[zc,ka,kb,zb,kfa,kga]at hK
        cases h1:(FloatKind.f32.format.order l l==some .eq)
        ·have hmd:xj (cn .f32 l,cn .f32 u)=(zaz,kl):=by unfold xj;rw[vo h1];rfl
         go_wp2_with (first|(go_at_call 137;refine (ui _ _).mono ?_;rintro _ w8⟨rfl,hb1⟩;(replace hbc:=za hbc hb1);have hkept:=zn hkept hb1 rfl;replace hK:=hkept;simp only[zc,ka,kb,zb,kfa,kga]at hK;simp only[h1,Bool.not_true,Bool.not_false])|(go_at_call 138;refine (z8 _).mono ?_;rintro _ w9⟨a0,a1,rfl,ea,hb1⟩;(replace hbc:=za hbc hb1);have hkept:=zn hkept hb1 rfl;replace hK:=hkept;simp only[zc,ka,kb,zb,kfa,kga]at hK))
         obtain⟨hpb2,hpa2,Wd⟩:=zjb ((hbc.block gb (zl hpbH.out)).trans hpbH.out) ((hbc.block ga (zl hpaH.out)).trans hpaH.out) (Ne.symm hab) (za Wc hbc) hgbw m a0 a1
         rw[zaj]at hpb2
         refine⟨?_,?_⟩;(focus ((repeat apply Exists.intro);refine⟨?_,rfl⟩));rotate_left;rotate_left
         ·exact⟨m+1,_,by omega,by simp,hpa2,hpb2,Lib.hid (qr hlt hg.out hO.out (by show (cn .f32 a0,cn .f32 a1)=_;rw[ea,← hraw.out,hmd])),Wd⟩
         ·first|(simp[intOf];done)|(simp[intOf];omega)
        ·cases h2:(FloatKind.f32.format.order u u==some .eq)
         ·have hmd:xj (cn .f32 l,cn .f32 u)=(zaz,kl):=by unfold xj;rw[vo h1,vo h2];rfl
          go_wp2_with (first|(go_at_call 137;refine (ui _ _).mono ?_;rintro _ w8⟨rfl,hb1⟩;(replace hbc:=za hbc hb1);have hkept:=zn hkept hb1 rfl;replace hK:=hkept;simp only[zc,ka,kb,zb,kfa,kga]at hK;simp only[h1,h2,Bool.not_true,Bool.not_false])|(go_at_call 138;refine (z8 _).mono ?_;rintro _ w9⟨a0,a1,rfl,ea,hb1⟩;(replace hbc:=za hbc hb1);have hkept:=zn hkept hb1 rfl;replace hK:=hkept;simp only[zc,ka,kb,zb,kfa,kga]at hK))
          obtain⟨hpb2,hpa2,Wd⟩:=zjb ((hbc.block gb (zl hpbH.out)).trans hpbH.out) ((hbc.block ga (zl hpaH.out)).trans hpaH.out) (Ne.symm hab) (za Wc hbc) hgbw m a0 a1
          rw[zaj]at hpb2
          refine⟨?_,?_⟩;(focus ((repeat apply Exists.intro);refine⟨?_,rfl⟩));rotate_left;rotate_left
          ·exact⟨m+1,_,by omega,by simp,hpa2,hpb2,Lib.hid (qr hlt hg.out hO.out (by show (cn .f32 a0,cn .f32 a1)=_;rw[ea,← hraw.out,hmd])),Wd⟩
          ·first|(simp[intOf];done)|(simp[intOf];omega)
         ·have hmd:xj (cn .f32 l,cn .f32 u)=(cn .f32 l,cn .f32 u):=by unfold xj;rw[vo h1,vo h2];rfl
          go_wp2_with (go_at_call 137;refine (ui _ _).mono ?_;rintro _ w8⟨rfl,hb1⟩;(replace hbc:=za hbc hb1);have hkept:=zn hkept hb1 rfl;replace hK:=hkept;simp only[zc,ka,kb,zb,kfa,kga]at hK;simp only[h1,h2,Bool.not_true,Bool.not_false])
          refine⟨?_,?_⟩;(focus ((repeat apply Exists.intro);refine⟨?_,rfl⟩));rotate_left;rotate_left
          ·exact⟨m+1,_,by omega,by simp,(hbc.block ga (zl hpaH.out)).trans hpaH.out,(hbc.block gb (zl hpbH.out)).trans hpbH.out,Lib.hid (qr hlt hg.out hO.out (by show (cn .f32 l,cn .f32 u)=_;rw[← hraw.out,hmd])),za Wc hbc⟩
          ·first|(simp[intOf];done)|(simp[intOf];omega)
       ·have hca':=hca (by rw[hc];decide)
        have hcb':=hcb hc
        obtain⟨ca,hcaI⟩:=Int.eq_ofNat_of_zero_le (hca').1
        have hcal:ca<m:=by have:=(hca').2;omega
        have hcaL:(ca:Int)<(ns.length:Int):=by omega
        have hca0:(0:Int)≤(ca:Int):=by omega
        obtain⟨cb,hcbI⟩:=Int.eq_ofNat_of_zero_le (hcb').1
        have hcbl:cb<m:=by have:=(hcb').2;omega
        have hcbL:(cb:Int)<(ns.length:Int):=by omega
        have hcb0:(0:Int)≤(cb:Int):=by omega
        have hHa:Hid (n.a.toNat=ca):=by unfold Hid;rw[hcaI];rfl
        have hHb:Hid (n.b.toNat=cb):=by unfold Hid;rw[hcbI];rfl
        clear hca hcb hca' hcb'
        go_upto_region 24 with (go_at_call 93;refine (xz nb (no+m*4) n.kind n.a n.b _ (hn0.keep Wb).kind (hn0.keep Wb).a (hn0.keep Wb).b).mono ?_;rintro _ w5⟨gk,rfl,hg0,hg1,hgw5,hb5⟩;rw[hc];clear hg0 hg1 hgw5)
        replace hpa:=(hb5.block ga (zl hpa)).trans hpa
        replace hpb:=(hb5.block gb (zl hpb)).trans hpb
        have W5b:=za Wb hb5
        clear hb5 Wb
        go_upto_region 25 with fail
        obtain⟨p0,p1⟩:=jn hpb ca (by omega)
        obtain⟨q0,q1⟩:=jn hpb cb (by omega)
        have hA:=(hn0.keep W5b).a
        have hB:=(hn0.keep W5b).b
        rw[hcaI]at hA
        rw[hcbI]at hB
        clear hcaI hcbI
        have hkept:zc [(⟨nb,no+m*4+1,none⟩,.int .i64 (ca:Int)),(⟨nb,no+m*4+2,none⟩,.int .i64 (cb:Int)),(⟨gb,ca*2,none⟩,F1 (O ca).1),(⟨gb,ca*2+1,none⟩,F1 (O ca).2),(⟨gb,cb*2,none⟩,F1 (O cb).1),(⟨gb,cb*2+1,none⟩,F1 (O cb).2)] [] w5:=by
         simp only[zc,ka,kb,zb,kfa,kga]
         exact⟨hA,hB,p0,p1,q0,q1⟩
        clear p0 p1 q0 q1 hA hB
        have hK:=hkept;simp only[zc,ka,kb,zb,kfa,kga]at hK
        refine Qr.wp_below 19 (by kernel_rfl) (by kernel_rfl) (PhiMx (zss n (cn2 (O ca)) (cn2 (O cb)))) ?_
        repeat (refine Qr.walk_plain rfl fun K hK=>?_;(first|(apply Qr.one_det;(focus (intro w' hw';have HK:=keep hkept hw';simp only[zc,ka,kb,zb,kfa,kga]at HK;go_simp;first|done|rfl)))|(apply Qr.one_call;(focus (intro w' hw';go_simp;first|done|exact⟨rfl,rfl⟩));(focus (intro w' hw';go_at_call 136;refine (zic (hn0.keep (za W5b hw')) hokn (by rw[hc];decide) (O ca).1 (O ca).2 (O cb).1 (O cb).2).mono ?_;rintro _ w9⟨l1,u1,rfl,hr1,hb1⟩;exact⟨_,rfl,.mk _ _ _ hr1,za hw' ‹_›,by assumption⟩));intro v hv;cases hv));go_simp;refine hK _ ?_;clear hK K)
        rename_i l u e0
        refine Qr.walk_nil fun w9 hb9=>?_
        clear hK hkept
        replace hpa:=(hb9.block ga (zl hpa)).trans hpa
        replace hpb:=(hb9.block gb (zl hpb)).trans hpb
        have hput:=Lib.hid (zjb hpb hpa (Ne.symm hab) (za W5b hb9) hgbw m l u)
        obtain⟨q0,q1⟩:=jn hpb m hlt
        have hfz:=qf hpb
        clear hpa hpb hb9
        go_upto_region 30 with fail
        clear q0 q1 hfz
        obtain⟨hpb,hpa,Wc⟩:=hput.out
        clear hput W5b
        generalize ((w9.setCell ⟨gb,m*2,none⟩ (F1 l)).setCell ⟨gb,m*2+1,none⟩ (F1 u))=w10 at *
        have hraw:Hid ((cn .f32 l,cn .f32 u)=k7 zce n (C m) (uu zce ns C m)):=Lib.hid (by rw[e0];simp only[k7,hc];rw[hHa.out,hHb.out,← hO.out ca hcal,← hO.out cb hcbl])
        clear e0
        obtain⟨r0,r1⟩:=jn hpb m hlt
        rw[zcy]at r0 r1
        have hfz:=qf hpb
        have hkept:zc [(⟨gb,m*2,none⟩,F1 l),(⟨gb,m*2+1,none⟩,F1 u)] [⟨gb,m*2,none⟩,⟨gb,m*2+1,none⟩] w10:=by simp only[zc,ka,kb,zb,kfa,kga];simp[r0,r1,hfz]
        clear r0 r1 hfz
        have hbc:=zi w10.heap.size w10
        have hpaH:=Lib.hid hpa
        have hpbH:=Lib.hid hpb
        clear hpa hpb
        have hK:=hkept;simp only[zc,ka,kb,zb,kfa,kga]at hK
        cases h1:(FloatKind.f32.format.order l l==some .eq)
        ·have hmd:xj (cn .f32 l,cn .f32 u)=(zaz,kl):=by unfold xj;rw[vo h1];rfl
         go_wp2_with (first|(go_at_call 137;refine (ui _ _).mono ?_;rintro _ w8⟨rfl,hb1⟩;(replace hbc:=za hbc hb1);have hkept:=zn hkept hb1 rfl;replace hK:=hkept;simp only[zc,ka,kb,zb,kfa,kga]at hK;simp only[h1,Bool.not_true,Bool.not_false])|(go_at_call 138;refine (z8 _).mono ?_;rintro _ w9⟨a0,a1,rfl,ea,hb1⟩;(replace hbc:=za hbc hb1);have hkept:=zn hkept hb1 rfl;replace hK:=hkept;simp only[zc,ka,kb,zb,kfa,kga]at hK))
         obtain⟨hpb2,hpa2,Wd⟩:=zjb ((hbc.block gb (zl hpbH.out)).trans hpbH.out) ((hbc.block ga (zl hpaH.out)).trans hpaH.out) (Ne.symm hab) (za Wc hbc) hgbw m a0 a1
         rw[zaj]at hpb2
         refine⟨?_,?_⟩;(focus ((repeat apply Exists.intro);refine⟨?_,rfl⟩));rotate_left;rotate_left
         ·exact⟨m+1,_,by omega,by simp,hpa2,hpb2,Lib.hid (qr hlt hg.out hO.out (by show (cn .f32 a0,cn .f32 a1)=_;rw[ea,← hraw.out,hmd])),Wd⟩
         ·first|(simp[intOf];done)|(simp[intOf];omega)
        ·cases h2:(FloatKind.f32.format.order u u==some .eq)
         ·have hmd:xj (cn .f32 l,cn .f32 u)=(zaz,kl):=by unfold xj;rw[vo h1,vo h2];rfl
          go_wp2_with (first|(go_at_call 137;refine (ui _ _).mono ?_;rintro _ w8⟨rfl,hb1⟩;(replace hbc:=za hbc hb1);have hkept:=zn hkept hb1 rfl;replace hK:=hkept;simp only[zc,ka,kb,zb,kfa,kga]at hK;simp only[h1,h2,Bool.not_true,Bool.not_false])|(go_at_call 138;refine (z8 _).mono ?_;rintro _ w9⟨a0,a1,rfl,ea,hb1⟩;(replace hbc:=za hbc hb1);have hkept:=zn hkept hb1 rfl;replace hK:=hkept;simp only[zc,ka,kb,zb,kfa,kga]at hK))
          obtain⟨hpb2,hpa2,Wd⟩:=zjb ((hbc.block gb (zl hpbH.out)).trans hpbH.out) ((hbc.block ga (zl hpaH.out)).trans hpaH.out) (Ne.symm hab) (za Wc hbc) hgbw m a0 a1
          rw[zaj]at hpb2
          refine⟨?_,?_⟩;(focus ((repeat apply Exists.intro);refine⟨?_,rfl⟩));rotate_left;rotate_left
          ·exact⟨m+1,_,by omega,by simp,hpa2,hpb2,Lib.hid (qr hlt hg.out hO.out (by show (cn .f32 a0,cn .f32 a1)=_;rw[ea,← hraw.out,hmd])),Wd⟩
          ·first|(simp[intOf];done)|(simp[intOf];omega)
         ·have hmd:xj (cn .f32 l,cn .f32 u)=(cn .f32 l,cn .f32 u):=by unfold xj;rw[vo h1,vo h2];rfl
          go_wp2_with (go_at_call 137;refine (ui _ _).mono ?_;rintro _ w8⟨rfl,hb1⟩;(replace hbc:=za hbc hb1);have hkept:=zn hkept hb1 rfl;replace hK:=hkept;simp only[zc,ka,kb,zb,kfa,kga]at hK;simp only[h1,h2,Bool.not_true,Bool.not_false])
          refine⟨?_,?_⟩;(focus ((repeat apply Exists.intro);refine⟨?_,rfl⟩));rotate_left;rotate_left
          ·exact⟨m+1,_,by omega,by simp,(hbc.block ga (zl hpaH.out)).trans hpaH.out,(hbc.block gb (zl hpbH.out)).trans hpbH.out,Lib.hid (qr hlt hg.out hO.out (by show (cn .f32 l,cn .f32 u)=_;rw[← hraw.out,hmd])),za Wc hbc⟩
          ·first|(simp[intOf];done)|(simp[intOf];omega)
      ·obtain rfl:m=ns.length:=by omega
       go_wp2_with fail
       go_ret
       exact⟨gb,O,rfl,hpb,fun i hi=>by rw[hO.out i hi,za3,hCg.out],hgbw,Wb⟩
    | succ k =>
     have hk1:((k+1:Nat):Int)-1=(k:Int):=by omega
     rw[hk1]
     have hk0:(0:Int)≤(k:Int):=by omega
     have hkl:(k:Int)<(ns.length:Int):=by omega
     have hkn:k<ns.length:=by omega
     have hn0:=hsh.node k hkn
     have hSr:=(hsh.keep Wb).list
     have hnb:nb<w.heap.size:=zg (a:=⟨nb,no+k*4,none⟩) (by rw[(hsh.node k hkn).kind];rfl)
     obtain⟨hokn,hca,hcb⟩:=hok k hkn
     have hrun:Hid (qw vl ns pl (ns.length-k)=za2 vl ns[k] k (qw vl ns pl (ns.length-(k+1)))):=by
      have h1:ns.length-k=(ns.length-(k+1))+1:=by omega
      have h2:ns.length-1-(ns.length-(k+1))=k:=by omega
      unfold Hid
      rw[h1,qw,h2,List.getElem?_eq_getElem hkn]
     have hc3:=ur ns[k].kind
     generalize ns[k]=n at *
     have hHn0:=Lib.hid hn0
     go_upto_region 12 with fail
     clear hSr
     rcases hc3 with hc|hc|hc
     ·go_upto_region 13 with (go_at_call 93;refine (xz nb (no+k*4) n.kind n.a n.b _ (hn0.keep Wb).kind (hn0.keep Wb).a (hn0.keep Wb).b).mono ?_;rintro _ w5⟨gk,rfl,hg0,hg1,hgw5,hb5⟩;rw[hc])
      replace hpa:=(hb5.block ga (zl hpa)).trans hpa
      replace hpb:=(hb5.block gb (zl hpb)).trans hpb
      have W5b:=za Wb hb5
      clear hg0 hg1 hgw5 hb5 Wb
      go_loopw [71] (fun i wr'=>i=.int .i64 0∧wr'=w5) (fun _ _=>0)
      case atStart=>exact⟨rfl,rfl⟩
      case round =>
       obtain⟨rfl,rfl⟩:=hrel
       go_wp2_with fail
       refine⟨?_,?_⟩;(focus ((repeat apply Exists.intro);refine⟨?_,rfl⟩));rotate_left;rotate_left
       ·exact⟨k,P,by omega,rfl,hpa,hpb,Lib.hid (fun j=>by rw[hrun.out,za2,hc];exact hC.out j),W5b⟩
       ·first|(simp[intOf];done)|(simp[intOf];omega)
     ·have hca':=hca (by rw[hc];decide)
      obtain⟨ca,hcaI⟩:=Int.eq_ofNat_of_zero_le hca'.1
      have hcal:ca<k:=by omega
      have hcan:ca<ns.length:=by omega
      have hcaL:(ca:Int)<(ns.length:Int):=by omega
      have hca0:(0:Int)≤(ca:Int):=by omega
      have hHa:Hid (n.a.toNat=ca):=by unfold Hid;rw[hcaI];rfl
      clear hca hcb hca'
      go_upto_region 13 with (go_at_call 93;refine (xz nb (no+k*4) n.kind n.a n.b _ (hn0.keep Wb).kind (hn0.keep Wb).a (hn0.keep Wb).b).mono ?_;rintro _ w5⟨gk,rfl,hg0,hg1,hgw5,hb5⟩;rw[hc])
      rw[hcaI]at hg0
      have hcaH:=Lib.hid hcaI
      clear hcaI
      have hgak:ga ≠ gk:=by have:=zl hpa;omega
      replace hpa:=(hb5.block ga (zl hpa)).trans hpa
      replace hpb:=(hb5.block gb (zl hpb)).trans hpb
      have W5b:=za Wb hb5
      have hkept:zc [(⟨gk,0,none⟩,.int .i64 (ca:Int))] [] w5:=zm hg0 ve
      clear hg0 hg1 hgw5 hb5 Wb
      go_loopw [71] (fun i wr'=>∃ (q:Nat) (P':Nat→Pl),i=.int .i64 (q:Int)∧((q=0∧P'=P)∨(q=1∧Hid (∀ j,cn6 (P' j)=qw vl ns pl (ns.length-k) j)))∧wr'.heap[ga]? = some (.cells (jb ns.length P') 197 (0,0))∧wr'.heap[gb]? = some (.cells (zab ns.length fun _=>(0,0)) 118 (0,0))∧zc [(⟨gk,0,none⟩,.int .i64 (ca:Int))] [] wr'∧Below w.heap.size w wr') (fun i _=>2-(intOf i).toNat)
      case atStart=>exact⟨0,P,rfl,.inl ⟨rfl,rfl⟩,hpa,hpb,hkept,W5b⟩
      case round =>
       clear hpa hpb hkept W5b
       obtain⟨q,P',rfl,hq,hpa,hpb,hkept,Wb⟩:=hrel
       rcases hq with⟨rfl,rfl⟩|⟨rfl,hP⟩
       ·have hK:=hkept;simp only[zc,ka,kb,zb,kfa,kga]at hK
        obtain⟨p0,p1,p2,p3,p4,p5⟩:=vi hpa k hkn
        obtain⟨q0,q1,q2,q3,q4,q5⟩:=vi hpa ca hcan
        have hfz:=vk hpa
        have hput:=Lib.hid (zni hpa hpb hab hkept (by simp[hgak]) Wb hgaw ca (P' k).1.1 (P' k).1.2 (P' k).2.1.1 (P' k).2.1.2 (P' k).2.2.1 (P' k).2.2.2)
        clear hpa hpb hkept Wb
        go_upto_region 16 with fail
        clear p0 p1 p2 p3 p4 p5 q0 q1 q2 q3 q4 q5 hfz hK
        obtain⟨hpa,hpb,hkept,Wb⟩:=hput.out
        clear hput
        generalize ((((((wr.setCell ⟨ga,ca*6,none⟩ _).setCell ⟨ga,ca*6+1,none⟩ _).setCell ⟨ga,ca*6+2,none⟩ _).setCell ⟨ga,ca*6+3,none⟩ _).setCell ⟨ga,ca*6+4,none⟩ _).setCell ⟨ga,ca*6+5,none⟩ _)=w7 at *
        go_upto_region 17 with (go_at_call 93;refine (xz nb (no+k*4) n.kind n.a n.b _ (hn0.keep Wb).kind (hn0.keep Wb).a (hn0.keep Wb).b).mono ?_;rintro _ w5⟨g2,rfl,hg0,hg1,hgw5,hb5⟩;rw[hc])
        replace hpa:=(hb5.block ga (zl hpa)).trans hpa
        replace hpb:=(hb5.block gb (zl hpb)).trans hpb
        replace hkept:=keep hkept hb5
        have W8b:=za Wb hb5
        clear hg0 hg1 hgw5 hb5 Wb
        obtain⟨p0,p1,p2,p3,p4,p5⟩:=vi hpa k hkn
        rw[zjk P' (show k ≠ ca by omega) _]at p0 p1 p2 p3 p4 p5
        have hcall:=zpx (hn0.keep W8b) hokn hc (P' k).1.1 (P' k).1.2 (P' k).2.1.1 (P' k).2.1.2 (P' k).2.2.1 (P' k).2.2.2
        have hkH:=Lib.hid hkept
        clear hkept
        go_upto_region 18 with (go_at_call 134;refine hcall.mono ?_;rintro _ w9⟨v0,v1,v2,v3,v4,v5,rfl,e0,e1,e2,hb9⟩;(replace hpa:=(hb9.block ga (zl hpa)).trans hpa);(replace hpb:=(hb9.block gb (zl hpb)).trans hpb);(have hput:=Lib.hid (zni hpa hpb hab (keep hkH.out hb9) (by simp[hgak]) (za W8b hb9) hgaw ca v0 v1 v2 v3 v4 v5));obtain⟨q0,q1,q2,q3,q4,q5⟩:=vi hpa ca hcan;have hfz:=vk hpa;clear hpa hpb p0 p1 p2 p3 p4 p5 hb9)
        clear q0 q1 q2 q3 q4 q5 hfz hcall
        obtain⟨hpa,hpb,hkept,Wc⟩:=hput.out
        clear hput
        rw[zir]at hpa
        generalize ((((((w9.setCell ⟨ga,ca*6,none⟩ _).setCell ⟨ga,ca*6+1,none⟩ _).setCell ⟨ga,ca*6+2,none⟩ _).setCell ⟨ga,ca*6+3,none⟩ _).setCell ⟨ga,ca*6+4,none⟩ _).setCell ⟨ga,ca*6+5,none⟩ _)=w10 at *
        have hP:Hid (∀ j,cn6 (vv P' ca ((v0,v1),(v2,v3),(v4,v5)) j)=qw vl ns pl (ns.length-k) j):=Lib.hid (fun j=>by
         have hv:cn6 ((v0,v1),(v2,v3),(v4,v5))=k0 vl n (cn6 (P' k)):=by
          show ((cn .f32 v0,cn .f32 v1),(cn .f32 v2,cn .f32 v3),(cn .f32 v4,cn .f32 v5))=_
          rw[e0,e1,e2]
         rw[hrun.out,za2,hc]
         simp only[hHa.out]
         rw[← hC.out k,← hv]
         unfold vv
         split
         ·rfl
         ·exact hC.out j)
        clear e0 e1 e2 W8b
        go_wp2_with fail
        exact⟨⟨1,_,rfl,.inr ⟨rfl,hP⟩,hpa,hpb,hkept,Wc⟩,by first|(simp[intOf];done)|(simp[intOf];omega)⟩
       ·go_wp2_with fail
        refine⟨?_,?_⟩;(focus ((repeat apply Exists.intro);refine⟨?_,rfl⟩));rotate_left;rotate_left
        ·exact⟨k,P',by omega,rfl,hpa,hpb,hP,Wb⟩
        ·first|(simp[intOf];done)|(simp[intOf];omega)
     ·have hca':=hca (by rw[hc];decide)
      have hcb':=hcb hc
      obtain⟨ca,hcaI⟩:=Int.eq_ofNat_of_zero_le hca'.1
      obtain⟨cb,hcbI⟩:=Int.eq_ofNat_of_zero_le hcb'.1
      have hcal:ca<k:=by omega
      have hcan:ca<ns.length:=by omega
      have hcaL:(ca:Int)<(ns.length:Int):=by omega
      have hca0:(0:Int)≤(ca:Int):=by omega
      have hcbl:cb<k:=by omega
      have hcbn:cb<ns.length:=by omega
      have hcbL:(cb:Int)<(ns.length:Int):=by omega
      have hcb0:(0:Int)≤(cb:Int):=by omega
      have hHa:Hid (n.a.toNat=ca):=by unfold Hid;rw[hcaI];rfl
      have hHb:Hid (n.b.toNat=cb):=by unfold Hid;rw[hcbI];rfl
      clear hca hcb hca' hcb'
      go_upto_region 13 with (go_at_call 93;refine (xz nb (no+k*4) n.kind n.a n.b _ (hn0.keep Wb).kind (hn0.keep Wb).a (hn0.keep Wb).b).mono ?_;rintro _ w5⟨gk,rfl,hg0,hg1,hgw5,hb5⟩;rw[hc])
      rw[hcaI]at hg0
      rw[hcbI]at hg1
      clear hcaI hcbI
      have hgak:ga ≠ gk:=by have:=zl hpa;omega
      replace hpa:=(hb5.block ga (zl hpa)).trans hpa
      replace hpb:=(hb5.block gb (zl hpb)).trans hpb
      have W5b:=za Wb hb5
      have hkept:zc [(⟨gk,0,none⟩,.int .i64 (ca:Int)),(⟨gk,1,none⟩,.int .i64 (cb:Int))] [] w5:=zm hg0 (zm hg1 ve)
      clear hg0 hg1 hgw5 hb5 Wb
      go_loopw [71] (fun i wr'=>∃ (q:Nat) (P':Nat→Pl),i=.int .i64 (q:Int)∧((q=0∧P'=P)∨(q=1∧P'=vv P ca (P k))∨(q=2∧Hid (∀ j,cn6 (P' j)=qw vl ns pl (ns.length-k) j)))∧wr'.heap[ga]? = some (.cells (jb ns.length P') 197 (0,0))∧wr'.heap[gb]? = some (.cells (zab ns.length fun _=>(0,0)) 118 (0,0))∧zc [(⟨gk,0,none⟩,.int .i64 (ca:Int)),(⟨gk,1,none⟩,.int .i64 (cb:Int))] [] wr'∧Below w.heap.size w wr') (fun i _=>3-(intOf i).toNat)
      case atStart=>exact⟨0,P,rfl,.inl ⟨rfl,rfl⟩,hpa,hpb,hkept,W5b⟩
      case round =>
       clear hpa hpb hkept W5b
       obtain⟨q,P',rfl,hq,hpa,hpb,hkept,Wb⟩:=hrel
       rcases hq with⟨rfl,rfl⟩|⟨rfl,hP1⟩|⟨rfl,hP⟩
       ·have hK:=hkept;simp only[zc,ka,kb,zb,kfa,kga]at hK
        obtain⟨p0,p1,p2,p3,p4,p5⟩:=vi hpa k hkn
        obtain⟨q0,q1,q2,q3,q4,q5⟩:=vi hpa ca hcan
        have hfz:=vk hpa
        have hput:=Lib.hid (zni hpa hpb hab hkept (by simp[hgak]) Wb hgaw ca (P' k).1.1 (P' k).1.2 (P' k).2.1.1 (P' k).2.1.2 (P' k).2.2.1 (P' k).2.2.2)
        clear hpa hpb hkept Wb
        go_upto_region 16 with fail
        clear p0 p1 p2 p3 p4 p5 q0 q1 q2 q3 q4 q5 hfz hK
        obtain⟨hpa,hpb,hkept,Wb⟩:=hput.out
        clear hput
        generalize ((((((wr.setCell ⟨ga,ca*6,none⟩ _).setCell ⟨ga,ca*6+1,none⟩ _).setCell ⟨ga,ca*6+2,none⟩ _).setCell ⟨ga,ca*6+3,none⟩ _).setCell ⟨ga,ca*6+4,none⟩ _).setCell ⟨ga,ca*6+5,none⟩ _)=w7 at *
        go_wp2_with (go_at_call 93;refine (xz nb (no+k*4) n.kind n.a n.b _ (hn0.keep Wb).kind (hn0.keep Wb).a (hn0.keep Wb).b).mono ?_;rintro _ w5⟨g2,rfl,hg0,hg1,hgw5,hb5⟩;rw[hc];(replace hpa:=(hb5.block ga (zl hpa)).trans hpa);(replace hpb:=(hb5.block gb (zl hpb)).trans hpb);(have hkH:=Lib.hid (keep hkept hb5));(replace Wb:=za Wb hb5);clear hkept)
        exact⟨⟨1,_,rfl,.inr (.inl ⟨rfl,rfl⟩),hpa,hpb,hkH.out,Wb⟩,by first|(simp[intOf];done)|(simp[intOf];omega)⟩
       ·have hP2:Hid (∀ j,cn6 (vv P' cb ((P' k).1,(P' k).2.1,(P' k).2.2) j)=qw vl ns pl (ns.length-k) j):=Lib.hid (fun j=>by
         have e:P' k=P k:=by rw[hP1];exact zjk _ (by omega) _
         rw[hrun.out,za2,hc]
         simp only[hHa.out,hHb.out]
         rw[e,hP1,← hC.out k]
         unfold vv
         split
         ·rfl
         ·split
          ·rfl
          ·exact hC.out j)
        clear hP1
        have hK:=hkept;simp only[zc,ka,kb,zb,kfa,kga]at hK
        obtain⟨p0,p1,p2,p3,p4,p5⟩:=vi hpa k hkn
        obtain⟨q0,q1,q2,q3,q4,q5⟩:=vi hpa cb hcbn
        have hfz:=vk hpa
        have hput:=Lib.hid (zni hpa hpb hab hkept (by simp[hgak]) Wb hgaw cb (P' k).1.1 (P' k).1.2 (P' k).2.1.1 (P' k).2.1.2 (P' k).2.2.1 (P' k).2.2.2)
        clear hpa hpb hkept Wb
        go_upto_region 16 with fail
        clear p0 p1 p2 p3 p4 p5 q0 q1 q2 q3 q4 q5 hfz hK
        obtain⟨hpa,hpb,hkept,Wb⟩:=hput.out
        clear hput
        generalize ((((((wr.setCell ⟨ga,cb*6,none⟩ _).setCell ⟨ga,cb*6+1,none⟩ _).setCell ⟨ga,cb*6+2,none⟩ _).setCell ⟨ga,cb*6+3,none⟩ _).setCell ⟨ga,cb*6+4,none⟩ _).setCell ⟨ga,cb*6+5,none⟩ _)=w7 at *
        go_wp2_with (go_at_call 93;refine (xz nb (no+k*4) n.kind n.a n.b _ (hn0.keep Wb).kind (hn0.keep Wb).a (hn0.keep Wb).b).mono ?_;rintro _ w5⟨g2,rfl,hg0,hg1,hgw5,hb5⟩;rw[hc];(replace hpa:=(hb5.block ga (zl hpa)).trans hpa);(replace hpb:=(hb5.block gb (zl hpb)).trans hpb);(have hkH:=Lib.hid (keep hkept hb5));(replace Wb:=za Wb hb5);clear hkept)
        exact⟨⟨2,_,rfl,.inr (.inr ⟨rfl,hP2⟩),hpa,hpb,hkH.out,Wb⟩,by first|(simp[intOf];done)|(simp[intOf];omega)⟩
       ·go_wp2_with fail
        refine⟨?_,?_⟩;(focus ((repeat apply Exists.intro);refine⟨?_,rfl⟩));rotate_left;rotate_left
        ·exact⟨k,P',by omega,rfl,hpa,hpb,hP,Wb⟩
        ·first|(simp[intOf];done)|(simp[intOf];omega)
end Go.Proofs.YtbiacfkiakddiaaGreat
