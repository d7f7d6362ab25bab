/-
 Lemmas: V36,A5,A8,A9.
-/
import Derived.Test.YtbiacfkiakddiaaGreatXbj
import Derived.Test.YtbiacfkiakddiaaGreatXcd
import Derived.Test.YtbiacfkiakddiaaGreatXcf
set_option linter.unusedVariables false
set_option linter.unusedSimpArgs false
set_option maxHeartbeats 16000000
namespace Go.Proofs.YtbiacfkiakddiaaGreat
open Go.RowKit Go.Fl
set_option maxRecDepth 100000 in
theorem zez (ns:List PN) (hok:qx ns) (hl:1≤ns.length∧ns.length≤16) (sb so nb no cap bb bo a b c d e f:Nat) (w:World) (hsh:ShapeIn ns sb so nb no cap w) (hbx:zc [(⟨bb,bo,none⟩,F1 a),(⟨bb,bo+1,none⟩,F1 b),(⟨bb,bo+2,none⟩,F1 c),(⟨bb,bo+3,none⟩,F1 d),(⟨bb,bo+4,none⟩,F1 e),(⟨bb,bo+5,none⟩,F1 f)] [] w) :
  Calls Tryz.prog 141 #[.pointer (some ⟨sb,so,none⟩),.pointer (some ⟨bb,bo,none⟩)] w (x6 (zdz (j9 ns ((cn .f32 a,cn .f32 d),(cn .f32 b,cn .f32 e),(cn .f32 c,cn .f32 f))) ns.length) w):=by
 have hr0:(0:Int)≤(ns.length:Int)-1:=by omega
 have hr3:((ns.length:Int)-1).toNat=ns.length-1:=by omega
 have hr4:(ns.length:Int)-1<(ns.length:Int):=by omega
 have hwr:IntKind.i64.wrap ((ns.length:Int)-1)=(ns.length:Int)-1:=by
  rw[IntKind.wrap_i64]
  omega
 go_enter Tryz.func141,Tryz.ntmps141
 go_upto_region 1 with fail
 generalize hW:w.alloc (.cells #[F1 0,F1 0] 118)=W1 at *
 have W1b:Below w.heap.size w W1:=by subst hW;exact zt ..
 have hkept:=jg true hW;simp only[zr,zq,zo,zv,Nat.reduceAdd]at hkept;clear hW
 have hK:=hkept;simp only[zc,ka,kb,zb,kfa,kga]at hK
 have hra:=zkl ns hok hl sb so nb no cap bb bo a b c d e f W1 (hsh.keep W1b) (keep hbx W1b)
 go_upto_region 2 with (go_at_call 62;refine hra.mono ?_;rintro _ w4⟨v,rs,rfl,hown,hrs,hb1⟩;have W1b:=za W1b hb1;have hkept:=zn hkept hb1 rfl;replace hK:=hkept;simp only[zc,ka,kb,zb,kfa,kga]at hK)
 clear hra
 obtain⟨g6,cap6,rfl,hg6,hg6s⟩:=hown.form (by omega)
 have hlen:rs.length=ns.length:=by have:=hown.1;rw[zot]at this;omega
 obtain⟨f0,f1⟩:=zg1 rs (ns.length-1) (by omega)
 have hA0:=hown.cellAt ((ns.length-1)*2) (by omega)
 have hA1:=hown.cellAt ((ns.length-1)*2+1) (by omega)
 rw[f0]at hA0
 rw[f1]at hA1
 have hget:Hid (zdz (j9 ns ((cn .f32 a,cn .f32 d),(cn .f32 b,cn .f32 e),(cn .f32 c,cn .f32 f))) ns.length=cn2 rs[ns.length-1]):=by unfold Hid zdz;rw[← hrs,List.getD_eq_getElem?_getD,List.getElem?_map,List.getElem?_eq_getElem (show ns.length-1<rs.length by omega)];rfl
 clear f0 f1
 generalize rs[ns.length-1]=ra at *
 clear hown hrs
 go_wp2_with fail
 exact bodyPost_ret (v:=RgV ra.1 ra.2) (by simp[results,Tryz.results141,go_sem,hK,zf,zh];first|done|exact⟨rfl,rfl⟩) rfl ⟨_,_,rfl,hget.out.symm,y4 W1b (by omega) ..⟩

set_option maxRecDepth 100000 in
theorem zpv (ns ms:List PN) (hokn:qx ns) (hokm:qx ms) (hl:1≤ns.length∧ns.length≤16) (hm:1≤ms.length∧ms.length≤16) (sb sb2 nb no cap mb mo cap2 g p a b c d e f:Nat) (w:World) (hs1:ShapeIn ns sb 0 nb no cap w) (hs2:ShapeIn ms sb2 0 mb mo cap2 w) (hB:BoxAt g p ((a,b,c),d,e,f) w) :
  Calls Tryz.prog 78 #[.pointer (some ⟨sb,0,none⟩),.pointer (some ⟨sb2,0,none⟩),.pointer (some ⟨g,p,none⟩)] w (fun e' w'=>e'=.returned (.bool (lfS ns ms (cnb ((a,b,c),d,e,f))))∧Below w.heap.size w w'):=by
 obtain⟨U,hU⟩:∃ U,Hid (lfS ns ms (cnb ((a,b,c),d,e,f))=U):=⟨_,rfl⟩
 rw[hU.out]
 have hkC:=hB.kept
 have hr1:=fun w' (h:ShapeIn ns sb 0 nb no cap w') hk=>zez ns hokn hl sb 0 nb no cap g p a b c d e f w' h hk
 have hr2:=fun w' (h:ShapeIn ms sb2 0 mb mo cap2 w') hk=>zez ms hokm hm sb2 0 mb mo cap2 g p a b c d e f w' h hk
 have t1:True:=trivial
 have W1b:=zi w.heap.size w
 clear hB
 go_enter Tryz.func78,Tryz.ntmps78
 go_upto_region 2 with (go_at_call 141;refine (hr1 _ hs1 hkC).mono ?_;rintro _ w2⟨l1,u1,rfl,hR1,hb1⟩)
 have hb2:Below w2.heap.size w2 (w2.alloc (.cells #[F1 l1,F1 u1] 118)):=zt ..
 have hkept:zc [(⟨w2.heap.size,0,none⟩,F1 l1),(⟨w2.heap.size,1,none⟩,F1 u1)] [] (w2.alloc (.cells #[F1 l1,F1 u1] 118)):=by simp only[zc,ka,kb,zb,kfa,kga];simp
 have W1b:=za (za W1b hb1) hb2
 have hs2:=(hs2.keep hb1).keep hb2
 have hkC:=keep (keep hkC hb1) hb2
 clear hb1 hb2 hr1 hs1 t1
 generalize w2.alloc (.cells #[F1 l1,F1 u1] 118)=w3 at *
 generalize w2.heap.size=g1 at *
 go_upto_region 3 with (go_at_call 141;refine (hr2 _ hs2 hkC).mono ?_;rintro _ w4⟨l2,u2,rfl,hR2,hb1⟩)
 have hb2:Below w4.heap.size w4 (w4.alloc (.cells #[F1 l2,F1 u2] 118)):=zt ..
 have hkept:=ze (keep (keep hkept hb1) hb2) (show zc [(⟨w4.heap.size,0,none⟩,F1 l2),(⟨w4.heap.size,1,none⟩,F1 u2)] [] (w4.alloc (.cells #[F1 l2,F1 u2] 118)) by simp only[zc,ka,kb,zb,kfa,kga];simp)
 have W1b:=za (za W1b hb1) hb2
 clear hb1 hb2 hr2 hs2 hkC
 generalize w4.alloc (.cells #[F1 l2,F1 u2] 118)=w5 at *
 generalize w4.heap.size=g2 at *
 have hL:lfS ns ms (cnb ((a,b,c),d,e,f))=((FloatKind.f32.format.order l1 0==some .gt) || (FloatKind.f32.format.order l2 0==some .gt)):=by
  have e1:gtk .f32 (zdz (j9 ns (rgB (cnb ((a,b,c),d,e,f)))) ns.length).1 0=(FloatKind.f32.format.order l1 0==some .gt):=by
   rw[show zdz (j9 ns (rgB (cnb ((a,b,c),d,e,f)))) ns.length=(cn .f32 l1,cn .f32 u1) from hR1.symm]
   unfold gtk
   rw[ua]
  have e2:gtk .f32 (zdz (j9 ms (rgB (cnb ((a,b,c),d,e,f)))) ms.length).1 0=(FloatKind.f32.format.order l2 0==some .gt):=by
   rw[show zdz (j9 ms (rgB (cnb ((a,b,c),d,e,f)))) ms.length=(cn .f32 l2,cn .f32 u2) from hR2.symm]
   unfold gtk
   rw[ua]
  unfold lfS
  rw[e1,e2]
 have hU2:=hL.symm.trans hU.out
 clear hL hR1 hR2 hU
 have hK:=hkept;simp only[zc,ka,kb,zb,kfa,kga]at hK
 cases h1:FloatKind.f32.format.order l1 0==some .gt<;>cases h2:FloatKind.f32.format.order l2 0==some .gt
 all_goals
  rw[h1,h2]at hU2
  simp only[Bool.or_false,Bool.or_true]at hU2
  subst hU2
  go_wp2_with fail
  go_ret
  exact⟨rfl,W1b⟩
theorem Mrk.refl (lo hi:Nat) (w:World):Mrk lo hi w w:=⟨zi _ _,fun _ _ _=>rfl⟩
theorem Mrk.trans {lo hi:Nat} {a b c:World} (h:Mrk lo hi a b) (k:Mrk lo hi b c):Mrk lo hi a c :=
 ⟨h.low.trans k.low,fun i h1 h2=>(k.high i h1 (Nat.lt_of_lt_of_le h2 h.low.size)).trans (h.high i h1 h2)⟩
theorem Mrk.bel {lo hi:Nat} {a b:World} (h:Below a.heap.size a b) (hl:lo≤a.heap.size):Mrk lo hi a b:=⟨h.mono hl,fun i _ h2=>h.block i h2⟩
theorem Mrk.set {lo hi g:Nat} (a:World) (hg:lo≤g∧g<hi) (i:Nat) (v:Value):Mrk lo hi a (a.setCell ⟨g,i,none⟩ v) :=
 ⟨(zi _ _).setCell (p:=⟨g,i,none⟩) hg.1 v,fun b h1 _=>by simp only[World.setCell,Array.getElem?_modify,if_neg (show ¬ g=b by omega)]⟩
theorem Mrk.cell {lo hi:Nat} {w w':World} (h:Mrk lo hi w w') {p:Addr} {v:Value} (hp:w.cell? p=some v) (hg:hi≤p.block):w'.cell? p=some v:=by
 have hlt:p.block<w.heap.size:=zg (by rw[hp];rfl)
 unfold World.cell? at hp ⊢
 rw[h.high _ hg hlt]
 exact hp
theorem BoxAt.mrk {lo hi g p:Nat} {b:Bx} {w w':World} (h:BoxAt g p b w) (hm:Mrk lo hi w w') (hg:hi≤g):BoxAt g p b w':=fun j u hu=>hm.cell (h j u hu) hg
theorem zpe {w:World} {lo n:Nat} {v:Value} {bs:List Bx} (h:w.ownsRow lo 40 6 v n (fb bs)) (hn:n=bs.length):∃ p g cap,v=.slice p bs.length cap∧(bs ≠ []→p=some ⟨g,0,none⟩)∧lo≤g∧BxsIn bs g 0 w:=by
 rcases znc h with⟨rfl,h0⟩|⟨g,cap,rfl,hg,_⟩
 ·subst hn
  exact⟨none,lo,0,by rw[h0],fun hne=>absurd (List.length_eq_zero_iff.1 h0) hne,Nat.le_refl _,fun i hi=>by omega⟩
 ·obtain⟨p',g',cap',h1,h2,h3⟩:=zc3 h hn
  injection h1 with e1 e2 e3
  subst hn
  by_cases hne:bs=[]
  ·subst hne
   exact⟨some ⟨g,0,none⟩,g,cap,rfl,fun h=>absurd rfl h,hg,fun i hi=>by simp at hi⟩
  ·have:=h2 hne
   rw[← e1]at this
   injection this with this
   injection this with this
   subst this
   exact⟨_,g,cap,rfl,fun _=>rfl,hg,h3⟩
theorem Mrk.grown {lo hi base:Nat} {wo W w':World} {e:TypeId} {size m:Nat} {v:Value} {xs:List Value} (h:Mrk lo hi wo W) (hown:W.ownsRow base e size v m xs) (hg:W.grownBy w' v.ownBlock) (hl:lo≤base) (hb:wo.heap.size≤base) (hs:lo≤wo.heap.size):Mrk lo hi wo w' :=
 ⟨h.low.grown hg (Nat.le_trans hs h.low.size) (fun k hk=>by have:=(hown.lt k hk).1;omega),fun b _ h2=>(hg.block b (Nat.lt_of_lt_of_le h2 h.low.size) (fun e=>by have:=(hown.lt b e.symm).1;omega)).trans (h.high b ‹_› h2)⟩
theorem zyz {B:Nat} {w W:World} (h:Below B w W) {g:Nat} (hg:B≤g) (x0 x1 x2 x3:Value):Below B w ((((W.setCell ⟨g,0,none⟩ x0).setCell ⟨g,2,none⟩ x1).setCell ⟨g,3,none⟩ x2).setCell ⟨g,4,none⟩ x3) :=
 (((h.setCell (p:=⟨g,0,none⟩) hg x0).setCell (p:=⟨g,2,none⟩) hg x1).setCell (p:=⟨g,3,none⟩) hg x2).setCell (p:=⟨g,4,none⟩) hg x3
def TcAt (ob:Nat) (n:Int) (w:World):Prop:=zc [(⟨ob,0,none⟩,.int .i64 0),(⟨ob,1,none⟩,.int .i64 n),(⟨ob,2,none⟩,F1 0),(⟨ob,3,none⟩,F1 0),(⟨ob,4,none⟩,F1 0)] [⟨ob,0,none⟩,⟨ob,1,none⟩,⟨ob,2,none⟩,⟨ob,3,none⟩,⟨ob,4,none⟩] w
theorem TcAt.keep {ob:Nat} {n:Int} {w w':World} (h:TcAt ob n w) (hb:Below w.heap.size w w'):TcAt ob n w':=Go.Fl.keep h hb
theorem TcAt.next {ob:Nat} {n:Int} {w:World} (h:TcAt ob n w) (n':Int):TcAt ob n' (w.setCell ⟨ob,1,none⟩ (.int .i64 n')):=by
 unfold TcAt at h ⊢
 simp only[zc,ka,kb,zb,kfa,kga]at h
 obtain⟨⟨h0,h1,h2,h3,h4⟩,⟨a0,b0⟩,⟨a1,b1⟩,⟨a2,b2⟩,⟨a3,b3⟩,a4,b4⟩:=h
 have o:∀ i v,i ≠ 1→w.cell? ⟨ob,i,none⟩=some v→(w.setCell ⟨ob,1,none⟩ (.int .i64 n')).cell? ⟨ob,i,none⟩=some v:=fun i v hi hv=>(zf (w:=w) (a:=⟨ob,1,none⟩) (b:=⟨ob,i,none⟩) (v:=.int .i64 n') (by intro e;injection e with e1 e2;exact hi e2.symm)).trans hv
 have s:(w.setCell ⟨ob,1,none⟩ (.int .i64 n')).cell? ⟨ob,1,none⟩=some (.int .i64 n'):=World.cell?_setCell_same w _ _ h1
 have c0:=o 0 _ (by decide) h0
 have c2:=o 2 _ (by decide) h2
 have c3:=o 3 _ (by decide) h3
 have c4:=o 4 _ (by decide) h4
 simp only[zc,ka,kb,zb,kfa,kga]
 simp only[yk,s,c0,c2,c3,c4,b0,b1,b2,b3,b4]
 simp

theorem TcAt.grown {ob base:Nat} {n:Int} {W w':World} {e:TypeId} {size m:Nat} {v:Value} {xs:List Value} (h:TcAt ob n W) (hown:W.ownsRow base e size v m xs) (hg:W.grownBy w' v.ownBlock) (hb:ob<base):TcAt ob n w':=by
 have hlt:ob<W.heap.size:=zg (a:=⟨ob,0,none⟩) (by have:=h;unfold TcAt zc at this;simp only[List.forall_mem_cons]at this;simp[this])
 have he:w'.heap[ob]? = W.heap[ob]?:=hg.block ob hlt (fun e=>by have:=(hown.lt ob e.symm).1;omega)
 unfold TcAt at h ⊢
 have hc:∀ i,w'.cell? ⟨ob,i,none⟩=W.cell? ⟨ob,i,none⟩:=fun i=>World.cell?_of_block he
 have hf:∀ i,w'.frozen? ⟨ob,i,none⟩=W.frozen? ⟨ob,i,none⟩:=fun i=>World.frozen?_of_block he
 simp only[zc,ka,kb,zb,kfa,kga]at h
 simp only[zc,ka,kb,zb,kfa,kga]
 simp only[hc,hf]
 exact h


set_option maxRecDepth 100000 in
theorem zm4 (ns ms:List PN) (hokn:qx ns) (hokm:qx ms) (hl:1≤ns.length∧ns.length≤16) (hm:1≤ms.length∧ms.length≤16) (nb no cap mb mo cap2 a b c d e f:Nat) (N:Nat) (hN:N≤6) (w:World) (hsh:∀ i (h:i<ns.length),NodeIn ns[i] nb (no+i*4) w) (hsh2:∀ i (h:i<ms.length),NodeIn ms[i] mb (mo+i*4) w)
  (hbx:zaq (cn .f32 a,cn .f32 b,cn .f32 c) (cn .f32 d,cn .f32 e,cn .f32 f)=true)
  (hv1:∀ sb w',w'.cell? ⟨sb,0,none⟩=some (.slice (some ⟨nb,no,none⟩) ns.length cap)→Below w.heap.size w w'→Calls Tryz.prog 60 #[.pointer (some ⟨sb,0,none⟩)] w' (fun e w''=>e=.returned (.bool true)∧Below w'.heap.size w' w''))
  (hv2:∀ sb w',w'.cell? ⟨sb,0,none⟩=some (.slice (some ⟨mb,mo,none⟩) ms.length cap2)→Below w.heap.size w w'→Calls Tryz.prog 60 #[.pointer (some ⟨sb,0,none⟩)] w' (fun e w''=>e=.returned (.bool true)∧Below w'.heap.size w' w'')) :
  Calls Tryz.prog 28 #[.agg #[.slice (some ⟨nb,no,none⟩) ns.length cap],.agg #[.slice (some ⟨mb,mo,none⟩) ms.length cap2],ug a b c d e f,.int .i64 (N:Int)] w (zd7 (kqc vh (lfS ns ms) (zcs ns ms) N [cnB a b c d e f] 0) w):=by
 obtain⟨R,hR⟩:∃ R,Hid (R=kqc vh (lfS ns ms) (zcs ns ms) N [cnB a b c d e f] 0):=⟨_,rfl⟩
 rw[← hR.out]
 have t1:True:=trivial
 have hin:(decide (0≤(N:Int)) && decide ((N:Int)≤6))=true:=by simp;omega
 go_enter Tryz.func28,Tryz.ntmps28
 go_upto_region 1 with fail
 generalize hW:(((w.alloc (.cells #[.slice (some ⟨nb,no,none⟩) ns.length cap] 36)).alloc (.cells #[.slice (some ⟨mb,mo,none⟩) ms.length cap2] 36)).alloc (.cells #[F1 a,F1 b,F1 c,F1 d,F1 e,F1 f] 40)).alloc (.cells #[.int .i64 0,.int .i64 0,F1 0,F1 0,F1 0] 54)=W1 at *
 have W1b:Below w.heap.size w W1:=by subst hW;exact zgn ..
 have hkept:=zei false false false true hW;simp only[zr,zq,zo,zv,Nat.reduceAdd]at hkept;clear hW
 have hK:=hkept;simp only[zc,ka,kb,zb,kfa,kga]at hK
 go_upto_region 3 with (first|(clear t1;go_at_call 60;refine (hv1 _ _ (by simp[hK]) W1b).mono ?_;rintro _ w2⟨rfl,hb1⟩;have W1b:=za W1b hb1;have hkept:=zn hkept hb1 rfl;replace hK:=hkept;simp only[zc,ka,kb,zb,kfa,kga]at hK)|(go_at_call 60;refine (hv2 _ _ (by simp[hK]) W1b).mono ?_;rintro _ w3⟨rfl,hb1⟩;have W1b:=za W1b hb1;have hkept:=zn hkept hb1 rfl;replace hK:=hkept;simp only[zc,ka,kb,zb,kfa,kga]at hK)|(go_at_call 61;refine (qi a b c d e f _ _ _ (by simp only[zc,ka,kb,zb,kfa,kga];simp[hK])).mono ?_;rintro _ w4⟨rfl,hb1⟩;have W1b:=za W1b hb1;have hkept:=zn hkept hb1 rfl;replace hK:=hkept;simp only[zc,ka,kb,zb,kfa,kga]at hK;rw[hbx])|(go_at_call 71;refine (kz _ _ _ _).mono ?_;rintro _ w5⟨rfl,rfl⟩;rw[hin]))
 have hs1:ShapeIn ns w.heap.size 0 nb no cap w4:=⟨by simp[hK],fun i h=>(hsh i h).keep W1b⟩
 have hs2:ShapeIn ms (w.heap.size+1) 0 mb mo cap2 w4:=⟨by simp[hK],fun i h=>(hsh2 i h).keep W1b⟩
 clear hsh hsh2 hv1 hv2 hin hb1
 have h4s:=W1b.size
 have hrs:w.heap.size+1+1+1<w4.heap.size:=zg (a:=⟨w.heap.size+1+1+1,0,none⟩) (by simp[hK])
 go_upto_region 4 with fail
 have hbA:Below w4.heap.size w4 (w4.alloc (.cells #[.int .i64 0,.int .i64 0,F1 0,F1 0,F1 0] 54)):=zt ..
 have hTc:TcAt w4.heap.size 0 (w4.alloc (.cells #[.int .i64 0,.int .i64 0,F1 0,F1 0,F1 0] 54)):=by unfold TcAt;simp only[zc,ka,kb,zb,kfa,kga];(first|(go_simp;done)|(simp[World.cell?,World.frozen?,World.alloc,Array.getElem?_push];done))
 have hkC:=Lib.hid hkept
 have hkept:=keep hkept hbA
 have hAs:(w4.alloc (.cells #[.int .i64 0,.int .i64 0,F1 0,F1 0,F1 0] 54)).heap.size=w4.heap.size+1:=by simp
 obtain⟨ob,hob⟩:∃ ob,Hid (ob=w4.heap.size):=⟨_,rfl⟩
 generalize w4.alloc (.cells #[.int .i64 0,.int .i64 0,F1 0,F1 0,F1 0] 54)=wA at *
 rw[← hob.out]at hTc hAs hrs h4s
 rw[← hob.out]
 clear hK
 have hK:=hkept;simp only[zc,ka,kb,zb,kfa,kga]at hK
 have hBA:∀ w',Mrk ob (ob+1) wA w'→Below w4.heap.size w4 w':=fun w' h=>hbA.trans (by rw[← hob.out];exact h.low)
 clear hbA
 go_wp2_with fail
 go_loopw [11,12] (fun v i wr=>∃ (k:Nat) (bs:List Bx) (n:Int),k≤N∧i=.int .i64 (k:Int)∧0≤n∧n≤64*(k:Int)∧wA.heap.size≤wr.heap.size∧wr.ownsRow wA.heap.size 40 6 v bs.length (fb bs)∧bs.length≤2 ^ k∧(∀ x∈bs,xn (cnb x)=true)∧R=kqc vh (lfS ns ms) (zcs ns ms) (N-k) (bs.map cnb) n∧Mrk ob (ob+1) wA wr∧TcAt ob n wr) (fun _ i _=>N+1-(intOf i).toNat)
 case atStart=>exact⟨0,[((a,b,c),d,e,f)],0,by omega,rfl,by omega,by omega,by simp,(by rw[← hAs];exact World.ownsRow_lit wA #[F1 a,F1 b,F1 c,F1 d,F1 e,F1 f] 1 (Nat.le_refl _) (by unfold maxLen;omega) rfl),by simp,(fun x hx=>by simp at hx;subst hx;exact hbx),hR.out,Mrk.bel (zt ..) (by omega),hTc.keep (zt ..)⟩
 case round =>
  obtain⟨k,bs,n,hk,rfl,hn0,hn1,hsz,hown,hbl,hbk,hRk,Wm,hTk⟩:=hrel
  obtain⟨p,g,cp,rfl,hpg,hgl,hBx⟩:=zpe hown rfl
  have hk0:(0:Int)≤(k:Int):=by omega
  have hpos:(0:Int)≤(bs.length:Int):=by omega
  have h2k:2 ^ k≤2 ^ 6:=Nat.pow_le_pow_right (by decide) (by omega)
  have h64:bs.length≤64:=by omega
  obtain⟨S,hS⟩:∃ S,Hid (uh (lfS ns ms) (zcs ns ms) (bs.map cnb) n []=S):=⟨_,rfl⟩
  have hSl:∀ x∈S.2.2,xn x=true:=by
   rw[← hS.out]
   refine zat _ _ _ (fun x hx=>?_) (fun x hx=>by cases hx)
   obtain⟨y,hy,rfl⟩:=List.mem_map.1 hx
   exact hbk y hy
  rename World=>wo
  clear hK hown hTc
  go_wp2_with fail
  go_loopw [13,14] (fun v i wr=>∃ (m:Nat) (out:List Bx) (n':Int),m≤bs.length∧i=.int .i64 (m:Int)∧0≤n'∧n'≤n+(m:Int)∧wo.heap.size≤wr.heap.size∧wr.ownsRow wo.heap.size 40 6 v out.length (fb out)∧out.length≤m∧uh (lfS ns ms) (zcs ns ms) ((bs.drop m).map cnb) n' (out.map cnb)=S∧Mrk ob (ob+1) wo wr∧TcAt ob n' wr) (fun _ i _=>bs.length-(intOf i).toNat)
  case atStart=>exact⟨0,[],n,by omega,rfl,hn0,by omega,by simp,World.ownsRow_lit wo #[] 0 (Nat.le_refl _) (by unfold maxLen;omega) rfl,by simp,hS.out,Mrk.bel (zt ..) (by omega),hTk.keep (zt ..)⟩
  case round =>
   obtain⟨m,out,n',hm',rfl,hn'0,hn'1,hsz2,hown2,hol,hsc,Wm2,hT2⟩:=hrel
   clear hTk
   by_cases hlt:m<bs.length
   ·have hlt':(m:Int)<(bs.length:Int):=by omega
    have h0:(0:Int)≤(m:Int):=by omega
    have hpe:=hpg (by intro h;rw[h]at hlt;simp at hlt)
    subst hpe
    rw[List.drop_eq_getElem_cons hlt,List.map_cons]at hsc
    obtain⟨⟨⟨a,b,c⟩,d,e,f⟩,hbx2⟩:∃ x,x=bs[m]:=⟨_,rfl⟩
    rw[← hbx2]at hsc
    have hscH:=Lib.hid hsc
    have hbo:BoxAt g (m*6) ((a,b,c),d,e,f) wo:=by have:=hBx m hlt;rw[← hbx2,Nat.zero_add]at this;exact this
    have hkept:zc _ _ wr:=hT2
    clear hsc hBx hpg
    have hK:=hkept;simp only[zc,ka,kb,zb,kfa,kga]at hK
    go_upto_region 12 with fail
    have hT9:=hT2.next (n'+1)
    have Wm9:=Wm2.trans (Mrk.set (lo:=ob) (hi:=ob+1) (g:=ob) wr ⟨Nat.le_refl _,Nat.lt_succ_self _⟩ 1 (.int .i64 (n'+1)))
    have hown9:=zvp hown2 (Mrk.set (lo:=ob) (hi:=ob+1) (g:=ob) wr ⟨Nat.le_refl _,Nat.lt_succ_self _⟩ 1 (.int .i64 (n'+1))) (by omega)
    have hsz9:wo.heap.size≤(wr.setCell ⟨ob,1,none⟩ (.int .i64 (n'+1))).heap.size:=Wm9.low.size
    clear hT2 hown2 hkept hK
    generalize wr.setCell ⟨ob,1,none⟩ (.int .i64 (n'+1))=w9 at *
    have hb9:=hbo.mrk Wm9 (by omega)
    have hB9:=hBA _ (Wm.trans Wm9)
    have hsh1:=hs1.keep hB9
    have hsh2:=hs2.keep hB9
    have hlfc:=zpv ns ms hokn hokm hl hm w.heap.size (w.heap.size+1) nb no cap mb mo cap2 g (m*6) a b c d e f w9 hsh1 hsh2 hb9
    obtain⟨lf,hlf⟩:∃ lf,lfS ns ms (cnb ((a,b,c),d,e,f))=lf:=⟨_,rfl⟩
    rw[hlf]at hlfc
    cases lf
    ·go_upto_region 13 with (go_at_call 78;refine hlfc.mono ?_;rintro _ w10⟨rfl,hb1⟩;have Wm9:=Wm9.trans (Mrk.bel hb1 (by omega));have hown9:=yg hown9 hb1;have hT9:=hT9.keep hb1;have hb9:=hb9.keep hb1;have hsz9:=Nat.le_trans hsz9 hb1.size)
     clear hlfc
     go_upto_region 14 with (go_at_call 79;refine (zjh g (m*6) a b c d e f _ hb9).mono ?_;rintro _ w12⟨x,y,z,rfl,hx,hy,hz,hb1⟩;have Wm9:=Wm9.trans (Mrk.bel hb1 (by omega));have hown9:=yg hown9 hb1;have hT9:=hT9.keep hb1;have hb9:=hb9.keep hb1;have hsz9:=Nat.le_trans hsz9 hb1.size)
     have hb2:Below w12.heap.size w12 (w12.alloc (.cells #[F1 x,F1 y,F1 z] 38)):=zt ..
     have Wm13:=Wm9.trans (Mrk.bel hb2 (by omega))
     have hown13:=yg hown9 hb2
     have hT13:=hT9.keep hb2
     have hb13:=hb9.keep hb2
     have hsz13:=Nat.le_trans hsz9 hb2.size
     have hB13:=hBA _ (Wm.trans Wm13)
     have hsh1:=hs1.keep hB13
     have hsh2:=hs2.keep hB13
     have hkept:=ze (keep hkC.out hB13) (ze (show zc _ _ _ from hT13) (ze hb13.kept (show zc [(⟨w12.heap.size,0,none⟩,F1 x),(⟨w12.heap.size,1,none⟩,F1 y),(⟨w12.heap.size,2,none⟩,F1 z)] [] (w12.alloc (.cells #[F1 x,F1 y,F1 z] 38)) by simp only[zc,ka,kb,zb,kfa,kga];simp)))
     have hhit:zcs ns ms (cnb ((a,b,c),d,e,f))=(lek .f32 (atS ns (cn .f32 x,cn .f32 y,cn .f32 z)) 0 && lek .f32 (atS ms (cn .f32 x,cn .f32 y,cn .f32 z)) 0):=by
      unfold zcs
      rw[show qy (cnb ((a,b,c),d,e,f))=(cn .f32 x,cn .f32 y,cn .f32 z) by rw[hx,hy,hz]]
     have hmid:(cn .f32 x,cn .f32 y,cn .f32 z)=qy (cnb ((a,b,c),d,e,f)):=by rw[hx,hy,hz]
     have hne3:ob ≠ w12.heap.size:=by omega
     have hne4:w12.heap.size ≠ ob:=by omega
     clear Wm9 hown9 hb9 hT9 hsz9 hb1 hb2 hx hy hz hB9 hbo
     generalize w12.alloc (.cells #[F1 x,F1 y,F1 z] 38)=w13 at *
     have hat1:∀ w',ShapeIn ns w.heap.size 0 nb no cap w'→Calls Tryz.prog 80 #[.pointer (some ⟨w.heap.size,0,none⟩),V3 x y z] w' (Ret .f32 (atS ns (cn .f32 x,cn .f32 y,cn .f32 z)) w'):=fun w' h=>zmm ns hokn hl w.heap.size 0 nb no cap x y z w' h
     have hat2:∀ w',ShapeIn ms (w.heap.size+1) 0 mb mo cap2 w'→Calls Tryz.prog 80 #[.pointer (some ⟨w.heap.size+1,0,none⟩),V3 x y z] w' (Ret .f32 (atS ms (cn .f32 x,cn .f32 y,cn .f32 z)) w'):=fun w' h=>zmm ms hokm hm (w.heap.size+1) 0 mb mo cap2 x y z w' h
     have r3:True:=trivial
     generalize atS ns (cn .f32 x,cn .f32 y,cn .f32 z)=D1 at *
     generalize atS ms (cn .f32 x,cn .f32 y,cn .f32 z)=D2 at *
     have hne1:ob ≠ w.heap.size+1+1+1:=by omega
     have hne2:w.heap.size+1+1+1 ≠ ob:=by omega
     have hK:=hkept;simp only[zc,ka,kb,zb,kfa,kga]at hK
     go_wp2_with (first
      | (clear r3;go_at_call 80;refine (hat1 _ hsh1).mono ?_;rintro _ w14⟨rA,rfl,hrA,hb1⟩;have Wm13:=Wm13.trans (Mrk.bel hb1 (by omega));have hown13:=yg hown13 hb1;have hsz13:=Nat.le_trans hsz13 hb1.size;have hT13:=hT13.keep hb1;have hsh2:=hsh2.keep hb1;have hkept:=zn hkept hb1 rfl;replace hK:=hkept;simp only[zc,ka,kb,zb,kfa,kga]at hK)
      | (go_at_call 80;refine (hat2 _ hsh2).mono ?_;rintro _ w15⟨rB,rfl,hrB,hb1⟩;have Wm13:=Wm13.trans (Mrk.bel hb1 (by omega));have hown13:=yg hown13 hb1;have hsz13:=Nat.le_trans hsz13 hb1.size;have hT13:=hT13.keep hb1;have hkept:=zn hkept hb1 rfl;replace hK:=hkept;simp only[zc,ka,kb,zb,kfa,kga]at hK)
      | (at_builtin;refine zp6 wo.heap.size rfl (.tmp 70) (.tmp 75) rfl _ _ out rfl (hown13.alloc _) _ 1 ((a,b,c),d,e,f) rfl (zbu rfl ((a,b,c),d,e,f) _) (by omega) (by simp;omega) ?_;intro v5 w16 hown16 hg16))
     ·rename_i hh
      have hx1:lek .f32 D1 0=true:=by rw[← hrA,za0 (ye _),Bool.or_eq_true];exact hh.1
      have hx2:lek .f32 D2 0=true:=by rw[← hrB,za0 (ye _),Bool.or_eq_true];exact hh.2
      have hSe:S=(n'+1,some (cnb ((a,b,c),d,e,f)),out.map cnb):=by
       rw[← hscH.out,uh,hlf,if_neg (by simp),hhit,hx1,hx2,if_pos (by simp)]
      have hRf:R=some (1,n'+1,(cn .f32 x,cn .f32 y,cn .f32 z)):=by rw[hRk,zdc,hS.out,hSe,zin,hmid]
      exact bodyPost_ret (v:=.tuple #[.agg #[.int .i64 1,.int .i64 (n'+1),F1 x,F1 y,F1 z],.bool true]) (by simp[results,Tryz.results28,go_sem,hK,zf,zh]) rfl (zai hRf rfl (zcx (zyz (za W1b (hBA _ (Wm.trans Wm13))) (by omega) _ _ _ _) (by omega) _ _ _ _ _))
     ·rename_i hh
      have hhf:zcs ns ms (cnb ((a,b,c),d,e,f))=false:=by
       rw[hhit,← hrA,← hrB,za0 (ye _),za0 (ye _)]
       rcases hh with⟨h1,h2⟩|⟨h1,h2⟩<;>rw[h1,h2]<;>simp
      have hnx:uh (lfS ns ms) (zcs ns ms) ((bs.drop (m+1)).map cnb) (n'+1) ((out++[((a,b,c),d,e,f)]).map cnb)=S:=by
       rw[← hscH.out,uh,hlf,if_neg (by simp),hhf,if_neg (by simp),List.map_append];rfl
      exact⟨⟨m+1,out++[((a,b,c),d,e,f)],n'+1,by omega,by simp,by omega,by omega,Nat.le_trans hsz13 (by have:=hg16.size;simp at this ⊢;omega),by simpa using hown16,by simp;omega,hnx,(Wm13.trans (Mrk.bel (zt ..) (by omega))).grown (hown13.alloc _) hg16 (by omega) (Nat.le_refl _) (by omega),(hT13.keep (zt ..)).grown (hown13.alloc _) hg16 (by omega)⟩,by simp[intOf];omega⟩
     ·rename_i hh
      have hhf:zcs ns ms (cnb ((a,b,c),d,e,f))=false:=by
       simp only[not_or]at hh
       rw[hhit,← hrA,za0 (ye _),beq_eq_false_iff_ne.2 hh.1,beq_eq_false_iff_ne.2 hh.2]
       simp
      have hnx:uh (lfS ns ms) (zcs ns ms) ((bs.drop (m+1)).map cnb) (n'+1) ((out++[((a,b,c),d,e,f)]).map cnb)=S:=by
       rw[← hscH.out,uh,hlf,if_neg (by simp),hhf,if_neg (by simp),List.map_append];rfl
      exact⟨⟨m+1,out++[((a,b,c),d,e,f)],n'+1,by omega,by simp,by omega,by omega,Nat.le_trans hsz13 (by have:=hg16.size;simp at this ⊢;omega),by simpa using hown16,by simp;omega,hnx,(Wm13.trans (Mrk.bel (zt ..) (by omega))).grown (hown13.alloc _) hg16 (by omega) (Nat.le_refl _) (by omega),(hT13.keep (zt ..)).grown (hown13.alloc _) hg16 (by omega)⟩,by simp[intOf];omega⟩
    ·go_wp2_with (go_at_call 78;refine hlfc.mono ?_;rintro _ w10⟨rfl,hb1⟩;have Wm9:=Wm9.trans (Mrk.bel hb1 (by omega));have hown9:=yg hown9 hb1;have hT9:=hT9.keep hb1)
     exact⟨⟨m+1,out,n'+1,by omega,by simp,by omega,by omega,Wm9.low.size,hown9,by omega,by have h:=hscH.out;rw[uh,hlf]at h;simpa using h,Wm9,hT9⟩,by simp[intOf];omega⟩
   ·obtain rfl:m=bs.length:=by omega
    rw[List.drop_length,List.map_nil,uh]at hsc
    have hRs:R=zfb (n',none,out.map cnb) (fun m l=>match N-k with
      | 0=>some (2,m,(0,0,0))
      | k+1=>if l.all (uy vh) then kqc vh (lfS ns ms) (zcs ns ms) k (jc vh l) m else none):=by rw[hRk,zdc,hS.out,← hsc]<;>rfl
    have hB2:=hBA _ (Wm.trans Wm2)
    have hkept:=ze (keep hkC.out hB2) (show zc _ _ _ from hT2)
    have W2b:=za W1b hB2
    have hsz3:wA.heap.size≤wr.heap.size:=Nat.le_trans hsz hsz2
    obtain⟨p2,g2,cp2,rfl,hpg2,hBx2⟩:=zc3 hown2 rfl
    have hposo:(0:Int)≤(out.length:Int):=by omega
    have hne1:ob ≠ w.heap.size+1+1+1:=by omega
    have hne2:w.heap.size+1+1+1 ≠ ob:=by omega
    have hSo:∀ x∈out.map cnb,xn x=true:=by rw[← hsc]at hSl;exact hSl
    clear hRk hS hSl hsc hown2 hBx hlt
    have hK:=hkept;simp only[zc,ka,kb,zb,kfa,kga]at hK
    by_cases hnil:out=[]
    ·subst hnil
     have hRf:R=some (0,n',(0,0,0)):=by rw[hRs];exact zmq
     clear hRs hBx2 hSo
     go_wp2_with fail
     exact bodyPost_ret (v:=.tuple #[.agg #[.int .i64 0,.int .i64 n',F1 0,F1 0,F1 0],.bool true]) (by simp[results,Tryz.results28,go_sem,hK,zf,zh]) rfl (zai hRf (by rw[ye]) (zcx (W2b.setCell (p:=⟨ob,0,none⟩) (by show w.heap.size≤ob;omega) _) (by omega) _ _ _ _ _))
    have hol0:((out.length:Int)==0)=false:=by
     rw[beq_eq_false_iff_ne]
     intro h
     exact hnil (List.length_eq_zero_iff.1 (by omega))
    rw[zqw (by simpa using hnil)]at hRs
    by_cases hkN:k=N
    ·subst hkN
     rw[Nat.sub_self]at hRs
     simp only at hRs
     have hRf:R=some (2,n',(0,0,0)):=hRs
     clear hBx2 hSo hRs
     go_wp2_with fail
     exact bodyPost_ret (v:=.tuple #[.agg #[.int .i64 2,.int .i64 n',F1 0,F1 0,F1 0],.bool true]) (by simp[results,Tryz.results28,go_sem,hK,zf,zh]) rfl (zai hRf (by rw[ye]) (zcx (W2b.setCell (p:=⟨ob,0,none⟩) (by show w.heap.size≤ob;omega) _) (by omega) _ _ _ _ _))
    have hkN':((k:Int)==(N:Int))=false:=by rw[beq_eq_false_iff_ne];omega
    rw[show N-k=(N-k-1)+1 by omega]at hRs
    simp only at hRs
    have hspl:=zkk out g2 0 cp2 p2 wr hpg2 hBx2 (by omega)
    have hall:(out.all fun b=>uy vh (cnb b))=(out.map cnb).all (uy vh):=by rw[List.all_map];rfl
    rw[hall]at hspl
    have hRsH:=Lib.hid hRs
    clear hRs hBx2 hpg2
    cases hab:(out.map cnb).all (uy vh)
    ·have hno:R=none:=by rw[hRsH.out,hab];rfl
     rw[hab]at hspl
     go_wp2_with (go_at_call 81;refine hspl.mono ?_;rintro _ w20⟨v20,bs2,rfl,hx20,hb1⟩;have W2b:=za W2b hb1;have hkept:=zn hkept hb1 rfl;replace hK:=hkept;simp only[zc,ka,kb,zb,kfa,kga]at hK)
     exact bodyPost_ret (v:=.tuple #[.agg #[.int .i64 0,.int .i64 0,F1 0,F1 0,F1 0],.bool false]) (by simp[results,Tryz.results28,go_sem,hK,zf,zh]) rfl (j7 hno (zcx W2b (by omega) _ _ _ _ _))
    ·rw[hab]at hspl
     have hRn:R=kqc vh (lfS ns ms) (zcs ns ms) (N-k-1) (jc vh (out.map cnb)) n':=by rw[hRsH.out,hab];rfl
     have hRnH:=Lib.hid hRn
     clear hRn hRsH
     go_wp2_with (go_at_call 81;refine hspl.mono ?_;rintro _ w20⟨v20,bs2,rfl,hx20,hb1⟩;have Wm20:=Wm.trans (Wm2.trans (Mrk.bel hb1 (by omega)));have hT20:=hT2.keep hb1;replace hx20:=Lib.hid (hx20 rfl);have h20s:=hb1.size)
     obtain⟨ho20,hm20⟩:=hx20.out
     have hbl2:bs2.length=2*out.length:=by
      have:=congrArg List.length hm20
      rw[zdm,List.length_map,List.length_map]at this
      exact this
     refine⟨⟨k+1,bs2,n',by omega,by simp,by omega,by omega,Nat.le_trans hsz3 h20s,znr ho20 hsz3,by rw[Nat.pow_succ];omega,?_,?_,Wm20,hT20⟩,by simp[intOf];omega⟩
     ·intro x hx
      exact zeu (l:=out.map cnb) hab (cnb x) (by rw[← hm20];exact List.mem_map_of_mem hx)
     ·rw[hRnH.out,hm20,show N-(k+1)=N-k-1 by omega]
theorem zha {v1 v2:Bool} {b:Bx} {s:Int} (h:jp v1 v2 b s=true):v1=true∧v2=true∧xn b=true∧0≤s∧s≤6:=by
 unfold jp at h
 simp only[Bool.and_eq_true,decide_eq_true_eq]at h
 exact⟨h.1.1.1,h.1.1.2,h.1.2,h.2.1,h.2.2⟩
theorem zsd (ns ms:List PN) (hnum:∀ n∈ns,n.nums.length<10000000) (hnum2:∀ n∈ms,n.nums.length<10000000) (nb no cap mb mo cap2 a b c d e f:Nat) (s:Int) (bp bp2:Option Addr) (w:World) (hbp:ns ≠ []→bp=some ⟨nb,no,none⟩) (hbp2:ms ≠ []→bp2=some ⟨mb,mo,none⟩) (hsh:∀ i (h:i<ns.length),NodeIn ns[i] nb (no+i*4) w) (hsh2:∀ i (h:i<ms.length),NodeIn ms[i] mb (mo+i*4) w) (hlen:ns.length<10000000) (hlen2:ms.length<10000000) :
  Calls Tryz.prog 29 #[.agg #[.slice bp ns.length cap],.agg #[.slice bp2 ms.length cap2],ug a b c d e f,.int .i64 s] w (zd7 (if jp (xd ns) (xd ms) (cnB a b c d e f) s then kqc xk (lfF ns ms) (zcc ns ms) s.toNat [cnB a b c d e f] 0 else none) w):=by
 have hv1:∀ w',Below w.heap.size w w'→_:=fun w' hb=>zij ns hnum nb no cap bp w' hbp (fun i h=>(hsh i h).keep hb) hlen
 have hv2:∀ w',Below w.heap.size w w'→_:=fun w' hb=>zij ms hnum2 mb mo cap2 bp2 w' hbp2 (fun i h=>(hsh2 i h).keep hb) hlen2
 cases hok:jp (xd ns) (xd ms) (cnB a b c d e f) s
 ·exact ztr ns ms cap cap2 a b c d e f s bp bp2 w hok hv1 hv2
 ·obtain⟨h1,h2,h3,h4,h5⟩:=zha hok
  obtain⟨hl,hokn⟩:=zcf h1
  obtain⟨hm,hokm⟩:=zcf h2
  have e1:=hbp (by intro h;rw[h]at hl;simp at hl)
  have e2:=hbp2 (by intro h;rw[h]at hm;simp at hm)
  subst e1;subst e2
  rw[h1]at hv1
  rw[h2]at hv2
  obtain⟨N,rfl⟩:=Int.eq_ofNat_of_zero_le h4
  exact zsu ns ms hokn hokm ⟨hl.1,by omega⟩ ⟨hm.1,by omega⟩ nb no cap mb mo cap2 a b c d e f N (by omega) w hsh hsh2 h3 hv1 hv2
theorem zlm (ns ms:List PN) (hnum:∀ n∈ns,n.nums.length<10000000) (hnum2:∀ n∈ms,n.nums.length<10000000) (nb no cap mb mo cap2 a b c d e f:Nat) (s:Int) (bp bp2:Option Addr) (w:World) (hbp:ns ≠ []→bp=some ⟨nb,no,none⟩) (hbp2:ms ≠ []→bp2=some ⟨mb,mo,none⟩) (hsh:∀ i (h:i<ns.length),NodeIn ns[i] nb (no+i*4) w) (hsh2:∀ i (h:i<ms.length),NodeIn ms[i] mb (mo+i*4) w) (hlen:ns.length<10000000) (hlen2:ms.length<10000000) (hvok:v6 ns=true→qx ns) (hvok2:v6 ms=true→qx ms) :
  Calls Tryz.prog 28 #[.agg #[.slice bp ns.length cap],.agg #[.slice bp2 ms.length cap2],ug a b c d e f,.int .i64 s] w (zd7 (if jp (v6 ns) (v6 ms) (cnB a b c d e f) s then kqc vh (lfS ns ms) (zcs ns ms) s.toNat [cnB a b c d e f] 0 else none) w):=by
 have hv1:∀ sb w',w'.cell? ⟨sb,0,none⟩=some (.slice bp ns.length cap)→Below w.heap.size w w'→_:=fun sb w' hc hb=>zmk ns hnum sb 0 nb no cap bp w' hc hbp (fun i h=>(hsh i h).keep hb) hlen
 have hv2:∀ sb w',w'.cell? ⟨sb,0,none⟩=some (.slice bp2 ms.length cap2)→Below w.heap.size w w'→_:=fun sb w' hc hb=>zmk ms hnum2 sb 0 mb mo cap2 bp2 w' hc hbp2 (fun i h=>(hsh2 i h).keep hb) hlen2
 cases hok:jp (v6 ns) (v6 ms) (cnB a b c d e f) s
 ·exact zoq ns ms cap cap2 a b c d e f s bp bp2 w hok hv1 hv2
 ·obtain⟨h1,h2,h3,h4,h5⟩:=zha hok
  have hl:1≤ns.length∧ns.length≤16:=by
   have:=h1
   simp only[v6,Bool.and_eq_true,decide_eq_true_eq]at this
   exact this.1
  have hm:1≤ms.length∧ms.length≤16:=by
   have:=h2
   simp only[v6,Bool.and_eq_true,decide_eq_true_eq]at this
   exact this.1
  have e1:=hbp (by intro h;rw[h]at hl;simp at hl)
  have e2:=hbp2 (by intro h;rw[h]at hm;simp at hm)
  subst e1;subst e2
  rw[h1]at hv1
  rw[h2]at hv2
  obtain⟨N,rfl⟩:=Int.eq_ofNat_of_zero_le h4
  exact zm4 ns ms (hvok h1) (hvok2 h2) hl hm nb no cap mb mo cap2 a b c d e f N (by omega) w hsh hsh2 h3 hv1 hv2

theorem zv2 {ns ms:List PN} (hv:xd ns=true) (hv2:xd ms=true) (b:Bx) (hb:xn b=true):lfF ns ms b=lfS ns ms b:=by
 unfold xn zaq at hb
 simp only[Bool.and_eq_true]at hb
 obtain⟨⟨⟨⟨_,_⟩,h1⟩,h2⟩,h3⟩:=hb
 have e1:=ze2 (zif hv) (p:=rgB b) ⟨zc6 h1,zc6 h2,zc6 h3⟩
 have e2:=ze2 (zif hv2) (p:=rgB b) ⟨zc6 h1,zc6 h2,zc6 h3⟩
 unfold lfF lfS
 rw[e1,e2]
theorem zvi {x y:Nat} (h:Zw .f32 x y):lek .f32 x 0=lek .f32 y 0:=by
 unfold lek
 rw[Zw.order h (Zw.refl _ 0)]
theorem zuo {ns ms:List PN} (hv:xd ns=true) (hv2:xd ms=true) (b:Bx):zcc ns ms b=zcs ns ms b:=by
 unfold zcc zcs
 rw[zvi (zmh (zq2 hv) (qy b)),zvi (zmh (zq2 hv2) (qy b))]
theorem zwb (ns ms:List PN) (b:Bx) (s:Int):(if jp (xd ns) (xd ms) b s then kqc vh (lfS ns ms) (zcs ns ms) s.toNat [b] 0 else none)=(if jp (xd ns) (xd ms) b s then kqc xk (lfF ns ms) (zcc ns ms) s.toNat [b] 0 else none):=by
 cases h:jp (xd ns) (xd ms) b s
 ·rw[if_neg (by simp),if_neg (by simp)]
 ·obtain⟨h1,h2,h3,_,_⟩:=zha h
  rw[if_pos rfl,if_pos rfl]
  exact (zn6 (fun x hx=>⟨zv2 h1 h2 x hx,zuo h1 h2 x⟩) s.toNat [b] 0 (fun x hx=>by simp only[List.mem_singleton]at hx;subst hx;exact h3)).symm

abbrev zkj (k n:Int) (x y z:Nat):Value:=.agg #[.int .i64 k,.int .i64 n,F1 x,F1 y,F1 z]
set_option maxRecDepth 100000 in
theorem zvj (k n:Int) (x y z x' y' z':Nat) (e1:cn .f32 x=cn .f32 x') (e2:cn .f32 y=cn .f32 y') (e3:cn .f32 z=cn .f32 z') (w:World) :
  Calls Tryz.prog 30 #[zkj k n x y z,zkj k n x' y' z'] w (fun e w'=>e=.returned (.bool true)∧Below w.heap.size w w'):=by
 go_enter Tryz.func30,Tryz.ntmps30
 go_upto_region 1 with fail
 generalize hW:(w.alloc (.cells #[.int .i64 k,.int .i64 n,F1 x,F1 y,F1 z] 54)).alloc (.cells #[.int .i64 k,.int .i64 n,F1 x',F1 y',F1 z'] 54)=W1 at *
 have W1b:Below w.heap.size w W1:=by subst hW;exact xa ..
 have hkept:=yt false false hW;simp only[zr,zq,zo,zv,Nat.reduceAdd]at hkept;clear hW
 have hK:=hkept;simp only[zc,ka,kb,zb,kfa,kga]at hK
 go_wp2_with (go_at_call 86;refine (zr6 x y z x' y' z' e1 e2 e3 _).mono ?_;rintro _ w5⟨rfl,hb1⟩;have W1b:=za W1b hb1)
 go_ret
 exact⟨rfl,W1b⟩

def Sh2 (ms:List PN) (s2 d:Tmp) (v:Value) (w:World):Prop:=d=s2→∀ G,v=.agg #[.slice (some ⟨G,0,none⟩) ms.length ms.length]→∀ i (h:i<ms.length),NodeNew ms[i] G (0+i*4) w
def Gd2 (ns ms:List PN) (W:World) (sl:List Tmp) (s2:Tmp) (al:List (Tmp × Array Value × TypeId)) (rs:Tmp) (Res:Value→Prop) (d:Tmp) (v:Value) (w:World):Prop:=GdL ns W sl al rs Res d v w∧Sh2 ms s2 d v w
theorem zh7 (ns ms:List PN) (W:World) (sl:List Tmp) (s2:Tmp) (al:List (Tmp × Array Value × TypeId)) (rs:Tmp) (Res:Value→Prop):Qg.Lasts (Gd2 ns ms W sl s2 al rs Res) :=
 ⟨fun d v w w' h hb=>⟨(qk ns W sl al rs Res).1 d v w w' h.1 hb,fun hd G hv i hi=>(h.2 hd G hv i hi).keep hb⟩,fun d w=>⟨(qk ns W sl al rs Res).2 d w,fun _ G hv=>by cases hv⟩⟩
theorem zig {ns ms:List PN} {W:World} {sl ad:List Tmp} {s2:Tmp} {al:List (Tmp × Array Value × TypeId)} {rs:Tmp} {Res:Value→Prop} {a:Act} {w:World} (h:∀ d∈sl++ad++[rs],a.tmps.getD d undef=undef) (h2:a.tmps.getD s2 undef=undef) (ha:al.map (·.1)=ad):Qg.E (Gd2 ns ms W sl s2 al rs Res) ad a w:=by
 obtain⟨e1,e2,e3⟩:=ki (ns:=ns) (W:=W) (Res:=Res) (w:=w) h ha
 exact⟨fun d=>⟨e1 d,fun hd G hv=>by rw[hd,h2]at hv;cases hv⟩,e2,e3⟩
theorem zby {ns ms:List PN} {W:World} {sl:List Tmp} {s2:Tmp} {al:List (Tmp × Array Value × TypeId)} {rs:Tmp} {Res:Value→Prop} {d:Tmp} {v:Value} {w:World} (h:Qg.gd (GdL ns W sl al rs Res) (some d) v w) (h2:d ≠ s2):Qg.gd (Gd2 ns ms W sl s2 al rs Res) (some d) v w:=⟨h,fun e=>absurd e h2⟩
theorem zpt {ns ms:List PN} {W:World} {sl:List Tmp} {s2:Tmp} {al:List (Tmp × Array Value × TypeId)} {rs:Tmp} {Res:Value→Prop} {G:Nat} {w:World} (h:∀ i (h:i<ms.length),NodeNew ms[i] G (0+i*4) w) (h1:s2 ∉ sl) (h2:s2 ∉ al.map (·.1)) (h3:s2 ≠ rs):Qg.gd (Gd2 ns ms W sl s2 al rs Res) (some s2) (.agg #[.slice (some ⟨G,0,none⟩) ms.length ms.length]) w :=
 ⟨jy h1 h2 h3,fun _ G' hv=>by injection hv with hv;injection hv with hv;injection hv with hv;injection hv with hv;injection hv with hv;injection hv with hv;subst hv;exact h⟩
def zyr (V:Nat × Nat × Nat) (v:Value):Prop:=∀ (k n:Int) (x y z:Nat) ok,v=.tuple #[zkj k n x y z,.bool ok]→(cn .f32 x,cn .f32 y,cn .f32 z)=V
theorem zqn {k n k' n':Int} {x y z x' y' z':Nat} {ok ok':Bool} (h:Value.tuple #[zkj k n x y z,.bool ok]=.tuple #[zkj k' n' x' y' z',.bool ok']):x=x'∧y=y'∧z=z':=by
 simp only[Value.tuple.injEq,Array.mk.injEq,List.cons.injEq,Value.agg.injEq,Value.int.injEq,Value.float.injEq,true_and,and_true]at h
 omega
theorem zyl {w:World} {g B:Nat} {a b c d e:Value} {T:TypeId} (hg:w.heap[g]? = some (.cells #[a,b,c,d,e] T (0,0))) (hB:B≤g) (x0 x1 x2 x3 x4:Value) :
  zc [(⟨g,0,none⟩,x0),(⟨g,1,none⟩,x1),(⟨g,2,none⟩,x2),(⟨g,3,none⟩,x3),(⟨g,4,none⟩,x4)] [] (((((w.setCell ⟨g,0,none⟩ x0).setCell ⟨g,1,none⟩ x1).setCell ⟨g,2,none⟩ x2).setCell ⟨g,3,none⟩ x3).setCell ⟨g,4,none⟩ x4)∧Below B w (((((w.setCell ⟨g,0,none⟩ x0).setCell ⟨g,1,none⟩ x1).setCell ⟨g,2,none⟩ x2).setCell ⟨g,3,none⟩ x3).setCell ⟨g,4,none⟩ x4):=by
 have h6:(((((w.setCell ⟨g,0,none⟩ x0).setCell ⟨g,1,none⟩ x1).setCell ⟨g,2,none⟩ x2).setCell ⟨g,3,none⟩ x3).setCell ⟨g,4,none⟩ x4).heap[g]? = some (.cells #[x0,x1,x2,x3,x4] T (0,0)):=by
  simp only[World.setCell,Array.getElem?_modify,if_true,hg,Option.map_some]
  rfl
 have hb:=zcx (zi B w) hB x0 x1 x2 x3 x4
 generalize ((((w.setCell ⟨g,0,none⟩ x0).setCell ⟨g,1,none⟩ x1).setCell ⟨g,2,none⟩ x2).setCell ⟨g,3,none⟩ x3).setCell ⟨g,4,none⟩ x4=w' at *
 refine⟨?_,hb⟩
 simp only[zc,ka,kb,zb,kfa,kga]
 simp[World.cell?,h6]
theorem zu9 {w:World} {g:Nat} {a b c d e:Value} {T:TypeId} (h:w.heap[g]? = some (.cells #[a,b,c,d,e] T (0,0))) :
  (w.cell? ⟨g,0,none⟩=some a∧w.cell? ⟨g,1,none⟩=some b∧w.cell? ⟨g,2,none⟩=some c∧w.cell? ⟨g,3,none⟩=some d∧w.cell? ⟨g,4,none⟩=some e)∧w.frozen? ⟨g,0,none⟩=false∧w.frozen? ⟨g,1,none⟩=false∧w.frozen? ⟨g,2,none⟩=false∧w.frozen? ⟨g,3,none⟩=false∧w.frozen? ⟨g,4,none⟩=false:=by
 refine⟨⟨?_,?_,?_,?_,?_⟩,?_,?_,?_,?_,?_⟩<;>simp[World.cell?,World.frozen?,h]
end Go.Proofs.YtbiacfkiakddiaaGreat
