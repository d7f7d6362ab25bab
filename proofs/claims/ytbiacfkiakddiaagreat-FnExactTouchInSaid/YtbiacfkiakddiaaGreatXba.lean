/-
 Lemmas: V1,V2,V20,V4.
-/
import Derived.Test.YtbiacfkiakddiaaGreatXat
set_option linter.unusedVariables false
set_option linter.unusedSimpArgs false
set_option maxHeartbeats 2000000
namespace Go.Proofs.YtbiacfkiakddiaaGreat
open Go.RowKit Go.Fl
abbrev RgV (l h:Nat):Value:=.agg #[F1 l,F1 h]
def x6 (r:Nat × Nat) (w:World) (e:Ending) (w':World):Prop:=∃ l h,e=.returned (RgV l h)∧(cn .f32 l,cn .f32 h)=r∧Below w.heap.size w w'

def yz (r:Nat × Nat):Nat × Nat:=if gtk .f32 r.1 0 then r else if ltk .f32 r.2 0 then (un .f32 r.2,un .f32 r.1) else (0,z7 (un .f32 r.1) r.2)
def zbn (r o:Nat × Nat):Nat × Nat:=(B .add r.1 o.1,B .add r.2 o.2)
def jm (r o:Nat × Nat):Nat × Nat:=(B .sub r.1 o.2,B .sub r.2 o.1)
def uf (r:Nat × Nat) (v:Nat):Nat × Nat:=(B .sub r.1 v,B .sub r.2 v)
def jq (x:Nat):Bool:=!eqk .f32 x x
def xw (r:Nat × Nat) (v:Nat):Nat × Nat:=if jq (B .mul r.1 v) || jq (B .mul r.2 v) then (vd .f32,vd .f32) else (yo (B .mul r.1 v) (B .mul r.2 v),z7 (B .mul r.1 v) (B .mul r.2 v))
def zal (x y z:Nat × Nat):Nat × Nat:=(jo (yz x).1 (yz y).1 (yz z).1,jo (yz x).2 (yz y).2 (yz z).2)

theorem y4 {B g:Nat} {a w:World} (h:Below B a w) (hg:B≤g) (x0 x1:Value):Below B a ((w.setCell ⟨g,0,none⟩ x0).setCell ⟨g,1,none⟩ x1) :=
 (h.setCell (p:=⟨g,0,none⟩) hg _).setCell (p:=⟨g,1,none⟩) hg _
theorem pr {α β:Type} {a c:α} {b d:β} (h1:a=c) (h2:b=d):(a,b)=(c,d):=by rw[h1,h2]

set_option maxRecDepth 100000 in
theorem j5 (a b c d:Nat) (w:World) :
  Calls Tryz.prog 213 #[RgV a b,RgV c d] w (x6 (zbn (cn .f32 a,cn .f32 b) (cn .f32 c,cn .f32 d)) w):=by
 go_enter Tryz.func213,Tryz.ntmps213
 go_upto_region 1 with fail
 generalize hW:((w.alloc (.cells #[F1 a,F1 b] 118)).alloc (.cells #[F1 c,F1 d] 118)).alloc (.cells #[F1 0,F1 0] 118)=W1 at *
 have W1b:Below w.heap.size w W1:=by subst hW;exact vc ..
 have hkept:=xg false false true hW;simp only[zr,zq,zo,zv,Nat.reduceAdd]at hkept;clear hW
 have hK:=hkept;simp only[zc,ka,kb,zb,kfa,kga]at hK
 go_wp2_with (refine z6 rfl _ _ _ _ _ rfl _ _ _ rfl rfl rfl ?_;intro r n hr)
 exact bodyPost_ret (v:=RgV _ _) (by simp[results,Tryz.results213,go_sem,hK,zf,zh];first|done|exact⟨rfl,rfl⟩) rfl ⟨_,_,rfl,pr (by with_reducible assumption) (by with_reducible assumption),y4 (zd W1b _) (by omega) ..⟩

set_option maxRecDepth 100000 in
theorem vg (a b c d:Nat) (w:World) :
  Calls Tryz.prog 214 #[RgV a b,RgV c d] w (x6 (jm (cn .f32 a,cn .f32 b) (cn .f32 c,cn .f32 d)) w):=by
 go_enter Tryz.func214,Tryz.ntmps214
 go_upto_region 1 with fail
 generalize hW:((w.alloc (.cells #[F1 a,F1 b] 118)).alloc (.cells #[F1 c,F1 d] 118)).alloc (.cells #[F1 0,F1 0] 118)=W1 at *
 have W1b:Below w.heap.size w W1:=by subst hW;exact vc ..
 have hkept:=xg false false true hW;simp only[zr,zq,zo,zv,Nat.reduceAdd]at hkept;clear hW
 have hK:=hkept;simp only[zc,ka,kb,zb,kfa,kga]at hK
 go_wp2_with (refine z6 rfl _ _ _ _ _ rfl _ _ _ rfl rfl rfl ?_;intro r n hr)
 exact bodyPost_ret (v:=RgV _ _) (by simp[results,Tryz.results214,go_sem,hK,zf,zh];first|done|exact⟨rfl,rfl⟩) rfl ⟨_,_,rfl,pr (by with_reducible assumption) (by with_reducible assumption),y4 (zd W1b _) (by omega) ..⟩

set_option maxRecDepth 100000 in
theorem xp (a b c d:Nat) (w:World) :
  Calls Tryz.prog 192 #[RgV a b,RgV c d] w (x6 (zbn (cn .f32 a,cn .f32 b) (cn .f32 c,cn .f32 d)) w):=by
 go_enter Tryz.func192,Tryz.ntmps192
 go_upto_region 1 with fail
 generalize hW:((w.alloc (.cells #[F1 a,F1 b] 118)).alloc (.cells #[F1 c,F1 d] 118)).alloc (.cells #[F1 0,F1 0] 118)=W1 at *
 have W1b:Below w.heap.size w W1:=by subst hW;exact vc ..
 have hkept:=xg false false true hW;simp only[zr,zq,zo,zv,Nat.reduceAdd]at hkept;clear hW
 have hK:=hkept;simp only[zc,ka,kb,zb,kfa,kga]at hK
 go_wp2_with (refine z6 rfl _ _ _ _ _ rfl _ _ _ rfl rfl rfl ?_;intro r n hr)
 exact bodyPost_ret (v:=RgV _ _) (by simp[results,Tryz.results192,go_sem,hK,zf,zh];first|done|exact⟨rfl,rfl⟩) rfl ⟨_,_,rfl,pr (by with_reducible assumption) (by with_reducible assumption),y4 (zd W1b _) (by omega) ..⟩

set_option maxRecDepth 100000 in
theorem yn (a b c d:Nat) (w:World) :
  Calls Tryz.prog 187 #[RgV a b,RgV c d] w (x6 (jm (cn .f32 a,cn .f32 b) (cn .f32 c,cn .f32 d)) w):=by
 go_enter Tryz.func187,Tryz.ntmps187
 go_upto_region 1 with fail
 generalize hW:((w.alloc (.cells #[F1 a,F1 b] 118)).alloc (.cells #[F1 c,F1 d] 118)).alloc (.cells #[F1 0,F1 0] 118)=W1 at *
 have W1b:Below w.heap.size w W1:=by subst hW;exact vc ..
 have hkept:=xg false false true hW;simp only[zr,zq,zo,zv,Nat.reduceAdd]at hkept;clear hW
 have hK:=hkept;simp only[zc,ka,kb,zb,kfa,kga]at hK
 go_wp2_with (refine z6 rfl _ _ _ _ _ rfl _ _ _ rfl rfl rfl ?_;intro r n hr)
 exact bodyPost_ret (v:=RgV _ _) (by simp[results,Tryz.results187,go_sem,hK,zf,zh];first|done|exact⟨rfl,rfl⟩) rfl ⟨_,_,rfl,pr (by with_reducible assumption) (by with_reducible assumption),y4 (zd W1b _) (by omega) ..⟩

set_option maxRecDepth 100000 in
theorem ux (a b v:Nat) (w:World) :
  Calls Tryz.prog 208 #[RgV a b,F1 v] w (x6 (uf (cn .f32 a,cn .f32 b) (cn .f32 v)) w):=by
 go_enter Tryz.func208,Tryz.ntmps208
 go_upto_region 1 with fail
 generalize hW:(w.alloc (.cells #[F1 a,F1 b] 118)).alloc (.cells #[F1 0,F1 0] 118)=W1 at *
 have W1b:Below w.heap.size w W1:=by subst hW;exact xa ..
 have hkept:=yt false true hW;simp only[zr,zq,zo,zv,Nat.reduceAdd]at hkept;clear hW
 have hK:=hkept;simp only[zc,ka,kb,zb,kfa,kga]at hK
 go_wp2_with (refine z6 rfl _ _ _ _ _ rfl _ _ _ rfl rfl rfl ?_;intro r n hr)
 exact bodyPost_ret (v:=RgV _ _) (by simp[results,Tryz.results208,go_sem,hK,zf,zh];first|done|exact⟨rfl,rfl⟩) rfl ⟨_,_,rfl,pr (by with_reducible assumption) (by with_reducible assumption),y4 (zd W1b _) (by omega) ..⟩

set_option maxRecDepth 100000 in
theorem xq (a b:Nat) (w:World) :
  Calls Tryz.prog 215 #[RgV a b] w (x6 (yz (cn .f32 a,cn .f32 b)) w):=by
 cases h1:(FloatKind.f32.format.order a 0==some .gt)
 ·cases h2:(FloatKind.f32.format.order b 0==some .lt)
  ·have e:yz (cn .f32 a,cn .f32 b)=(0,z7 (un .f32 (cn .f32 a)) (cn .f32 b)):=by unfold yz;rw[za9 h1,zkm h2];rfl
   rw[e]
   go_enter Tryz.func215,Tryz.ntmps215
   go_upto_region 1 with fail
   generalize hW:(w.alloc (.cells #[F1 a,F1 b] 118)).alloc (.cells #[F1 0,F1 0] 118)=W1 at *
   have W1b:Below w.heap.size w W1:=by subst hW;exact xa ..
   have hkept:=yt false true hW;simp only[zr,zq,zo,zv,Nat.reduceAdd]at hkept;clear hW
   have hK:=hkept;simp only[zc,ka,kb,zb,kfa,kga]at hK
   go_wp2_with (go_at_call 222;refine (ym _ _ _).mono ?_;rintro _ w2⟨r1,rfl,hr1,hb1⟩;have hkept:=zn hkept hb1 rfl;replace hK:=hkept;simp only[zc,ka,kb,zb,kfa,kga]at hK)
   exact bodyPost_ret (v:=RgV 0 r1) (by simp[results,Tryz.results215,go_sem,hK,zf,zh];first|done|exact⟨rfl,rfl⟩) rfl ⟨_,_,rfl,pr (ye _) (by rw[hr1,xo]),y4 (za W1b hb1) (by omega) ..⟩
  ·have e:yz (cn .f32 a,cn .f32 b)=(un .f32 (cn .f32 b),un .f32 (cn .f32 a)):=by unfold yz;rw[za9 h1,zkm h2];rfl
   rw[e]
   go_enter Tryz.func215,Tryz.ntmps215
   go_upto_region 1 with fail
   generalize hW:(w.alloc (.cells #[F1 a,F1 b] 118)).alloc (.cells #[F1 0,F1 0] 118)=W1 at *
   have W1b:Below w.heap.size w W1:=by subst hW;exact xa ..
   have hkept:=yt false true hW;simp only[zr,zq,zo,zv,Nat.reduceAdd]at hkept;clear hW
   have hK:=hkept;simp only[zc,ka,kb,zb,kfa,kga]at hK
   go_wp2_with fail
   exact bodyPost_ret (v:=RgV _ _) (by simp[results,Tryz.results215,go_sem,hK,zf,zh];first|done|exact⟨rfl,rfl⟩) rfl ⟨_,_,rfl,pr (xo _ _).symm (xo _ _).symm,y4 W1b (by omega) ..⟩
 ·have e:yz (cn .f32 a,cn .f32 b)=(cn .f32 a,cn .f32 b):=by unfold yz;rw[za9 h1];rfl
  rw[e]
  go_enter Tryz.func215,Tryz.ntmps215
  go_upto_region 1 with fail
  generalize hW:(w.alloc (.cells #[F1 a,F1 b] 118)).alloc (.cells #[F1 0,F1 0] 118)=W1 at *
  have W1b:Below w.heap.size w W1:=by subst hW;exact xa ..
  have hkept:=yt false true hW;simp only[zr,zq,zo,zv,Nat.reduceAdd]at hkept;clear hW
  have hK:=hkept;simp only[zc,ka,kb,zb,kfa,kga]at hK
  go_wp2_with fail
  exact bodyPost_ret (v:=RgV a b) (by simp[results,Tryz.results215,go_sem,hK,zf,zh];first|done|exact⟨rfl,rfl⟩) rfl ⟨_,_,rfl,rfl,y4 W1b (by omega) ..⟩

set_option maxRecDepth 100000 in
theorem yu (a b:Nat) (w:World) :
  Calls Tryz.prog 194 #[RgV a b] w (x6 (yz (cn .f32 a,cn .f32 b)) w):=by
 cases h1:(FloatKind.f32.format.order a 0==some .gt)
 ·cases h2:(FloatKind.f32.format.order b 0==some .lt)
  ·have e:yz (cn .f32 a,cn .f32 b)=(0,z7 (un .f32 (cn .f32 a)) (cn .f32 b)):=by unfold yz;rw[za9 h1,zkm h2];rfl
   rw[e]
   go_enter Tryz.func194,Tryz.ntmps194
   go_upto_region 1 with fail
   generalize hW:(w.alloc (.cells #[F1 a,F1 b] 118)).alloc (.cells #[F1 0,F1 0] 118)=W1 at *
   have W1b:Below w.heap.size w W1:=by subst hW;exact xa ..
   have hkept:=yt false true hW;simp only[zr,zq,zo,zv,Nat.reduceAdd]at hkept;clear hW
   have hK:=hkept;simp only[zc,ka,kb,zb,kfa,kga]at hK
   go_wp2_with (go_at_call 198;refine (zp _ _ _).mono ?_;rintro _ w2⟨r1,rfl,hr1,hb1⟩;have hkept:=zn hkept hb1 rfl;replace hK:=hkept;simp only[zc,ka,kb,zb,kfa,kga]at hK)
   exact bodyPost_ret (v:=RgV 0 r1) (by simp[results,Tryz.results194,go_sem,hK,zf,zh];first|done|exact⟨rfl,rfl⟩) rfl ⟨_,_,rfl,pr (ye _) (by rw[hr1,xo]),y4 (za W1b hb1) (by omega) ..⟩
  ·have e:yz (cn .f32 a,cn .f32 b)=(un .f32 (cn .f32 b),un .f32 (cn .f32 a)):=by unfold yz;rw[za9 h1,zkm h2];rfl
   rw[e]
   go_enter Tryz.func194,Tryz.ntmps194
   go_upto_region 1 with fail
   generalize hW:(w.alloc (.cells #[F1 a,F1 b] 118)).alloc (.cells #[F1 0,F1 0] 118)=W1 at *
   have W1b:Below w.heap.size w W1:=by subst hW;exact xa ..
   have hkept:=yt false true hW;simp only[zr,zq,zo,zv,Nat.reduceAdd]at hkept;clear hW
   have hK:=hkept;simp only[zc,ka,kb,zb,kfa,kga]at hK
   go_wp2_with fail
   exact bodyPost_ret (v:=RgV _ _) (by simp[results,Tryz.results194,go_sem,hK,zf,zh];first|done|exact⟨rfl,rfl⟩) rfl ⟨_,_,rfl,pr (xo _ _).symm (xo _ _).symm,y4 W1b (by omega) ..⟩
 ·have e:yz (cn .f32 a,cn .f32 b)=(cn .f32 a,cn .f32 b):=by unfold yz;rw[za9 h1];rfl
  rw[e]
  go_enter Tryz.func194,Tryz.ntmps194
  go_upto_region 1 with fail
  generalize hW:(w.alloc (.cells #[F1 a,F1 b] 118)).alloc (.cells #[F1 0,F1 0] 118)=W1 at *
  have W1b:Below w.heap.size w W1:=by subst hW;exact xa ..
  have hkept:=yt false true hW;simp only[zr,zq,zo,zv,Nat.reduceAdd]at hkept;clear hW
  have hK:=hkept;simp only[zc,ka,kb,zb,kfa,kga]at hK
  go_wp2_with fail
  exact bodyPost_ret (v:=RgV a b) (by simp[results,Tryz.results194,go_sem,hK,zf,zh];first|done|exact⟨rfl,rfl⟩) rfl ⟨_,_,rfl,rfl,y4 W1b (by omega) ..⟩

inductive PhiRg:FuncId→Array Value→Value→Prop
 | sizer (a b l h:Nat) (e:(cn .f32 l,cn .f32 h)=yz (cn .f32 a,cn .f32 b)):PhiRg 215 #[RgV a b] (RgV l h)
 | long (a b c r:Nat) (h:cn .f32 r=jo (cn .f32 a) (cn .f32 b) (cn .f32 c)):PhiRg 250 #[V3 a b c] (F1 r)


set_option maxRecDepth 100000 in
theorem zc8 (a b c d e f:Nat) (w:World) :
  Calls Tryz.prog 220 #[RgV a b,RgV c d,RgV e f] w (x6 (zal (cn .f32 a,cn .f32 b) (cn .f32 c,cn .f32 d) (cn .f32 e,cn .f32 f)) w):=by
 go_enter Tryz.func220,Tryz.ntmps220
 go_upto_region 1 with fail
 generalize hW:(((w.alloc (.cells #[F1 a,F1 b] 118)).alloc (.cells #[F1 c,F1 d] 118)).alloc (.cells #[F1 e,F1 f] 118)).alloc (.cells #[F1 0,F1 0] 118)=W1 at *
 have W1b:Below w.heap.size w W1:=by subst hW;exact zgn ..
 have hkept:=zei true true true true hW;simp only[zr,zq,zo,zv,Nat.reduceAdd]at hkept;clear hW
 have hK:=hkept;simp only[zc,ka,kb,zb,kfa,kga]at hK
 refine Qr.wp_below 6 (by kernel_rfl) (by kernel_rfl) PhiRg ?_
 repeat (refine Qr.walk_plain rfl fun K hK=>?_;(first|(refine zk _ _ _ _ _ rfl _ _ _ rfl rfl rfl (fun r hr=>?_))|(apply Qr.one_det;(focus (intro w' hw';have HK:=keep hkept hw';simp only[zc,ka,kb,zb,kfa,kga]at HK;go_simp;first|done|rfl)))|(apply Qr.one_call;(focus (intro w' hw';go_simp;first|done|exact⟨rfl,rfl⟩));(focus (intro w' hw';first|(go_at_call 250;refine (ky _ _ _ _).mono ?_;rintro _ w2⟨r1,rfl,hr1,hb1⟩;exact⟨_,rfl,by constructor<;>assumption,za hw' ‹_›,by assumption⟩)|(go_at_call 215;refine (xq _ _ _).mono ?_;rintro _ w2⟨l1,u1,rfl,hr1,hb1⟩;exact⟨_,rfl,by constructor<;>assumption,za hw' ‹_›,by assumption⟩)));intro v hv;cases hv));go_simp;refine hK _ ?_;clear hK K)
 rename_i l1 u1 e1 l2 u2 e2 l3 u3 e3
 refine Qr.walk_nil fun w6 hw6=>?_
 have hkept:=keep hkept hw6
 have W6b:=za W1b hw6
 clear hK
 have hK:=hkept
 simp only[zc,ka,kb,zb,kfa,kga]at hK
 go_upto_region 2 with fail
 have W7b:=y4 (y4 (y4 W6b (g:=w.heap.size) (by omega) (F1 l1) (F1 u1)) (g:=w.heap.size+1) (by omega) (F1 l2) (F1 u2)) (g:=w.heap.size+1+1) (by omega) (F1 l3) (F1 u3)
 have hkept:zc [(⟨w.heap.size,0,none⟩,F1 l1),(⟨w.heap.size,1,none⟩,F1 u1),(⟨w.heap.size+1,0,none⟩,F1 l2),(⟨w.heap.size+1,1,none⟩,F1 u2),(⟨w.heap.size+1+1,0,none⟩,F1 l3),(⟨w.heap.size+1+1,1,none⟩,F1 u3),(⟨w.heap.size+1+1+1,0,none⟩,F1 0),(⟨w.heap.size+1+1+1,1,none⟩,F1 0)] [⟨w.heap.size+1+1+1,0,none⟩,⟨w.heap.size+1+1+1,1,none⟩] ((((((w6.setCell ⟨w.heap.size,0,none⟩ (F1 l1)).setCell ⟨w.heap.size,1,none⟩ (F1 u1)).setCell ⟨w.heap.size+1,0,none⟩ (F1 l2)).setCell ⟨w.heap.size+1,1,none⟩ (F1 u2)).setCell ⟨w.heap.size+1+1,0,none⟩ (F1 l3)).setCell ⟨w.heap.size+1+1,1,none⟩ (F1 u3)):=by simp only[zc,ka,kb,zb,kfa,kga];simp[hK,go_sem,zf,zh,yk]
 clear hK
 generalize (((((w6.setCell ⟨w.heap.size,0,none⟩ (F1 l1)).setCell ⟨w.heap.size,1,none⟩ (F1 u1)).setCell ⟨w.heap.size+1,0,none⟩ (F1 l2)).setCell ⟨w.heap.size+1,1,none⟩ (F1 u2)).setCell ⟨w.heap.size+1+1,0,none⟩ (F1 l3)).setCell ⟨w.heap.size+1+1,1,none⟩ (F1 u3)=W7 at *
 have hK:=hkept;simp only[zc,ka,kb,zb,kfa,kga]at hK
 refine Qr.wp_below 17 (by kernel_rfl) (by kernel_rfl) PhiRg ?_
 repeat (refine Qr.walk_plain rfl fun K hK=>?_;(first|(refine zk _ _ _ _ _ rfl _ _ _ rfl rfl rfl (fun r hr=>?_))|(apply Qr.one_det;(focus (intro w' hw';have HK:=keep hkept hw';simp only[zc,ka,kb,zb,kfa,kga]at HK;go_simp;first|done|rfl)))|(apply Qr.one_call;(focus (intro w' hw';go_simp;first|done|exact⟨rfl,rfl⟩));(focus (intro w' hw';first|(go_at_call 250;refine (ky _ _ _ _).mono ?_;rintro _ w2⟨r1,rfl,hr1,hb1⟩;exact⟨_,rfl,by constructor<;>assumption,za hw' ‹_›,by assumption⟩)|(go_at_call 215;refine (xq _ _ _).mono ?_;rintro _ w2⟨l1,u1,rfl,hr1,hb1⟩;exact⟨_,rfl,by constructor<;>assumption,za hw' ‹_›,by assumption⟩)));intro v hv;cases hv));go_simp;refine hK _ ?_;clear hK K)
 rename_i r1 hr1 r2 hr2
 refine Qr.walk_nil fun w8 hw8=>?_
 have hkept:=keep hkept hw8
 have W8b:=za W7b hw8
 clear hK
 have hK:=hkept
 simp only[zc,ka,kb,zb,kfa,kga]at hK
 go_wp2_with fail
 exact bodyPost_ret (v:=RgV r1 r2) (by simp[results,Tryz.results220,go_sem,hK,zf,zh];first|done|exact⟨rfl,rfl⟩) rfl ⟨_,_,rfl,by rw[hr1,hr2];unfold zal;rw[← e1,← e2,← e3],y4 W8b (by omega) ..⟩

set_option maxRecDepth 100000 in
theorem ql (a b c d e f:Nat) (w:World) :
  Calls Tryz.prog 199 #[RgV a b,RgV c d,RgV e f] w (x6 (zal (cn .f32 a,cn .f32 b) (cn .f32 c,cn .f32 d) (cn .f32 e,cn .f32 f)) w):=by
 go_enter Tryz.func199,Tryz.ntmps199
 go_upto_region 1 with fail
 generalize hW:(((w.alloc (.cells #[F1 a,F1 b] 118)).alloc (.cells #[F1 c,F1 d] 118)).alloc (.cells #[F1 e,F1 f] 118)).alloc (.cells #[F1 0,F1 0] 118)=W1 at *
 have W1b:Below w.heap.size w W1:=by subst hW;exact zgn ..
 have hkept:=zei true true true true hW;simp only[zr,zq,zo,zv,Nat.reduceAdd]at hkept;clear hW
 have hK:=hkept;simp only[zc,ka,kb,zb,kfa,kga]at hK
 go_upto_region 2 with (go_at_call 194;refine (yu _ _ _).mono ?_;rintro _ w2⟨l1,u1,rfl,e1,hb1⟩;have hkept:=zn hkept hb1 rfl;replace hK:=hkept;simp only[zc,ka,kb,zb,kfa,kga]at hK)
 have W2b:=y4 (za W1b hb1) (g:=w.heap.size) (by omega) (F1 l1) (F1 u1)
 have hkept:zc [(⟨w.heap.size,0,none⟩,F1 l1),(⟨w.heap.size,1,none⟩,F1 u1),(⟨w.heap.size+1,0,none⟩,F1 c),(⟨w.heap.size+1,1,none⟩,F1 d),(⟨w.heap.size+1+1,0,none⟩,F1 e),(⟨w.heap.size+1+1,1,none⟩,F1 f),(⟨w.heap.size+1+1+1,0,none⟩,F1 0),(⟨w.heap.size+1+1+1,1,none⟩,F1 0)] [⟨w.heap.size,0,none⟩,⟨w.heap.size,1,none⟩,⟨w.heap.size+1,0,none⟩,⟨w.heap.size+1,1,none⟩,⟨w.heap.size+1+1,0,none⟩,⟨w.heap.size+1+1,1,none⟩,⟨w.heap.size+1+1+1,0,none⟩,⟨w.heap.size+1+1+1,1,none⟩] ((w2.setCell ⟨w.heap.size,0,none⟩ (F1 l1)).setCell ⟨w.heap.size,1,none⟩ (F1 u1)):=by simp only[zc,ka,kb,zb,kfa,kga];simp[hK,go_sem,zf,zh,yk]
 clear hK
 generalize ((w2.setCell ⟨w.heap.size,0,none⟩ (F1 l1)).setCell ⟨w.heap.size,1,none⟩ (F1 u1))=W2 at *
 have hK:=hkept;simp only[zc,ka,kb,zb,kfa,kga]at hK
 go_upto_region 3 with (go_at_call 194;refine (yu _ _ _).mono ?_;rintro _ w3⟨l2,u2,rfl,e2,hb1⟩;have hkept:=zn hkept hb1 rfl;replace hK:=hkept;simp only[zc,ka,kb,zb,kfa,kga]at hK)
 have W3b:=y4 (za W2b hb1) (g:=w.heap.size+1) (by omega) (F1 l2) (F1 u2)
 have hkept:zc [(⟨w.heap.size,0,none⟩,F1 l1),(⟨w.heap.size,1,none⟩,F1 u1),(⟨w.heap.size+1,0,none⟩,F1 l2),(⟨w.heap.size+1,1,none⟩,F1 u2),(⟨w.heap.size+1+1,0,none⟩,F1 e),(⟨w.heap.size+1+1,1,none⟩,F1 f),(⟨w.heap.size+1+1+1,0,none⟩,F1 0),(⟨w.heap.size+1+1+1,1,none⟩,F1 0)] [⟨w.heap.size,0,none⟩,⟨w.heap.size,1,none⟩,⟨w.heap.size+1,0,none⟩,⟨w.heap.size+1,1,none⟩,⟨w.heap.size+1+1,0,none⟩,⟨w.heap.size+1+1,1,none⟩,⟨w.heap.size+1+1+1,0,none⟩,⟨w.heap.size+1+1+1,1,none⟩] ((w3.setCell ⟨w.heap.size+1,0,none⟩ (F1 l2)).setCell ⟨w.heap.size+1,1,none⟩ (F1 u2)):=by simp only[zc,ka,kb,zb,kfa,kga];simp[hK,go_sem,zf,zh,yk]
 clear hK
 generalize ((w3.setCell ⟨w.heap.size+1,0,none⟩ (F1 l2)).setCell ⟨w.heap.size+1,1,none⟩ (F1 u2))=W3 at *
 have hK:=hkept;simp only[zc,ka,kb,zb,kfa,kga]at hK
 go_upto_region 4 with (go_at_call 194;refine (yu _ _ _).mono ?_;rintro _ w4⟨l3,u3,rfl,e3,hb1⟩;have hkept:=zn hkept hb1 rfl;replace hK:=hkept;simp only[zc,ka,kb,zb,kfa,kga]at hK)
 have W4b:=y4 (za W3b hb1) (g:=w.heap.size+1+1) (by omega) (F1 l3) (F1 u3)
 have hkept:zc [(⟨w.heap.size,0,none⟩,F1 l1),(⟨w.heap.size,1,none⟩,F1 u1),(⟨w.heap.size+1,0,none⟩,F1 l2),(⟨w.heap.size+1,1,none⟩,F1 u2),(⟨w.heap.size+1+1,0,none⟩,F1 l3),(⟨w.heap.size+1+1,1,none⟩,F1 u3),(⟨w.heap.size+1+1+1,0,none⟩,F1 0),(⟨w.heap.size+1+1+1,1,none⟩,F1 0)] [⟨w.heap.size,0,none⟩,⟨w.heap.size,1,none⟩,⟨w.heap.size+1,0,none⟩,⟨w.heap.size+1,1,none⟩,⟨w.heap.size+1+1,0,none⟩,⟨w.heap.size+1+1,1,none⟩,⟨w.heap.size+1+1+1,0,none⟩,⟨w.heap.size+1+1+1,1,none⟩] ((w4.setCell ⟨w.heap.size+1+1,0,none⟩ (F1 l3)).setCell ⟨w.heap.size+1+1,1,none⟩ (F1 u3)):=by simp only[zc,ka,kb,zb,kfa,kga];simp[hK,go_sem,zf,zh,yk]
 clear hK
 generalize ((w4.setCell ⟨w.heap.size+1+1,0,none⟩ (F1 l3)).setCell ⟨w.heap.size+1+1,1,none⟩ (F1 u3))=W4 at *
 have hK:=hkept;simp only[zc,ka,kb,zb,kfa,kga]at hK
 go_upto_region 5 with (go_at_call 242;refine (yv _ _ _ _).mono ?_;rintro _ w5⟨r1,rfl,hr1,hb1⟩;have W5b:=za W4b hb1;have hkept:=zn hkept hb1 rfl;replace hK:=hkept;simp only[zc,ka,kb,zb,kfa,kga]at hK)
 go_wp2_with (go_at_call 242;refine (yv _ _ _ _).mono ?_;rintro _ w6⟨r2,rfl,hr2,hb1⟩;have hkept:=zn hkept hb1 rfl;replace hK:=hkept;simp only[zc,ka,kb,zb,kfa,kga]at hK)
 exact bodyPost_ret (v:=RgV r1 r2) (by simp[results,Tryz.results199,go_sem,hK,zf,zh];first|done|exact⟨rfl,rfl⟩) rfl ⟨_,_,rfl,by rw[hr1,hr2];unfold zal;rw[← e1,← e2,← e3],y4 (za W5b hb1) (by omega) ..⟩
def zaq (l h:Nat × Nat × Nat):Bool:=zdw l && zdw h && lek .f32 l.1 h.1 && lek .f32 l.2.1 h.2.1 && lek .f32 l.2.2 h.2.2
theorem zp1 (a b:Nat):lek .f32 (cn .f32 a) (cn .f32 b)=(FloatKind.f32.format.order a b==some .lt || FloatKind.f32.format.order a b==some .eq):=by unfold lek;rw[um]
theorem zyq (p q r s t:Bool):p=false∨(p=true∧q=false)∨(p=true∧q=true∧r=false)∨(p=true∧q=true∧r=true∧s=false)∨(p=true∧q=true∧r=true∧s=true∧t=false)∨(p=true∧q=true∧r=true∧s=true∧t=true):=by
 cases p<;>cases q<;>cases r<;>cases s<;>cases t<;>simp

set_option maxRecDepth 100000 in
theorem jl (a b c d e f:Nat) (w:World) :
  Calls Tryz.prog 66 #[.agg #[F1 a,F1 b,F1 c,F1 d,F1 e,F1 f]] w (fun e' w'=>e'=.returned (.bool (zaq (cn .f32 a,cn .f32 b,cn .f32 c) (cn .f32 d,cn .f32 e,cn .f32 f)))∧Below w.heap.size w w'):=by
 obtain⟨U,hU⟩:∃ U,Hid (zaq (cn .f32 a,cn .f32 b,cn .f32 c) (cn .f32 d,cn .f32 e,cn .f32 f)=U):=⟨_,rfl⟩
 rw[hU.out]
 have hUo:=hU.out
 unfold zaq at hUo
 simp only[zp1]at hUo
 obtain⟨FA,hFA⟩:∃ FA,Hid (zdw (cn .f32 a,cn .f32 b,cn .f32 c)=FA):=⟨_,rfl⟩
 obtain⟨FB,hFB⟩:∃ FB,Hid (zdw (cn .f32 d,cn .f32 e,cn .f32 f)=FB):=⟨_,rfl⟩
 rw[hFA.out,hFB.out]at hUo
 clear hU
 rcases zyq FA FB (FloatKind.f32.format.order a d==some .lt || FloatKind.f32.format.order a d==some .eq) (FloatKind.f32.format.order b e==some .lt || FloatKind.f32.format.order b e==some .eq) (FloatKind.f32.format.order c f==some .lt || FloatKind.f32.format.order c f==some .eq) with rfl|⟨rfl,rfl⟩|⟨rfl,rfl,h3⟩|⟨rfl,rfl,h3,h4⟩|⟨rfl,rfl,h3,h4,h5⟩|⟨rfl,rfl,h3,h4,h5⟩
 all_goals
  simp only[*,Bool.and_true,Bool.and_false,Bool.false_and,Bool.true_and]at hUo
  subst hUo
  go_enter Tryz.func66,Tryz.ntmps66
  go_upto_region 1 with fail
  generalize hW:w.alloc (.cells #[F1 a,F1 b,F1 c,F1 d,F1 e,F1 f] 40)=W1 at *
  have W1b:Below w.heap.size w W1:=by subst hW;exact zt ..
  have hkept:=jg false hW;simp only[zr,zq,zo,zv,Nat.reduceAdd]at hkept;clear hW
  have hK:=hkept;simp only[zc,ka,kb,zb,kfa,kga]at hK
  go_wp2_with (first|(go_at_call 132;refine (zt1 _ _ _ _).mono ?_;rintro _ w2⟨rfl,hb1⟩;(first|rw[hFA.out]|rw[hFB.out]);have W1b:=za W1b hb1;have hkept:=zn hkept hb1 rfl;replace hK:=hkept;simp only[zc,ka,kb,zb,kfa,kga]at hK))
  go_ret
  exact⟨rfl,W1b⟩
def kl:Nat:=2139095040
def zaz:Nat:=4286578688

theorem qt (w:World):Calls Tryz.prog 126 #[.int .i64 1] w (Ret .f64 9218868437227405312 w):=by
 go_enter Tryz.func126,Tryz.ntmps126
 go_wp2_with (first
  | (refine jz rfl 202 _ _ rfl rfl _ zaa _ (zac _ _) ?_;rintro _ n rfl))
 go_ret
 exact⟨_,rfl,by decide +kernel,(by repeat' (first|exact zi _ _|refine zd ?_ _|refine Below.alloc ?_ (by simp<;>omega) _|refine zj ?_ (by simp<;>omega) _|refine za ?_ ‹_›))⟩
theorem zax (w:World):Calls Tryz.prog 126 #[.int .i64 (-1)] w (Ret .f64 18442240474082181120 w):=by
 go_enter Tryz.func126,Tryz.ntmps126
 go_wp2_with (first
  | (refine jz rfl 202 _ _ rfl rfl _ zaa _ (zac _ _) ?_;rintro _ n rfl))
 go_ret
 exact⟨_,rfl,by decide +kernel,(by repeat' (first|exact zi _ _|refine zd ?_ _|refine Below.alloc ?_ (by simp<;>omega) _|refine zj ?_ (by simp<;>omega) _|refine za ?_ ‹_›))⟩

theorem j1:zco 9218868437227405312:=by
 intro s m e h
 have:FloatKind.f64.decode 9218868437227405312=.infinity false:=by rfl
 rw[this]at h;cases h

theorem zqx (w:World):Calls Tryz.prog 225 #[] w (Ret .f32 kl w):=by
 go_enter Tryz.func225,Tryz.ntmps225
 go_wp2_with (first|(go_at_call 126;refine (qt _).mono ?_;rintro _ w2⟨r1,rfl,hr1,hb1⟩)|(refine vq rfl _ _ _ rfl _ rfl ?_ ?_ ?_ ?_;exact xb;exact Tryz.underlying25;(simp only[*];exact j1);intro r2 n hr2))
 go_ret
 exact⟨_,rfl,by rw[hr2,hr1];decide +kernel,(by repeat' (first|exact zi _ _|refine zd ?_ _|refine Below.alloc ?_ (by simp<;>omega) _|refine zj ?_ (by simp<;>omega) _|refine za ?_ ‹_›))⟩

set_option maxRecDepth 100000 in
theorem qh (a b c d:Nat) (w:World) :
  Calls Tryz.prog 156 #[RgV a b,RgV c d] w (x6 (yz (jm (cn .f32 a,cn .f32 b) (cn .f32 c,cn .f32 d))) w):=by
 go_enter Tryz.func156,Tryz.ntmps156
 go_upto_region 1 with fail
 generalize hW:((w.alloc (.cells #[F1 a,F1 b] 118)).alloc (.cells #[F1 c,F1 d] 118)).alloc (.cells #[F1 0,F1 0] 118)=W1 at *
 have W1b:Below w.heap.size w W1:=by subst hW;exact vc ..
 have hkept:=xg false false true hW;simp only[zr,zq,zo,zv,Nat.reduceAdd]at hkept;clear hW
 have hK:=hkept;simp only[zc,ka,kb,zb,kfa,kga]at hK
 go_wp2_with (first|(go_at_call 214;refine (vg _ _ _ _ _).mono ?_;rintro _ w5⟨l1,u1,rfl,e1,hb1⟩;have W6b:=za W1b hb1;have hkept:=zn hkept hb1 rfl;replace hK:=hkept;simp only[zc,ka,kb,zb,kfa,kga]at hK)|(go_at_call 215;refine (xq _ _ _).mono ?_;rintro _ w7⟨l2,u2,rfl,e2,hb1⟩;have W7b:=za W6b hb1;have hkept:=zn hkept hb1 rfl;replace hK:=hkept;simp only[zc,ka,kb,zb,kfa,kga]at hK))
 exact bodyPost_ret (v:=RgV l2 u2) (by simp[results,Tryz.results156,go_sem,hK,zf,zh];first|done|exact⟨rfl,rfl⟩) rfl ⟨_,_,rfl,by rw[e2,e1],y4 W7b (by omega) ..⟩

set_option maxRecDepth 100000 in
theorem jd (a b c d:Nat) (w:World) :
  Calls Tryz.prog 200 #[RgV a b,RgV c d] w (x6 (yz (jm (cn .f32 a,cn .f32 b) (cn .f32 c,cn .f32 d))) w):=by
 go_enter Tryz.func200,Tryz.ntmps200
 go_upto_region 1 with fail
 generalize hW:((w.alloc (.cells #[F1 a,F1 b] 118)).alloc (.cells #[F1 c,F1 d] 118)).alloc (.cells #[F1 0,F1 0] 118)=W1 at *
 have W1b:Below w.heap.size w W1:=by subst hW;exact vc ..
 have hkept:=xg false false true hW;simp only[zr,zq,zo,zv,Nat.reduceAdd]at hkept;clear hW
 have hK:=hkept;simp only[zc,ka,kb,zb,kfa,kga]at hK
 go_wp2_with (first|(go_at_call 187;refine (yn _ _ _ _ _).mono ?_;rintro _ w5⟨l1,u1,rfl,e1,hb1⟩;have W6b:=za W1b hb1;have hkept:=zn hkept hb1 rfl;replace hK:=hkept;simp only[zc,ka,kb,zb,kfa,kga]at hK)|(go_at_call 194;refine (yu _ _ _).mono ?_;rintro _ w7⟨l2,u2,rfl,e2,hb1⟩;have W7b:=za W6b hb1;have hkept:=zn hkept hb1 rfl;replace hK:=hkept;simp only[zc,ka,kb,zb,kfa,kga]at hK))
 exact bodyPost_ret (v:=RgV l2 u2) (by simp[results,Tryz.results200,go_sem,hK,zf,zh];first|done|exact⟨rfl,rfl⟩) rfl ⟨_,_,rfl,by rw[e2,e1],y4 W7b (by omega) ..⟩

set_option maxRecDepth 100000 in
theorem y5 (a:Nat) (w:World) :
  Calls Tryz.prog 188 #[F1 a] w (x6 (cn .f32 a,cn .f32 a) w):=by
 go_enter Tryz.func188,Tryz.ntmps188
 go_upto_region 1 with fail
 generalize hW:w.alloc (.cells #[F1 0,F1 0] 118)=W1 at *
 have W1b:Below w.heap.size w W1:=by subst hW;exact zt ..
 have hkept:=jg true hW;simp only[zr,zq,zo,zv,Nat.reduceAdd]at hkept;clear hW
 have hK:=hkept;simp only[zc,ka,kb,zb,kfa,kga]at hK
 go_wp2_with fail
 exact bodyPost_ret (v:=RgV a a) (by simp[results,Tryz.results188,go_sem,hK,zf,zh];first|done|exact⟨rfl,rfl⟩) rfl ⟨_,_,rfl,rfl,y4 W1b (by omega) ..⟩

theorem zvr {r:Nat} (h:cn .f32 r=kl):cn .f32 (Op.negFloat .f32 r)=zaz:=by rw[← xo,h];decide +kernel

set_option maxRecDepth 100000 in
theorem z8 (w:World):Calls Tryz.prog 138 #[] w (x6 (zaz,kl) w):=by
 go_enter Tryz.func138,Tryz.ntmps138
 go_upto_region 1 with fail
 generalize hW:w.alloc (.cells #[F1 0,F1 0] 118)=W1 at *
 have W1b:Below w.heap.size w W1:=by subst hW;exact zt ..
 have hkept:=jg true hW;simp only[zr,zq,zo,zv,Nat.reduceAdd]at hkept;clear hW
 have hK:=hkept;simp only[zc,ka,kb,zb,kfa,kga]at hK
 go_wp2_with (go_at_call 225;refine (zqx _).mono ?_;rintro _ w5⟨r1,rfl,hr1,hb1⟩;have W1b:=za W1b hb1;have hkept:=zn hkept hb1 rfl;replace hK:=hkept;simp only[zc,ka,kb,zb,kfa,kga]at hK)
 exact bodyPost_ret (v:=RgV _ _) (by simp[results,Tryz.results138,go_sem,hK,zf,zh];first|done|exact⟨rfl,rfl⟩) rfl ⟨_,_,rfl,pr (zvr (by with_reducible assumption)) (by with_reducible assumption),y4 W1b (by omega) ..⟩
end Go.Proofs.YtbiacfkiakddiaaGreat
