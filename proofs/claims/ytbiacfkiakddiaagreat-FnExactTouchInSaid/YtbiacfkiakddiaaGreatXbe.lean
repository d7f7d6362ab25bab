/-
 Lemmas: V25,V3.
-/
import Derived.Test.YtbiacfkiakddiaaGreatXbd
set_option linter.unusedVariables false
set_option linter.unusedSimpArgs false
set_option maxHeartbeats 1000000
namespace Go.Proofs.YtbiacfkiakddiaaGreat
open Go.RowKit Go.Fl
def zoy (p q:Addr) (a b:Nat) (w:World) (e:Ending) (w':World):Prop:=e=.returned (.tuple #[])∧∃ W1,Below w.heap.size w W1∧w'=(W1.setCell p (F1 a)).setCell q (F1 b)

set_option maxRecDepth 100000 in
theorem zd8 {g p x0 x1:Nat} {w:World} (hN:zc [(⟨g,p,none⟩,F1 x0),(⟨g,p+1,none⟩,F1 x1)] [] w) :
  Calls Tryz.prog 190 #[.pointer (some ⟨g,p,none⟩),.int .i64 0] w (fun e w'=>e=.returned (RgV x0 x1)∧Below w.heap.size w w'):=by
 go_enter Tryz.func190,Tryz.ntmps190
 go_upto_region 1 with fail
 generalize hW:w.alloc (.cells #[F1 0,F1 0] 118)=W1 at *
 have W1b:Below w.heap.size w W1:=by subst hW;exact zt ..
 have hkept:=jg true hW;simp only[zr,zq,zo,zv,Nat.reduceAdd]at hkept;clear hW
 have hkept:=ze (keep hN W1b) hkept
 clear hN
 have hK:=hkept;simp only[zc,ka,kb,zb,kfa,kga]at hK
 go_wp2_with fail
 exact bodyPost_ret (v:=RgV x0 x1) (by simp[results,Tryz.results190,go_sem,hK,zf,zh];first|done|exact⟨rfl,rfl⟩) rfl ⟨rfl,y4 W1b (by omega) ..⟩

set_option maxRecDepth 100000 in
theorem zdy {g p x0 x1:Nat} {w:World} (hN:zc [(⟨g,p+2,none⟩,F1 x0),(⟨g,p+3,none⟩,F1 x1)] [] w) :
  Calls Tryz.prog 190 #[.pointer (some ⟨g,p,none⟩),.int .i64 1] w (fun e w'=>e=.returned (RgV x0 x1)∧Below w.heap.size w w'):=by
 go_enter Tryz.func190,Tryz.ntmps190
 go_upto_region 1 with fail
 generalize hW:w.alloc (.cells #[F1 0,F1 0] 118)=W1 at *
 have W1b:Below w.heap.size w W1:=by subst hW;exact zt ..
 have hkept:=jg true hW;simp only[zr,zq,zo,zv,Nat.reduceAdd]at hkept;clear hW
 have hkept:=ze (keep hN W1b) hkept
 clear hN
 have hK:=hkept;simp only[zc,ka,kb,zb,kfa,kga]at hK
 go_wp2_with fail
 exact bodyPost_ret (v:=RgV x0 x1) (by simp[results,Tryz.results190,go_sem,hK,zf,zh];first|done|exact⟨rfl,rfl⟩) rfl ⟨rfl,y4 W1b (by omega) ..⟩

set_option maxRecDepth 100000 in
theorem zdx {g p x0 x1:Nat} {w:World} (hN:zc [(⟨g,p+4,none⟩,F1 x0),(⟨g,p+5,none⟩,F1 x1)] [] w) :
  Calls Tryz.prog 190 #[.pointer (some ⟨g,p,none⟩),.int .i64 2] w (fun e w'=>e=.returned (RgV x0 x1)∧Below w.heap.size w w'):=by
 go_enter Tryz.func190,Tryz.ntmps190
 go_upto_region 1 with fail
 generalize hW:w.alloc (.cells #[F1 0,F1 0] 118)=W1 at *
 have W1b:Below w.heap.size w W1:=by subst hW;exact zt ..
 have hkept:=jg true hW;simp only[zr,zq,zo,zv,Nat.reduceAdd]at hkept;clear hW
 have hkept:=ze (keep hN W1b) hkept
 clear hN
 have hK:=hkept;simp only[zc,ka,kb,zb,kfa,kga]at hK
 go_wp2_with fail
 exact bodyPost_ret (v:=RgV x0 x1) (by simp[results,Tryz.results190,go_sem,hK,zf,zh];first|done|exact⟨rfl,rfl⟩) rfl ⟨rfl,y4 W1b (by omega) ..⟩

set_option maxRecDepth 100000 in
theorem zfd {g p a b x0 x1:Nat} {w:World} (hN:zc [(⟨g,p,none⟩,F1 x0),(⟨g,p+1,none⟩,F1 x1)] [⟨g,p,none⟩,⟨g,p+1,none⟩] w) :
  Calls Tryz.prog 191 #[.pointer (some ⟨g,p,none⟩),.int .i64 0,RgV a b] w (zoy ⟨g,p,none⟩ ⟨g,p+1,none⟩ a b w):=by
 go_enter Tryz.func191,Tryz.ntmps191
 go_upto_region 1 with fail
 generalize hW:w.alloc (.cells #[F1 a,F1 b] 118)=W1 at *
 have W1b:Below w.heap.size w W1:=by subst hW;exact zt ..
 have hkept:=jg false hW;simp only[zr,zq,zo,zv,Nat.reduceAdd]at hkept;clear hW
 have hkept:=ze (keep hN W1b) hkept
 clear hN
 have hK:=hkept;simp only[zc,ka,kb,zb,kfa,kga]at hK
 go_wp2_with fail
 exact bodyPost_ret (v:=.tuple #[]) (by simp[results,Tryz.results191,go_sem];try rfl) rfl ⟨rfl,W1,W1b,rfl⟩

set_option maxRecDepth 100000 in
theorem zfn {g p a b x0 x1:Nat} {w:World} (hN:zc [(⟨g,p+2,none⟩,F1 x0),(⟨g,p+3,none⟩,F1 x1)] [⟨g,p+2,none⟩,⟨g,p+3,none⟩] w) :
  Calls Tryz.prog 191 #[.pointer (some ⟨g,p,none⟩),.int .i64 1,RgV a b] w (zoy ⟨g,p+2,none⟩ ⟨g,p+3,none⟩ a b w):=by
 go_enter Tryz.func191,Tryz.ntmps191
 go_upto_region 1 with fail
 generalize hW:w.alloc (.cells #[F1 a,F1 b] 118)=W1 at *
 have W1b:Below w.heap.size w W1:=by subst hW;exact zt ..
 have hkept:=jg false hW;simp only[zr,zq,zo,zv,Nat.reduceAdd]at hkept;clear hW
 have hkept:=ze (keep hN W1b) hkept
 clear hN
 have hK:=hkept;simp only[zc,ka,kb,zb,kfa,kga]at hK
 go_wp2_with fail
 exact bodyPost_ret (v:=.tuple #[]) (by simp[results,Tryz.results191,go_sem];try rfl) rfl ⟨rfl,W1,W1b,rfl⟩

set_option maxRecDepth 100000 in
theorem zfp {g p a b x0 x1:Nat} {w:World} (hN:zc [(⟨g,p+4,none⟩,F1 x0),(⟨g,p+5,none⟩,F1 x1)] [⟨g,p+4,none⟩,⟨g,p+5,none⟩] w) :
  Calls Tryz.prog 191 #[.pointer (some ⟨g,p,none⟩),.int .i64 2,RgV a b] w (zoy ⟨g,p+4,none⟩ ⟨g,p+5,none⟩ a b w):=by
 go_enter Tryz.func191,Tryz.ntmps191
 go_upto_region 1 with fail
 generalize hW:w.alloc (.cells #[F1 a,F1 b] 118)=W1 at *
 have W1b:Below w.heap.size w W1:=by subst hW;exact zt ..
 have hkept:=jg false hW;simp only[zr,zq,zo,zv,Nat.reduceAdd]at hkept;clear hW
 have hkept:=ze (keep hN W1b) hkept
 clear hN
 have hK:=hkept;simp only[zc,ka,kb,zb,kfa,kga]at hK
 go_wp2_with fail
 exact bodyPost_ret (v:=.tuple #[]) (by simp[results,Tryz.results191,go_sem];try rfl) rfl ⟨rfl,W1,W1b,rfl⟩

theorem zfk {x:Nat} (h:jq x=true):(FloatKind.f32.decode x).isNaN=true:=by
 cases hn:(FloatKind.f32.decode x).isNaN
 ·rw[jq,eqk,zdp hn]at h;cases h
 ·rfl
theorem vo {x:Nat} {b:Bool} (h:(FloatKind.f32.format.order x x==some .eq)=b):jq (cn .f32 x) = !b:=by
 rw[jq,zpk,eqk,h]
theorem zie {x y:Nat} (h:jq x=true):B .add x y=vd .f32:=by
 have e:(FloatKind.f32.format.read x).isNaN=true:=zfk h
 show ((Ieee.Datum.sum (FloatKind.f32.format.read x) (FloatKind.f32.format.read y)).map FloatKind.f32.format.write).getD _=_
 rw[zc9 e];rfl
theorem zra {x y:Nat} (h:jq y=true):B .add x y=vd .f32:=by
 have e:(FloatKind.f32.format.read y).isNaN=true:=zfk h
 show ((Ieee.Datum.sum (FloatKind.f32.format.read x) (FloatKind.f32.format.read y)).map FloatKind.f32.format.write).getD _=_
 rw[zc2 e];rfl
theorem zis {x y:Nat} (h:jq x=true):B .sub x y=vd .f32:=by
 have e:(FloatKind.f32.format.read x).isNaN=true:=zfk h
 show ((Ieee.Datum.sum (FloatKind.f32.format.read x) (FloatKind.f32.format.read y).opposite).map FloatKind.f32.format.write).getD _=_
 rw[zc9 e];rfl
theorem zso {x y:Nat} (h:jq y=true):B .sub x y=vd .f32:=by
 have e:(FloatKind.f32.format.read y).isNaN=true:=zfk h
 show ((Ieee.Datum.sum (FloatKind.f32.format.read x) (FloatKind.f32.format.read y).opposite).map FloatKind.f32.format.write).getD _=_
 rw[zc2 (by rw[za6];exact e)];rfl
theorem ziq:jq (vd .f32)=true:=by decide +kernel

inductive PhiNone:FuncId→Array Value→Value→Prop

theorem zc0 {v a b:Nat} {p q:Nat} (ha:cn .f32 a=B .mul p v) (hb:cn .f32 b=B .mul q v) (h:jq (cn .f32 a)=true∨jq (cn .f32 b)=true):xw (p,q) v=(vd .f32,vd .f32):=by
 unfold xw
 simp only
 rw[← ha,← hb,if_pos (by rcases h with h|h<;>rw[h]<;>simp)]
theorem zi0 {v a b:Nat} {p q:Nat} (ha:cn .f32 a=B .mul p v) (hb:cn .f32 b=B .mul q v) (h1:jq (cn .f32 a)=false) (h2:jq (cn .f32 b)=false):xw (p,q) v=(yo (cn .f32 a) (cn .f32 b),z7 (cn .f32 a) (cn .f32 b)):=by
 unfold xw
 simp only
 rw[← ha,← hb,h1,h2];rfl
theorem zns {a b r s t:Nat} (h1:cn .f32 r=B .sub (cn .f32 a) (cn .f32 a)) (h2:cn .f32 s=B .add (cn .f32 r) (cn .f32 b)) (h3:cn .f32 t=B .sub (cn .f32 s) (cn .f32 b)) (h:jq (cn .f32 a)=true∨jq (cn .f32 b)=true):cn .f32 t=vd .f32:=by
 rcases h with h|h
 ·rw[zis h]at h1;rw[h1,zie ziq]at h2;rw[h3,h2,zis ziq]
 ·rw[h3,zso h]

set_option maxRecDepth 100000 in
theorem xm (a b v:Nat) (w:World) :
  Calls Tryz.prog 212 #[RgV a b,F1 v] w (x6 (xw (cn .f32 a,cn .f32 b) (cn .f32 v)) w):=by
 go_enter Tryz.func212,Tryz.ntmps212
 go_upto_region 1 with fail
 generalize hW:(w.alloc (.cells #[F1 a,F1 b] 118)).alloc (.cells #[F1 0,F1 0] 118)=W1 at *
 have W1b:Below w.heap.size w W1:=by subst hW;exact xa ..
 have hkept:=yt false true hW;simp only[zr,zq,zo,zv,Nat.reduceAdd]at hkept;clear hW
 have hK:=hkept;simp only[zc,ka,kb,zb,kfa,kga]at hK
 refine Qr.wp_below_all (by kernel_rfl) (by kernel_rfl) PhiNone ?_
 repeat (first|(refine Qr.walk_plain rfl fun K hK=>?_;refine zk _ _ _ _ _ rfl _ _ _ rfl rfl rfl (fun r hr=>?_);go_simp;refine hK _ ?_;clear hK K)|(refine Qr.walk_plain rfl fun K hK=>?_;apply Qr.one_det;(focus (intro w' hw';have HK:=keep hkept hw';simp only[zc,ka,kb,zb,kfa,kga]at HK;go_simp;first|done|rfl));go_simp;refine hK _ ?_;clear hK K))
 rename_i ra hra
 revert r
 intro rb hrb
 refine Qr.walk_nil fun w6 hw6=>?_
 have hkept:=keep hkept hw6
 have W6b:=za W1b hw6
 clear hK
 have hK:=hkept
 simp only[zc,ka,kb,zb,kfa,kga]at hK
 clear W1b hw6
 cases h1:(FloatKind.f32.format.order ra ra==some .eq)
 ·have hn:jq (cn .f32 ra)=true∨jq (cn .f32 rb)=true:=.inl (vo h1)
  go_wp2_with (first|(refine z6 rfl _ _ _ _ _ rfl _ _ _ rfl rfl rfl ?_;intro r n hr)|(go_at_call 137;refine (ui _ _).mono ?_;rintro _ w4⟨rfl,hb1⟩;have W7b:=za W6b hb1;have hkept:=zn hkept hb1 rfl;replace hK:=hkept;simp only[zc,ka,kb,zb,kfa,kga]at hK;simp only[h1,Bool.not_true,Bool.not_false]))
  rename_i c1 n1 hc1 c2 n2 hc2
  have e:=zns hc1 hc2 hr hn
  exact bodyPost_ret (v:=RgV r r) (by simp[results,Tryz.results212,go_sem,hK,zf,zh];first|done|exact⟨rfl,rfl⟩) rfl ⟨_,_,rfl,by rw[zc0 hra hrb hn,e],y4 (zd W7b _) (by omega) ..⟩
 ·cases h2:(FloatKind.f32.format.order rb rb==some .eq)
  ·have hn:jq (cn .f32 ra)=true∨jq (cn .f32 rb)=true:=.inr (vo h2)
   go_upto_region 3 with (first|(go_at_call 137;refine (ui _ _).mono ?_;rintro _ w4⟨rfl,hb1⟩;have W6b:=za W6b hb1;have hkept:=zn hkept hb1 rfl;replace hK:=hkept;simp only[zc,ka,kb,zb,kfa,kga]at hK;simp only[h1,h2,Bool.not_true,Bool.not_false]))
   go_wp2_with (refine z6 rfl _ _ _ _ _ rfl _ _ _ rfl rfl rfl ?_;intro r n hr)
   rename_i c1 n1 hc1 c2 n2 hc2
   have e:=zns hc1 hc2 hr hn
   exact bodyPost_ret (v:=RgV r r) (by simp[results,Tryz.results212,go_sem,hK,zf,zh];first|done|exact⟨rfl,rfl⟩) rfl ⟨_,_,rfl,by rw[zc0 hra hrb hn,e],y4 (zd W6b _) (by omega) ..⟩
  ·go_upto_region 5 with (first|(go_at_call 137;refine (ui _ _).mono ?_;rintro _ w4⟨rfl,hb1⟩;have W6b:=za W6b hb1;have hkept:=zn hkept hb1 rfl;replace hK:=hkept;simp only[zc,ka,kb,zb,kfa,kga]at hK;simp only[h1,h2,Bool.not_true,Bool.not_false]))
   go_wp2_with (first|(go_at_call 221;refine (yw _ _ _).mono ?_;rintro _ w5⟨c1,rfl,hc1,hb1⟩;have W6b:=za W6b hb1;have hkept:=zn hkept hb1 rfl;replace hK:=hkept;simp only[zc,ka,kb,zb,kfa,kga]at hK)|(go_at_call 222;refine (ym _ _ _).mono ?_;rintro _ w7⟨c2,rfl,hc2,hb1⟩;have W6b:=za W6b hb1;have hkept:=zn hkept hb1 rfl;replace hK:=hkept;simp only[zc,ka,kb,zb,kfa,kga]at hK))
   exact bodyPost_ret (v:=RgV c1 c2) (by simp[results,Tryz.results212,go_sem,hK,zf,zh];first|done|exact⟨rfl,rfl⟩) rfl ⟨_,_,rfl,by rw[zi0 hra hrb (vo h1) (vo h2)];exact pr hc1 hc2,y4 W6b (by omega) ..⟩

theorem zfo {x y:Nat} (h:jq x=true∨jq y=true):B .add x y=vd .f32:=by
 rcases h with h|h
 ·exact zie h
 ·exact zra h
theorem vz {x:Nat} {b:Bool} (h:(FloatKind.f32.format.order x x != some .eq)=b):jq (cn .f32 x)=b:=by
 rw[vo rfl,← h];rfl

set_option maxRecDepth 100000 in
theorem yp (a b v:Nat) (w:World) :
  Calls Tryz.prog 193 #[RgV a b,F1 v] w (x6 (xw (cn .f32 a,cn .f32 b) (cn .f32 v)) w):=by
 go_enter Tryz.func193,Tryz.ntmps193
 go_upto_region 1 with fail
 generalize hW:(w.alloc (.cells #[F1 a,F1 b] 118)).alloc (.cells #[F1 0,F1 0] 118)=W1 at *
 have W1b:Below w.heap.size w W1:=by subst hW;exact xa ..
 have hkept:=yt false true hW;simp only[zr,zq,zo,zv,Nat.reduceAdd]at hkept;clear hW
 have hK:=hkept;simp only[zc,ka,kb,zb,kfa,kga]at hK
 go_upto_region 2 with (refine z6 rfl _ _ _ _ _ rfl _ _ _ rfl rfl rfl ?_;intro r n hr)
 revert n;intro n1;revert r;intro ra hra
 go_upto_region 3 with (refine z6 rfl _ _ _ _ _ rfl _ _ _ rfl rfl rfl ?_;intro r n hr)
 revert n;intro n2;revert r;intro rb hrb
 have W6b:=zd W1b (n1+n2)
 cases h1:(FloatKind.f32.format.order ra ra != some .eq)
 ·cases h2:(FloatKind.f32.format.order rb rb != some .eq)
  ·go_wp2_with (first|(go_at_call 197;refine (zu _ _ _).mono ?_;rintro _ w5⟨c1,rfl,hc1,hb1⟩;have W6b:=za W6b hb1;have hkept:=zn hkept hb1 rfl;replace hK:=hkept;simp only[zc,ka,kb,zb,kfa,kga]at hK)|(go_at_call 198;refine (zp _ _ _).mono ?_;rintro _ w7⟨c2,rfl,hc2,hb1⟩;have W6b:=za W6b hb1;have hkept:=zn hkept hb1 rfl;replace hK:=hkept;simp only[zc,ka,kb,zb,kfa,kga]at hK))
   exact bodyPost_ret (v:=RgV c1 c2) (by simp[results,Tryz.results193,go_sem,hK,zf,zh];first|done|exact⟨rfl,rfl⟩) rfl ⟨_,_,rfl,by rw[zi0 hra hrb (vz h1) (vz h2)];exact pr hc1 hc2,y4 W6b (by omega) ..⟩
  ·go_wp2_with (refine z6 rfl _ _ _ _ _ rfl _ _ _ rfl rfl rfl ?_;intro r n hr)
   rename_i c1 m1 hc1
   have hn:jq (cn .f32 ra)=true∨jq (cn .f32 rb)=true:=.inr (vz h2)
   exact bodyPost_ret (v:=RgV c1 r) (by simp[results,Tryz.results193,go_sem,hK,zf,zh];first|done|exact⟨rfl,rfl⟩) rfl ⟨_,_,rfl,by rw[zc0 hra hrb hn];exact pr (hc1.trans (zfo hn)) (hr.trans (zfo hn)),y4 (zd W1b _) (by omega) ..⟩
 ·go_wp2_with (refine z6 rfl _ _ _ _ _ rfl _ _ _ rfl rfl rfl ?_;intro r n hr)
  rename_i c1 m1 hc1
  have hn:jq (cn .f32 ra)=true∨jq (cn .f32 rb)=true:=.inl (vz h1)
  exact bodyPost_ret (v:=RgV c1 r) (by simp[results,Tryz.results193,go_sem,hK,zf,zh];first|done|exact⟨rfl,rfl⟩) rfl ⟨_,_,rfl,by rw[zc0 hra hrb hn];exact pr (hc1.trans (zfo hn)) (hr.trans (zfo hn)),y4 (zd W1b _) (by omega) ..⟩
end Go.Proofs.YtbiacfkiakddiaaGreat
