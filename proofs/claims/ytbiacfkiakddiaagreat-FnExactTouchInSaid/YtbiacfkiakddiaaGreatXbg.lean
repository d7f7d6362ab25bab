/-
 Lemmas: V6,V7,V9.
-/
import Derived.Test.YtbiacfkiakddiaaGreatXbf
set_option linter.unusedVariables false
set_option linter.unusedSimpArgs false
set_option maxHeartbeats 2000000
namespace Go.Proofs.YtbiacfkiakddiaaGreat
open Go.RowKit Go.Fl
theorem kqd (x:Nat):zxe x:=u8 x
theorem zyt (u p q r s t x:Bool):u=true∨(u=false∧p=false)∨(u=false∧p=true∧q=false)∨(u=false∧p=true∧q=true∧r=false)∨(u=false∧p=true∧q=true∧r=true∧s=false)∨(u=false∧p=true∧q=true∧r=true∧s=true∧t=false)∨(u=false∧p=true∧q=true∧r=true∧s=true∧t=true∧x=false)∨(u=false∧p=true∧q=true∧r=true∧s=true∧t=true∧x=true):=by
 cases u<;>cases p<;>cases q<;>cases r<;>cases s<;>cases t<;>cases x<;>simp

theorem zu6 (lo hi A C:Nat) (x:Nat × Nat) (s:Nat):j4 (cn .f32 lo) (cn .f32 hi) A C x s=if (FloatKind.f32.format.order lo hi==some .eq) then yz x else if ((FloatKind.f32.format.order lo 3397386240==some .gt || FloatKind.f32.format.order lo 3397386240==some .eq) && (FloatKind.f32.format.order lo 1249902592==some .lt || FloatKind.f32.format.order lo 1249902592==some .eq) && (FloatKind.f32.format.order hi 3397386240==some .gt || FloatKind.f32.format.order hi 3397386240==some .eq) && (FloatKind.f32.format.order hi 1249902592==some .lt || FloatKind.f32.format.order hi 1249902592==some .eq) && (zba A && zba C)) then (0,B .mul 1082130432 s) else (0,kl):=by
 unfold j4 zjq
 rw[Fl.gek_c (by decide +kernel),za0 (by decide +kernel),Fl.gek_c (by decide +kernel),za0 (by decide +kernel),zpk,eqk]

theorem zu8 {P:Program} {o:Oper} {a:Act} {K:Act→World→Prop} {Q:Exit→Act→World→Prop} {w:World} (op:BinOp) (t:TypeId) (k:FloatKind) (u v:Nat) (hop:zik op=true)
  (h:∀ r n,cn k r=bin op k (cn k u) (cn k v)→Oper.upon P o a K Q (.ok (.value (.float k r)) (w.drewN n))):Oper.upon P o a K Q (((binOp op t (.float k u) (.float k v)).run P w).andThen fun a w'=>Result.ok (Next.value a) w'):=by
 obtain⟨r,n,hr,hc⟩:=zfm (P:=P) w op t k u v hop
 rw[hr]
 exact h r n hc


set_option maxRecDepth 100000 in
theorem zct (a b v:Nat) (w:World) :
  Calls Tryz.prog 195 #[RgV a b,F1 v] w (x6 (xl (cn .f32 a,cn .f32 b) (cn .f32 v)) w):=by
 go_enter Tryz.func195,Tryz.ntmps195
 go_upto_region 1 with fail
 generalize hW:(w.alloc (.cells #[F1 a,F1 b] 118)).alloc (.cells #[F1 0,F1 0] 118)=W1 at *
 have W1b:Below w.heap.size w W1:=by subst hW;exact xa ..
 have hkept:=yt false true hW;simp only[zr,zq,zo,zv,Nat.reduceAdd]at hkept;clear hW
 have hK:=hkept;simp only[zc,ka,kb,zb,kfa,kga]at hK
 go_upto_region 2 with (refine z6 rfl _ _ _ _ _ rfl _ _ _ rfl rfl rfl ?_;intro r n hr)
 generalize r=m at *
 generalize n=n1 at *
 have hm:cn .f32 m=B .mul 1073741824 (cn .f32 v):=hr
 clear hr
 go_upto_region 3 with (first|(refine jz rfl 255 _ _ rfl rfl _ zfh _ (zbf _ _ _ _) ?_;rintro _ n ⟨r1,rfl,hr1⟩)|(refine z6 rfl _ _ _ _ _ rfl _ _ _ rfl rfl rfl ?_;intro r n hr)|(refine zbb rfl _ _ _ rfl _ rfl ?_ ?_ kqd ?_;exact jx;exact Tryz.underlying89;intro r n hr)|(refine vq rfl _ _ _ rfl _ rfl ?_ ?_ ?_ ?_;exact xb;exact Tryz.underlying25;(simp only[*];exact zdb _);intro r2 n hr2))
 have hlo:cn .f32 r2=j2 (B .quo (cn .f32 a) (cn .f32 m)):=by simp only[j2, *]
 generalize r2=lo at *
 go_upto_region 4 with (first|(refine jz rfl 255 _ _ rfl rfl _ zfh _ (zbf _ _ _ _) ?_;rintro _ n ⟨r1,rfl,hr1⟩)|(refine z6 rfl _ _ _ _ _ rfl _ _ _ rfl rfl rfl ?_;intro r n hr)|(refine zbb rfl _ _ _ rfl _ rfl ?_ ?_ kqd ?_;exact jx;exact Tryz.underlying89;intro r n hr)|(refine vq rfl _ _ _ rfl _ rfl ?_ ?_ ?_ ?_;exact xb;exact Tryz.underlying25;(simp only[*];exact zdb _);intro r2 n hr2))
 have hhi:cn .f32 r2=j2 (B .quo (cn .f32 b) (cn .f32 m)):=by simp only[j2, *]
 generalize r2=hi at *
 clear hr hr1 hr2
 have e0:xl (cn .f32 a,cn .f32 b) (cn .f32 v)=j4 (cn .f32 lo) (cn .f32 hi) (B .mul (cn .f32 m) (cn .f32 lo)) (B .mul (cn .f32 m) (cn .f32 hi)) (B .sub (cn .f32 a) (B .mul (cn .f32 m) (cn .f32 lo)),B .sub (cn .f32 b) (B .mul (cn .f32 m) (cn .f32 lo))) (cn .f32 v):=by unfold xl k5;simp only;rw[← hm,← hlo,← hhi]
 obtain⟨U,hU⟩:∃ U,Hid (xl (cn .f32 a,cn .f32 b) (cn .f32 v)=U):=⟨_,rfl⟩
 have hUo:=hU.out
 rw[e0,zu6]at hUo
 obtain⟨FA,hFA⟩:∃ FA,Hid (eqk .f32 (B .sub (B .mul (cn .f32 m) (cn .f32 lo)) (B .mul (cn .f32 m) (cn .f32 lo))) 0=FA):=⟨_,rfl⟩
 obtain⟨FB,hFB⟩:∃ FB,Hid (eqk .f32 (B .sub (B .mul (cn .f32 m) (cn .f32 hi)) (B .mul (cn .f32 m) (cn .f32 hi))) 0=FB):=⟨_,rfl⟩
 rw[show zba (B .mul (cn .f32 m) (cn .f32 lo))=FA from hFA.out,show zba (B .mul (cn .f32 m) (cn .f32 hi))=FB from hFB.out]at hUo
 clear e0 hlo hhi
 rcases zyt (FloatKind.f32.format.order lo hi==some .eq) (FloatKind.f32.format.order lo 3397386240==some .gt || FloatKind.f32.format.order lo 3397386240==some .eq) (FloatKind.f32.format.order lo 1249902592==some .lt || FloatKind.f32.format.order lo 1249902592==some .eq) (FloatKind.f32.format.order hi 3397386240==some .gt || FloatKind.f32.format.order hi 3397386240==some .eq) (FloatKind.f32.format.order hi 1249902592==some .lt || FloatKind.f32.format.order hi 1249902592==some .eq) FA FB with h1|⟨h1,h2⟩|⟨h1,h2,h3⟩|⟨h1,h2,h3,h4⟩|⟨h1,h2,h3,h4,h5⟩|⟨h1,h2,h3,h4,h5,h6⟩|⟨h1,h2,h3,h4,h5,h6,h7⟩|⟨h1,h2,h3,h4,h5,h6,h7⟩
 ·rw[h1,if_pos rfl]at hUo
  subst hUo
  go_upto_region 6 with (first|(refine z6 rfl _ _ _ _ _ rfl _ _ _ rfl rfl rfl ?_;intro r n hr)|(go_at_call 188;refine (y5 _ _).mono ?_;rintro _ w8⟨l2,u2,rfl,e2,hb1⟩;have W8b:=za (zd W1b _) hb1;have hkept:=zn hkept hb1 rfl;replace hK:=hkept;simp only[zc,ka,kb,zb,kfa,kga]at hK))
  have hbA:Below w8.heap.size w8 (w8.alloc (.cells #[F1 l2,F1 u2] 118)):=zt ..
  have hkept:=ze (keep hkept hbA) (show zc [(⟨w8.heap.size,0,none⟩,F1 l2),(⟨w8.heap.size,1,none⟩,F1 u2)] [] (w8.alloc (.cells #[F1 l2,F1 u2] 118)) by simp only[zc,ka,kb,zb,kfa,kga];simp)
  have W9b:=za W8b hbA
  generalize w8.alloc (.cells #[F1 l2,F1 u2] 118)=W9 at *
  clear hK
  have hK:=hkept;simp only[zc,ka,kb,zb,kfa,kga]at hK
  go_wp2_with (first|(go_at_call 187;refine (yn _ _ _ _ _).mono ?_;rintro _ w5⟨l3,u3,rfl,e3,hb1⟩;have W10b:=za W9b hb1;have hkept:=zn hkept hb1 rfl;replace hK:=hkept;simp only[zc,ka,kb,zb,kfa,kga]at hK)|(go_at_call 194;refine (yu _ _ _).mono ?_;rintro _ w7⟨l4,u4,rfl,e4,hb1⟩;have W11b:=za W10b hb1;have hkept:=zn hkept hb1 rfl;replace hK:=hkept;simp only[zc,ka,kb,zb,kfa,kga]at hK))
  have e5:yz (jm (cn .f32 a,cn .f32 b) (cn .f32 l2,cn .f32 u2))=xl (cn .f32 a,cn .f32 b) (cn .f32 v):=by rw[hU.out,e2,hr];rfl
  exact bodyPost_ret (v:=RgV l4 u4) (by simp[results,Tryz.results195,go_sem,hK,zf,zh];first|done|exact⟨rfl,rfl⟩) rfl ⟨_,_,rfl,by rw[e4,e3,e5],y4 W11b (by omega) ..⟩
 all_goals
  simp only[*,Bool.and_true,Bool.and_false,Bool.false_and,Bool.true_and,Bool.false_eq_true,if_true,if_false]at hUo
  subst hUo
  try (rw[‹FA=_›]at hFA)
  try (rw[‹FB=_›]at hFB)
  try clear h6
  try clear h7
  go_wp2_with (first|(refine z6 rfl _ _ _ _ _ rfl _ _ _ rfl rfl rfl ?_;intro r n hr)|(refine zu8 _ _ _ _ _ rfl ?_;intro r n hr)|(go_at_call 149;refine (zel _ _).mono ?_;rintro _ w8⟨rfl,hb1⟩;have W1b:=za (zd W1b _) hb1;have hkept:=zn hkept hb1 rfl;replace hK:=hkept;simp only[zc,ka,kb,zb,kfa,kga]at hK;first|rw[hr,hFA.out]|rw[hr,hFB.out])|(go_at_call 126;refine (qt _).mono ?_;rintro _ w9⟨r1,rfl,hr1,hb1⟩;have W1b:Below w.heap.size w w9:=(by first|exact za W1b hb1|exact za (zd W1b _) hb1);have hkept:=zn hkept hb1 rfl;replace hK:=hkept;simp only[zc,ka,kb,zb,kfa,kga]at hK)|(refine vq rfl _ _ _ rfl _ rfl ?_ ?_ ?_ ?_;exact xb;exact Tryz.underlying25;(rw[hr1];exact j1);intro r2 n hr2))
  first
   | exact bodyPost_ret (v:=RgV 0 r2) (by simp[results,Tryz.results195,go_sem,hK,zf,zh];first|done|exact⟨rfl,rfl⟩) rfl ⟨_,_,rfl,(pr (ye _) (hr2.trans (by rw[hr1];decide +kernel))).trans hU.out.symm,y4 (zd W1b _) (by omega) ..⟩
   | exact bodyPost_ret (v:=RgV 0 r) (by simp[results,Tryz.results195,go_sem,hK,zf,zh];first|done|exact⟨rfl,rfl⟩) rfl ⟨_,_,rfl,(pr (ye _) (hr.trans (by rfl))).trans hU.out.symm,y4 (zd W1b _) (by omega) ..⟩
def zb6 (g:Nat→Nat) (r:Nat × Nat):Nat × Nat:=(g r.1,g r.2)

inductive PhiB (id:FuncId) (g:Nat→Nat) (ra:Addr):FuncId→Array Value→Value→Prop
 | call (x r:Nat) (h:cn .f32 r=g (cn .f32 x)):PhiB id g ra id #[F1 x,.pointer (some ra)] (F1 r)

set_option maxRecDepth 100000 in
theorem zbr (g:Nat→Nat) (ra:Addr) (a b:Nat) (w:World)
  (hcall:∀ x w',Below w.heap.size w w'→Calls Tryz.prog 210 #[F1 x,.pointer (some ra)] w' (Ret .f32 (g (cn .f32 x)) w')) :
  Calls Tryz.prog 209 #[RgV a b,.func (.func 210) #[] #[.pointer (some ra)]] w (x6 (zb6 g (cn .f32 a,cn .f32 b)) w):=by
 go_enter Tryz.func209,Tryz.ntmps209
 go_upto_region 1 with fail
 generalize hW:(w.alloc (.cells #[F1 a,F1 b] 118)).alloc (.cells #[F1 0,F1 0] 118)=W1 at *
 have W1b:Below w.heap.size w W1:=by subst hW;exact xa ..
 have hkept:=yt false true hW;simp only[zr,zq,zo,zv,Nat.reduceAdd]at hkept;clear hW
 have hK:=hkept;simp only[zc,ka,kb,zb,kfa,kga]at hK
 refine Qr.wp_below 9 (by kernel_rfl) (by kernel_rfl) (PhiB 210 g ra) ?_
 repeat (refine Qr.walk_plain rfl fun K hK=>?_;(first|(apply Qr.one_det;(focus (intro w' hw';have HK:=keep hkept hw';simp only[zc,ka,kb,zb,kfa,kga]at HK;go_simp;first|done|rfl)))|(apply Qr.one_call;(focus (intro w' hw';go_simp;first|done|exact⟨rfl,rfl⟩));(focus (intro w' hw';refine (hcall _ _ (za W1b hw')).mono ?_;rintro _ w2⟨r1,rfl,hr1,hb1⟩;exact⟨_,rfl,.call _ _ hr1,za hw' ‹_›,by assumption⟩));intro v hv;cases hv));go_simp;refine hK _ ?_;clear hK K)
 rename_i r1 hr1 r2 hr2
 refine Qr.walk_nil fun w6 hw6=>?_
 have hkept:=keep hkept hw6
 have W6b:=za W1b hw6
 clear hK
 have hK:=hkept
 simp only[zc,ka,kb,zb,kfa,kga]at hK
 go_wp2_with fail
 exact bodyPost_ret (v:=RgV r1 r2) (by simp[results,Tryz.results209,go_sem,hK,zf,zh];first|done|exact⟨rfl,rfl⟩) rfl ⟨_,_,rfl,pr hr1 hr2,y4 W6b (by omega) ..⟩

set_option maxRecDepth 100000 in
theorem zpu (g:Nat→Nat) (ra:Addr) (a b:Nat) (w:World)
  (hcall:∀ x w',Below w.heap.size w w'→Calls Tryz.prog 218 #[F1 x,.pointer (some ra)] w' (Ret .f32 (g (cn .f32 x)) w')) :
  Calls Tryz.prog 209 #[RgV a b,.func (.func 218) #[] #[.pointer (some ra)]] w (x6 (zb6 g (cn .f32 a,cn .f32 b)) w):=by
 go_enter Tryz.func209,Tryz.ntmps209
 go_upto_region 1 with fail
 generalize hW:(w.alloc (.cells #[F1 a,F1 b] 118)).alloc (.cells #[F1 0,F1 0] 118)=W1 at *
 have W1b:Below w.heap.size w W1:=by subst hW;exact xa ..
 have hkept:=yt false true hW;simp only[zr,zq,zo,zv,Nat.reduceAdd]at hkept;clear hW
 have hK:=hkept;simp only[zc,ka,kb,zb,kfa,kga]at hK
 refine Qr.wp_below 9 (by kernel_rfl) (by kernel_rfl) (PhiB 218 g ra) ?_
 repeat (refine Qr.walk_plain rfl fun K hK=>?_;(first|(apply Qr.one_det;(focus (intro w' hw';have HK:=keep hkept hw';simp only[zc,ka,kb,zb,kfa,kga]at HK;go_simp;first|done|rfl)))|(apply Qr.one_call;(focus (intro w' hw';go_simp;first|done|exact⟨rfl,rfl⟩));(focus (intro w' hw';refine (hcall _ _ (za W1b hw')).mono ?_;rintro _ w2⟨r1,rfl,hr1,hb1⟩;exact⟨_,rfl,.call _ _ hr1,za hw' ‹_›,by assumption⟩));intro v hv;cases hv));go_simp;refine hK _ ?_;clear hK K)
 rename_i r1 hr1 r2 hr2
 refine Qr.walk_nil fun w6 hw6=>?_
 have hkept:=keep hkept hw6
 have W6b:=za W1b hw6
 clear hK
 have hK:=hkept
 simp only[zc,ka,kb,zb,kfa,kga]at hK
 go_wp2_with fail
 exact bodyPost_ret (v:=RgV r1 r2) (by simp[results,Tryz.results209,go_sem,hK,zf,zh];first|done|exact⟨rfl,rfl⟩) rfl ⟨_,_,rfl,pr hr1 hr2,y4 W6b (by omega) ..⟩

set_option maxRecDepth 100000 in
theorem zg5 (g:Nat→Nat) (ra:Addr) (a b:Nat) (w:World)
  (hcall:∀ x w',Below w.heap.size w w'→Calls Tryz.prog 223 #[F1 x,.pointer (some ra)] w' (Ret .f32 (g (cn .f32 x)) w')) :
  Calls Tryz.prog 209 #[RgV a b,.func (.func 223) #[] #[.pointer (some ra)]] w (x6 (zb6 g (cn .f32 a,cn .f32 b)) w):=by
 go_enter Tryz.func209,Tryz.ntmps209
 go_upto_region 1 with fail
 generalize hW:(w.alloc (.cells #[F1 a,F1 b] 118)).alloc (.cells #[F1 0,F1 0] 118)=W1 at *
 have W1b:Below w.heap.size w W1:=by subst hW;exact xa ..
 have hkept:=yt false true hW;simp only[zr,zq,zo,zv,Nat.reduceAdd]at hkept;clear hW
 have hK:=hkept;simp only[zc,ka,kb,zb,kfa,kga]at hK
 refine Qr.wp_below 9 (by kernel_rfl) (by kernel_rfl) (PhiB 223 g ra) ?_
 repeat (refine Qr.walk_plain rfl fun K hK=>?_;(first|(apply Qr.one_det;(focus (intro w' hw';have HK:=keep hkept hw';simp only[zc,ka,kb,zb,kfa,kga]at HK;go_simp;first|done|rfl)))|(apply Qr.one_call;(focus (intro w' hw';go_simp;first|done|exact⟨rfl,rfl⟩));(focus (intro w' hw';refine (hcall _ _ (za W1b hw')).mono ?_;rintro _ w2⟨r1,rfl,hr1,hb1⟩;exact⟨_,rfl,.call _ _ hr1,za hw' ‹_›,by assumption⟩));intro v hv;cases hv));go_simp;refine hK _ ?_;clear hK K)
 rename_i r1 hr1 r2 hr2
 refine Qr.walk_nil fun w6 hw6=>?_
 have hkept:=keep hkept hw6
 have W6b:=za W1b hw6
 clear hK
 have hK:=hkept
 simp only[zc,ka,kb,zb,kfa,kga]at hK
 go_wp2_with fail
 exact bodyPost_ret (v:=RgV r1 r2) (by simp[results,Tryz.results209,go_sem,hK,zf,zh];first|done|exact⟨rfl,rfl⟩) rfl ⟨_,_,rfl,pr hr1 hr2,y4 W6b (by omega) ..⟩

theorem zeq (x by_ rb ro:Nat) (w:World) (h:w.cell? ⟨rb,ro,none⟩=some (F1 by_)) :
  Calls Tryz.prog 210 #[F1 x,.pointer (some ⟨rb,ro,none⟩)] w (Ret .f32 (B .quo (cn .f32 x) (cn .f32 by_)) w):=by
 go_enter Tryz.func210,Tryz.ntmps210
 go_wp2_with (refine z6 rfl _ _ _ _ _ rfl _ _ _ rfl rfl rfl ?_;intro r n hr)
 go_ret
 exact⟨_,rfl,hr,(by repeat' (first|exact zi _ _|refine zd ?_ _|refine Below.alloc ?_ (by simp<;>omega) _|refine zj ?_ (by simp<;>omega) _|refine za ?_ ‹_›))⟩

theorem zty (x h nb no l cap rb ro:Nat) (w:World) (h1:w.cell? ⟨rb,ro,none⟩=some (.slice (some ⟨nb,no,none⟩) (l+1) cap)) (h2:w.cell? ⟨nb,no,none⟩=some (F1 h)) :
  Calls Tryz.prog 218 #[F1 x,.pointer (some ⟨rb,ro,none⟩)] w (Ret .f32 (zbv (cn .f32 x) (cn .f32 h)) w):=by
 go_enter Tryz.func218,Tryz.ntmps218
 have h3:(0:Int)<(l:Int)+1:=by omega
 go_wp2_with (go_at_call 219;refine (q6 _ _ _).mono ?_;rintro _ w2⟨r1,rfl,hr1,hb1⟩)
 go_ret
 exact⟨_,rfl,hr1,(by repeat' (first|exact zi _ _|refine zd ?_ _|refine Below.alloc ?_ (by simp<;>omega) _|refine zj ?_ (by simp<;>omega) _|refine za ?_ ‹_›))⟩

theorem zk7 (x k rb ro:Nat) (w:World) (h:w.cell? ⟨rb,ro,none⟩=some (F1 k)) :
  Calls Tryz.prog 223 #[F1 x,.pointer (some ⟨rb,ro,none⟩)] w (Ret .f32 (jk (cn .f32 x) (cn .f32 k)) w):=by
 go_enter Tryz.func223,Tryz.ntmps223
 go_wp2_with (go_at_call 224;refine (jj _ _ _).mono ?_;rintro _ w2⟨r1,rfl,hr1,hb1⟩)
 go_ret
 exact⟨_,rfl,hr1,(by repeat' (first|exact zi _ _|refine zd ?_ _|refine Below.alloc ?_ (by simp<;>omega) _|refine zj ?_ (by simp<;>omega) _|refine za ?_ ‹_›))⟩
inductive PhiSm (k:Nat) (ra:Addr):FuncId→Array Value→Value→Prop
 | lesser (a b r:Nat) (h:cn .f32 r=yo (cn .f32 a) (cn .f32 b)):PhiSm k ra 221 #[F1 a,F1 b] (F1 r)
 | less (a b c d l h:Nat) (e:(cn .f32 l,cn .f32 h)=jm (cn .f32 a,cn .f32 b) (cn .f32 c,cn .f32 d)):PhiSm k ra 214 #[RgV a b,RgV c d] (RgV l h)
 | apart (a b c d l h:Nat) (e:(cn .f32 l,cn .f32 h)=yz (jm (cn .f32 a,cn .f32 b) (cn .f32 c,cn .f32 d))):PhiSm k ra 156 #[RgV a b,RgV c d] (RgV l h)
 | both (a b l h:Nat) (e:(cn .f32 l,cn .f32 h)=zb6 (fun x=>jk x (cn .f32 k)) (cn .f32 a,cn .f32 b)):PhiSm k ra 209 #[RgV a b,.func (.func 223) #[] #[.pointer (some ra)]] (RgV l h)


theorem xc {w:World} {g:Nat} {x y:Value} {T:TypeId} (h:w.heap[g]? = some (.cells #[x,y] T (0,0))) :
  w.cell? ⟨g,0,none⟩=some x∧w.cell? ⟨g,1,none⟩=some y∧w.frozen? ⟨g,0,none⟩=false∧w.frozen? ⟨g,1,none⟩=false:=by
 refine⟨?_,?_,?_,?_⟩<;>simp[World.cell?,World.frozen?,h]
theorem zdh {w:World} {g:Nat} {x y:Value} {T:TypeId} (h:w.heap[g]? = some (.cells #[x,y] T (0,0))) :
  zc [(⟨g,0,none⟩,x),(⟨g,1,none⟩,y)] [⟨g,0,none⟩,⟨g,1,none⟩] w:=by
 obtain⟨h1,h2,h3,h4⟩:=xc h
 simp only[zc,ka,kb,zb,kfa,kga]
 simp[h1,h2,h3,h4]
theorem zay {w:World} {g:Nat} {a b:Value} {T:TypeId} (h:w.heap[g]? = some (.cells #[a,b] T (0,0))) (x y:Value) :
  ((w.setCell ⟨g,0,none⟩ x).setCell ⟨g,1,none⟩ y).heap[g]? = some (.cells #[x,y] T (0,0))∧Below g w ((w.setCell ⟨g,0,none⟩ x).setCell ⟨g,1,none⟩ y):=by
 refine⟨?_,?_⟩
 ·simp only[World.setCell,Array.getElem?_modify,if_true,h,Option.map_some]
  rfl
 ·have h1:Below g w (w.setCell ⟨g,0,none⟩ x):=(zi g w).setCell (p:=⟨g,0,none⟩) (Nat.le_refl g) x
  exact h1.setCell (p:=⟨g,1,none⟩) (Nat.le_refl g) y

set_option maxRecDepth 100000 in
theorem zm7 {b o bv ov cap k x0 x1 y0 y1:Nat} {w:World} (hN:zc [(⟨b,o,none⟩,.int .i64 8),(⟨b,o+3,none⟩,.slice (some ⟨bv,ov,none⟩) 1 cap),(⟨bv,ov,none⟩,F1 k)] [] w) :
  Calls Tryz.prog 136 #[.pointer (some ⟨b,o,none⟩),RgV x0 x1,RgV y0 y1] w (x6 (jm (yo (cn .f32 x0) (cn .f32 y0),yo (cn .f32 x1) (cn .f32 y1)) (zb6 (fun x=>jk x (cn .f32 k)) (jm (cn .f32 k,cn .f32 k) (yz (jm (cn .f32 x0,cn .f32 x1) (cn .f32 y0,cn .f32 y1)))))) w):=by
 have hK:=hN
 simp only[zc,ka,kb,zb,kfa,kga]at hK
 have hb:b<w.heap.size:=zg (a:=⟨b,o,none⟩) (by rw[hK.1];rfl)
 go_enter Tryz.func136,Tryz.ntmps136
 go_upto_region 1 with fail
 clear hK
 generalize hW:((w.alloc (.cells #[F1 x0,F1 x1] 118)).alloc (.cells #[F1 y0,F1 y1] 118)).alloc (.cells #[F1 0,F1 0] 118)=W1 at *
 have W1b:Below w.heap.size w W1:=by subst hW;exact vc ..
 have hkept:=xg false false true hW;simp only[zr,zq,zo,zv,Nat.reduceAdd]at hkept;clear hW
 have hkept:=ze (keep hN W1b) hkept
 clear hN
 have hK:=hkept;simp only[zc,ka,kb,zb,kfa,kga]at hK
 have hb1:b<W1.heap.size:=Nat.lt_of_lt_of_le hb W1b.size
 go_upto_region 10 with fail
 have hbA:Below W1.heap.size W1 (W1.alloc (.cells #[F1 k] 25)):=zt ..
 have hkept:=ze (keep hkept hbA) (show zc [(⟨W1.heap.size,0,none⟩,F1 k)] [] (W1.alloc (.cells #[F1 k] 25)) by simp only[zc,ka,kb,zb,kfa,kga];simp)
 have W2b:=za W1b hbA
 generalize W1.alloc (.cells #[F1 k] 25)=W2 at *
 clear hK hbA
 have hK:=hkept;simp only[zc,ka,kb,zb,kfa,kga]at hK
 refine Qr.wp_made 10 9 8 #[F1 0,F1 0] 118 (by kernel_rfl) (by kernel_rfl) (PhiSm k ⟨W1.heap.size,0,none⟩) rfl (by kernel_rfl) ⟨_,rfl,rfl,fun a w=>by go_simp⟩ (by kernel_rfl) ?_
 repeat (first|(refine Qr.walk_plain rfl fun K hK=>?_;refine Qr.one_rel (fun v=>∃ g,v=.pointer (some ⟨g,0,none⟩)) (fun w' hw'=>⟨.pointer (some ⟨w'.heap.size,0,none⟩),_,by go_simp;rfl,⟨_,rfl⟩,hw'.alloc hw'.size _,zt ..⟩) (fun v hv=>?_);obtain⟨g,rfl⟩:=hv;go_simp;refine hK _ ?_;clear hK K)|(refine Qr.walk_plain rfl fun K hK=>?_;(first|(refine zk _ _ _ _ _ rfl _ _ _ rfl rfl rfl (fun r hr=>?_))|(apply Qr.one_det;(focus (intro w' hw';have HK:=keep hkept hw';simp only[zc,ka,kb,zb,kfa,kga]at HK;go_simp;first|done|rfl)))|(apply Qr.one_call;(focus (intro w' hw';go_simp;first|done|exact⟨rfl,rfl⟩));(focus (intro w' hw';first|(have HK2:=keep hkept hw';go_at_call 209;refine (zg5 (fun x=>jk x (cn .f32 k)) _ _ _ _ (fun x w'' hb=>zk7 x k _ _ w'' ((keep HK2 hb).1 (⟨W1.heap.size,0,none⟩,F1 k) (by simp)))).mono ?_;rintro _ w2⟨l1,u1,rfl,hr1,hb1⟩ ;exact⟨_,rfl,by constructor<;>assumption,za hw' ‹_›,by assumption⟩)|((first|(go_at_call 221;refine (yw _ _ _).mono ?_)|(go_at_call 222;refine (ym _ _ _).mono ?_));rintro _ w2⟨r1,rfl,hr1,hb1⟩;exact⟨_,rfl,by constructor<;>assumption,za hw' ‹_›,by assumption⟩)|((first|(go_at_call 215;refine (xq _ _ _).mono ?_)|(go_at_call 212;refine (xm _ _ _ _).mono ?_)|(go_at_call 208;refine (ux _ _ _ _).mono ?_)|(go_at_call 214;refine (vg _ _ _ _ _).mono ?_)|(go_at_call 156;refine (qh _ _ _ _ _).mono ?_));rintro _ w2⟨l1,u1,rfl,hr1,hb1⟩;exact⟨_,rfl,by constructor<;>assumption,za hw' ‹_›,by assumption⟩)));intro v hv;cases hv));go_simp;refine hK _ ?_;clear hK K))
 rename_i l1 u1 e1 l2 u2 e2 l3 u3 e3
 refine Qr.walk_nil fun w3 hw3 hmade=>?_
 obtain⟨g3,hg3,hgw,hgc⟩:=hmade _ rfl
 injection hg3 with hg3
 injection hg3 with hg3
 subst hg3
 obtain⟨hc0,hc1,hf0,hf1⟩:=xc hgc
 have hset:=zay hgc (F1 l3) (F1 u3)
 have hbw:=hw3.trans (hset.2.mono hgw)
 go_upto_region 11 with fail
 clear hc0 hc1 hf0 hf1 hgc hw3
 generalize (w3.setCell ⟨g,0,none⟩ (F1 l3)).setCell ⟨g,1,none⟩ (F1 u3)=w4 at hset hbw ⊢
 have hkept:=ze (keep hkept hbw) (zdh hset.1)
 have W4b:=za W2b hbw
 clear hset hbw hK
 have hK:=hkept;simp only[zc,ka,kb,zb,kfa,kga]at hK
 refine Qr.wp_below 13 (by kernel_rfl) (by kernel_rfl) (PhiSm k ⟨W1.heap.size,0,none⟩) ?_
 repeat (refine Qr.walk_plain rfl fun K hK=>?_;(first|(refine zk _ _ _ _ _ rfl _ _ _ rfl rfl rfl (fun r hr=>?_))|(apply Qr.one_det;(focus (intro w' hw';have HK:=keep hkept hw';simp only[zc,ka,kb,zb,kfa,kga]at HK;go_simp;first|done|rfl)))|(apply Qr.one_call;(focus (intro w' hw';go_simp;first|done|exact⟨rfl,rfl⟩));(focus (intro w' hw';first|(have HK2:=keep hkept hw';go_at_call 209;refine (zg5 (fun x=>jk x (cn .f32 k)) _ _ _ _ (fun x w'' hb=>zk7 x k _ _ w'' ((keep HK2 hb).1 (⟨W1.heap.size,0,none⟩,F1 k) (by simp)))).mono ?_;rintro _ w2⟨l1,u1,rfl,hr1,hb1⟩ ;exact⟨_,rfl,by constructor<;>assumption,za hw' ‹_›,by assumption⟩)|((first|(go_at_call 221;refine (yw _ _ _).mono ?_)|(go_at_call 222;refine (ym _ _ _).mono ?_));rintro _ w2⟨r1,rfl,hr1,hb1⟩;exact⟨_,rfl,by constructor<;>assumption,za hw' ‹_›,by assumption⟩)|((first|(go_at_call 215;refine (xq _ _ _).mono ?_)|(go_at_call 212;refine (xm _ _ _ _).mono ?_)|(go_at_call 208;refine (ux _ _ _ _).mono ?_)|(go_at_call 214;refine (vg _ _ _ _ _).mono ?_)|(go_at_call 156;refine (qh _ _ _ _ _).mono ?_));rintro _ w2⟨l1,u1,rfl,hr1,hb1⟩;exact⟨_,rfl,by constructor<;>assumption,za hw' ‹_›,by assumption⟩)));intro v hv;cases hv));go_simp;refine hK _ ?_;clear hK K)
 rename_i r1 h1 r2 h2 r3 r4 h3
 refine Qr.walk_nil fun w6 hw6=>?_
 have hkept:=keep hkept hw6
 have W6b:=za W4b hw6
 clear hK
 have hK:=hkept
 simp only[zc,ka,kb,zb,kfa,kga]at hK
 go_wp2_with fail
 exact bodyPost_ret (v:=RgV r3 r4) (by simp[results,Tryz.results136,go_sem,hK,zf,zh];first|done|exact⟨rfl,rfl⟩) rfl ⟨_,_,rfl,by rw[h3,h1,h2,e3,e2,e1],y4 W6b (by omega) ..⟩

set_option maxRecDepth 100000 in
theorem zq8 {b o x0 x1 y0 y1:Nat} {w:World} (hN:zc [(⟨b,o,none⟩,.int .i64 9)] [] w) :
  Calls Tryz.prog 136 #[.pointer (some ⟨b,o,none⟩),RgV x0 x1,RgV y0 y1] w (x6 (cn .f32 x0,cn .f32 x1) w):=by
 have hK:=hN
 simp only[zc,ka,kb,zb,kfa,kga]at hK
 have hb:b<w.heap.size:=zg (a:=⟨b,o,none⟩) (by rw[hK];rfl)
 go_enter Tryz.func136,Tryz.ntmps136
 go_upto_region 1 with fail
 clear hK
 generalize hW:((w.alloc (.cells #[F1 x0,F1 x1] 118)).alloc (.cells #[F1 y0,F1 y1] 118)).alloc (.cells #[F1 0,F1 0] 118)=W1 at *
 have W1b:Below w.heap.size w W1:=by subst hW;exact vc ..
 have hkept:=xg false false true hW;simp only[zr,zq,zo,zv,Nat.reduceAdd]at hkept;clear hW
 have hkept:=ze (keep hN W1b) hkept
 clear hN
 have hK:=hkept;simp only[zc,ka,kb,zb,kfa,kga]at hK
 have hb1:b<W1.heap.size:=Nat.lt_of_lt_of_le hb W1b.size
 go_wp2_with fail
 exact bodyPost_ret (v:=RgV x0 x1) (by simp[results,Tryz.results136,go_sem,hK,zf,zh];first|done|exact⟨rfl,rfl⟩) rfl ⟨_,_,rfl,rfl,y4 W1b (by omega) ..⟩

set_option maxRecDepth 100000 in
theorem zi2 {b o x0 x1 y0 y1:Nat} {w:World} (hN:zc [(⟨b,o,none⟩,.int .i64 11)] [] w) :
  Calls Tryz.prog 136 #[.pointer (some ⟨b,o,none⟩),RgV x0 x1,RgV y0 y1] w (x6 (cn .f32 x0,cn .f32 x1) w):=by
 have hK:=hN
 simp only[zc,ka,kb,zb,kfa,kga]at hK
 have hb:b<w.heap.size:=zg (a:=⟨b,o,none⟩) (by rw[hK];rfl)
 go_enter Tryz.func136,Tryz.ntmps136
 go_upto_region 1 with fail
 clear hK
 generalize hW:((w.alloc (.cells #[F1 x0,F1 x1] 118)).alloc (.cells #[F1 y0,F1 y1] 118)).alloc (.cells #[F1 0,F1 0] 118)=W1 at *
 have W1b:Below w.heap.size w W1:=by subst hW;exact vc ..
 have hkept:=xg false false true hW;simp only[zr,zq,zo,zv,Nat.reduceAdd]at hkept;clear hW
 have hkept:=ze (keep hN W1b) hkept
 clear hN
 have hK:=hkept;simp only[zc,ka,kb,zb,kfa,kga]at hK
 have hb1:b<W1.heap.size:=Nat.lt_of_lt_of_le hb W1b.size
 go_wp2_with fail
 exact bodyPost_ret (v:=RgV x0 x1) (by simp[results,Tryz.results136,go_sem,hK,zf,zh];first|done|exact⟨rfl,rfl⟩) rfl ⟨_,_,rfl,rfl,y4 W1b (by omega) ..⟩

set_option maxRecDepth 100000 in
theorem zsq {b o x0 x1 y0 y1:Nat} {w:World} (hN:zc [(⟨b,o,none⟩,.int .i64 12)] [] w) :
  Calls Tryz.prog 136 #[.pointer (some ⟨b,o,none⟩),RgV x0 x1,RgV y0 y1] w (x6 (cn .f32 x0,cn .f32 x1) w):=by
 have hK:=hN
 simp only[zc,ka,kb,zb,kfa,kga]at hK
 have hb:b<w.heap.size:=zg (a:=⟨b,o,none⟩) (by rw[hK];rfl)
 go_enter Tryz.func136,Tryz.ntmps136
 go_upto_region 1 with fail
 clear hK
 generalize hW:((w.alloc (.cells #[F1 x0,F1 x1] 118)).alloc (.cells #[F1 y0,F1 y1] 118)).alloc (.cells #[F1 0,F1 0] 118)=W1 at *
 have W1b:Below w.heap.size w W1:=by subst hW;exact vc ..
 have hkept:=xg false false true hW;simp only[zr,zq,zo,zv,Nat.reduceAdd]at hkept;clear hW
 have hkept:=ze (keep hN W1b) hkept
 clear hN
 have hK:=hkept;simp only[zc,ka,kb,zb,kfa,kga]at hK
 have hb1:b<W1.heap.size:=Nat.lt_of_lt_of_le hb W1b.size
 go_wp2_with fail
 exact bodyPost_ret (v:=RgV x0 x1) (by simp[results,Tryz.results136,go_sem,hK,zf,zh];first|done|exact⟨rfl,rfl⟩) rfl ⟨_,_,rfl,rfl,y4 W1b (by omega) ..⟩

set_option maxRecDepth 100000 in
theorem zkv {b o x0 x1 y0 y1:Nat} {w:World} (hN:zc [(⟨b,o,none⟩,.int .i64 13)] [] w) :
  Calls Tryz.prog 136 #[.pointer (some ⟨b,o,none⟩),RgV x0 x1,RgV y0 y1] w (x6 (cn .f32 x0,cn .f32 x1) w):=by
 have hK:=hN
 simp only[zc,ka,kb,zb,kfa,kga]at hK
 have hb:b<w.heap.size:=zg (a:=⟨b,o,none⟩) (by rw[hK];rfl)
 go_enter Tryz.func136,Tryz.ntmps136
 go_upto_region 1 with fail
 clear hK
 generalize hW:((w.alloc (.cells #[F1 x0,F1 x1] 118)).alloc (.cells #[F1 y0,F1 y1] 118)).alloc (.cells #[F1 0,F1 0] 118)=W1 at *
 have W1b:Below w.heap.size w W1:=by subst hW;exact vc ..
 have hkept:=xg false false true hW;simp only[zr,zq,zo,zv,Nat.reduceAdd]at hkept;clear hW
 have hkept:=ze (keep hN W1b) hkept
 clear hN
 have hK:=hkept;simp only[zc,ka,kb,zb,kfa,kga]at hK
 have hb1:b<W1.heap.size:=Nat.lt_of_lt_of_le hb W1b.size
 go_wp2_with fail
 exact bodyPost_ret (v:=RgV x0 x1) (by simp[results,Tryz.results136,go_sem,hK,zf,zh];first|done|exact⟨rfl,rfl⟩) rfl ⟨_,_,rfl,rfl,y4 W1b (by omega) ..⟩

set_option maxRecDepth 100000 in
theorem zsp {b o x0 x1 y0 y1:Nat} {w:World} (hN:zc [(⟨b,o,none⟩,.int .i64 14)] [] w) :
  Calls Tryz.prog 136 #[.pointer (some ⟨b,o,none⟩),RgV x0 x1,RgV y0 y1] w (x6 (cn .f32 x0,cn .f32 x1) w):=by
 have hK:=hN
 simp only[zc,ka,kb,zb,kfa,kga]at hK
 have hb:b<w.heap.size:=zg (a:=⟨b,o,none⟩) (by rw[hK];rfl)
 go_enter Tryz.func136,Tryz.ntmps136
 go_upto_region 1 with fail
 clear hK
 generalize hW:((w.alloc (.cells #[F1 x0,F1 x1] 118)).alloc (.cells #[F1 y0,F1 y1] 118)).alloc (.cells #[F1 0,F1 0] 118)=W1 at *
 have W1b:Below w.heap.size w W1:=by subst hW;exact vc ..
 have hkept:=xg false false true hW;simp only[zr,zq,zo,zv,Nat.reduceAdd]at hkept;clear hW
 have hkept:=ze (keep hN W1b) hkept
 clear hN
 have hK:=hkept;simp only[zc,ka,kb,zb,kfa,kga]at hK
 have hb1:b<W1.heap.size:=Nat.lt_of_lt_of_le hb W1b.size
 go_wp2_with fail
 exact bodyPost_ret (v:=RgV x0 x1) (by simp[results,Tryz.results136,go_sem,hK,zf,zh];first|done|exact⟨rfl,rfl⟩) rfl ⟨_,_,rfl,rfl,y4 W1b (by omega) ..⟩

def zss (n:PN) (a b:Nat × Nat):Nat × Nat :=
 match n.kind,n.nums.map (cn .f32) with
 | 5,_=>(yo a.1 b.1,yo a.2 b.2)
 | 6,_=>(z7 a.1 b.1,z7 a.2 b.2)
 | 7,_=>(z7 a.1 (un .f32 b.2),z7 a.2 (un .f32 b.1))
 | 8,[k]=>jm (yo a.1 b.1,yo a.2 b.2) (zb6 (fun x=>jk x k) (jm (k,k) (yz (jm a b))))
 | 10,[r]=>xw a r
 | 15,[r]=>uf a r
 | 16,[r]=>uf (yz a) r
 | _,_=>a

theorem zic {n:PN} {b o:Nat} {w:World} (hn:NodeIn n b o w) (hok:n.ok) (hc:(zz n.kind).2.1 ≠ 0) (x0 x1 y0 y1:Nat) :
  Calls Tryz.prog 136 #[.pointer (some ⟨b,o,none⟩),RgV x0 x1,RgV y0 y1] w (x6 (zss n (cn .f32 x0,cn .f32 x1) (cn .f32 y0,cn .f32 y1)) w):=by
 obtain⟨bp,bv,ov,cap,h1,h2,h3⟩:=hn.nums
 have hk:=hn.kind
 have hr:=hok.kind
 have hl:=hok.nums
 obtain⟨k,na,nb,nums⟩:=n
 simp only at *
 have:k=0∨k=1∨k=2∨k=3∨k=4∨k=5∨k=6∨k=7∨k=8∨k=9∨k=10∨k=11∨k=12∨k=13∨k=14∨k=15∨k=16:=by omega
 have k1:∀ v,w.cell? ⟨b,o,none⟩=some v→zc [(⟨b,o,none⟩,v)] [] w:=fun v h=>kof (by intro p hp;simp at hp;subst hp;exact h)
 have k3:∀ v s f,w.cell? ⟨b,o,none⟩=some v→w.cell? ⟨b,o+3,none⟩=some s→w.cell? ⟨bv,ov,none⟩=some f→zc [(⟨b,o,none⟩,v),(⟨b,o+3,none⟩,s),(⟨bv,ov,none⟩,f)] [] w:=fun v s f h1 h2 h3=>kof (by intro p hp;simp at hp;rcases hp with rfl|rfl|rfl<;>assumption)
 rcases this with h|h|h|h|h|h|h|h|h|h|h|h|h|h|h|h|h<;>subst h
 iterate 5 exact absurd rfl hc
 ·exact zn8 (k1 _ hk)
 ·exact zt2 (k1 _ hk)
 ·exact zr4 (k1 _ hk)
 ·obtain⟨r,rfl⟩:=uv hl
  have:=h2 (by simp)
  subst this
  exact zm7 (k3 _ _ _ hk h1 (h3 0 (by simp)))
 ·exact zq8 (k1 _ hk)
 ·obtain⟨r,rfl⟩:=uv hl
  have:=h2 (by simp)
  subst this
  exact zpl (k3 _ _ _ hk h1 (h3 0 (by simp)))
 ·exact zi2 (k1 _ hk)
 ·exact zsq (k1 _ hk)
 ·exact zkv (k1 _ hk)
 ·exact zsp (k1 _ hk)
 ·obtain⟨r,rfl⟩:=uv hl
  have:=h2 (by simp)
  subst this
  exact zoe (k3 _ _ _ hk h1 (h3 0 (by simp)))
 ·obtain⟨r,rfl⟩:=uv hl
  have:=h2 (by simp)
  subst this
  exact zpq (k3 _ _ _ hk h1 (h3 0 (by simp)))
end Go.Proofs.YtbiacfkiakddiaaGreat
