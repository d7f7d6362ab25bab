/-
 Lemmas: A4,A6,B2,B4,B3,B5,A1.
-/
import Derived.Test.YtbiacfkiakddiaaGreatXcb
import Derived.Deep.CutRange
import Derived.Deep.RegionLaw
import Derived.Maps.AppendAt
set_option linter.unusedVariables false
set_option linter.unusedSimpArgs false
set_option maxHeartbeats 16000000
namespace Go.Proofs.YtbiacfkiakddiaaGreat
open Go.RowKit Go.Fl
theorem zgi (n:Int) (w:World) :
  Calls Tryz.prog 82 #[.int .i64 n] w (fun e w'=>e=.returned (.bool (decide (0≤n) && decide (n≤6)))∧w=w'):=by
 go_enter Tryz.func82,Tryz.ntmps82
 go_wp2_with (go_at_call 74;refine (zes _ _ _ _).mono ?_;rintro _ w2⟨rfl,rfl⟩)
 go_ret
 exact⟨rfl,rfl⟩

def tcD (R:Option (Int × Int × (Nat × Nat × Nat))):Int × Int × (Nat × Nat × Nat):=R.getD (0,0,(0,0,0))
def zd7 (R:Option (Int × Int × (Nat × Nat × Nat))) (w:World) (e:Ending) (w':World):Prop :=
 ∃ x y z,e=.returned (.tuple #[.agg #[.int .i64 (tcD R).1,.int .i64 (tcD R).2.1,F1 x,F1 y,F1 z],.bool R.isSome])∧(cn .f32 x,cn .f32 y,cn .f32 z)=(tcD R).2.2∧Below w.heap.size w w'
theorem j7 {R:Option (Int × Int × (Nat × Nat × Nat))} {w w':World} (h:R=none) (hb:Below w.heap.size w w'):zd7 R w (.returned (.tuple #[.agg #[.int .i64 0,.int .i64 0,F1 0,F1 0,F1 0],.bool false])) w':=by
 subst h
 exact⟨0,0,0,rfl,by rw[ye];rfl,hb⟩
theorem zai {R:Option (Int × Int × (Nat × Nat × Nat))} {k n:Int} {V:Nat × Nat × Nat} {x y z:Nat} {w w':World} (h:R=some (k,n,V)) (hV:(cn .f32 x,cn .f32 y,cn .f32 z)=V) (hb:Below w.heap.size w w'):zd7 R w (.returned (.tuple #[.agg #[.int .i64 k,.int .i64 n,F1 x,F1 y,F1 z],.bool true])) w':=by
 subst h
 exact⟨x,y,z,rfl,hV,hb⟩
theorem zcx {B:Nat} {w W:World} (h:Below B w W) {g:Nat} (hg:B≤g) (x0 x1 x2 x3 x4:Value):Below B w (((((W.setCell ⟨g,0,none⟩ x0).setCell ⟨g,1,none⟩ x1).setCell ⟨g,2,none⟩ x2).setCell ⟨g,3,none⟩ x3).setCell ⟨g,4,none⟩ x4) :=
 ((((h.setCell (p:=⟨g,0,none⟩) hg x0).setCell (p:=⟨g,1,none⟩) hg x1).setCell (p:=⟨g,2,none⟩) hg x2).setCell (p:=⟨g,3,none⟩) hg x3).setCell (p:=⟨g,4,none⟩) hg x4
def jp (v1 v2:Bool) (b:Bx) (s:Int):Bool:=v1 && v2 && xn b && (decide (0≤s) && decide (s≤6))


set_option maxRecDepth 100000 in
theorem ztr (ns ms:List PN) (cap cap2 a b c d e f:Nat) (s:Int) (bp bp2:Option Addr) (w:World) (hok:jp (xd ns) (xd ms) (cnB a b c d e f) s=false)
  (hv1:∀ w',Below w.heap.size w w'→Calls Tryz.prog 65 #[.agg #[.slice bp ns.length cap]] w' (fun e w''=>e=.returned (.bool (xd ns))∧Below w'.heap.size w' w''))
  (hv2:∀ w',Below w.heap.size w w'→Calls Tryz.prog 65 #[.agg #[.slice bp2 ms.length cap2]] w' (fun e w''=>e=.returned (.bool (xd ms))∧Below w'.heap.size w' w'')) :
  Calls Tryz.prog 29 #[.agg #[.slice bp ns.length cap],.agg #[.slice bp2 ms.length cap2],ug a b c d e f,.int .i64 s] w (zd7 none w):=by
 have t1:True:=trivial
 go_enter Tryz.func29,Tryz.ntmps29
 go_upto_region 1 with fail
 generalize hW:(((w.alloc (.cells #[.slice bp ns.length cap] 36)).alloc (.cells #[.slice bp2 ms.length cap2] 36)).alloc (.cells #[F1 a,F1 b,F1 c,F1 d,F1 e,F1 f] 40)).alloc (.cells #[.int .i64 0,.int .i64 0,F1 0,F1 0,F1 0] 54)=W1 at *
 have W1b:Below w.heap.size w W1:=by subst hW;exact zgn ..
 have hkept:=zei false false false true hW;simp only[zr,zq,zo,zv,Nat.reduceAdd]at hkept;clear hW
 have hK:=hkept;simp only[zc,ka,kb,zb,kfa,kga]at hK
 cases hval:xd ns
 ·clear hok hv2
  go_wp2_with (clear t1;go_at_call 65;refine (hv1 _ W1b).mono ?_;rintro _ w2⟨rfl,hb1⟩;have W1b:=za W1b hb1;have hkept:=zn hkept hb1 rfl;replace hK:=hkept;simp only[zc,ka,kb,zb,kfa,kga]at hK;rw[hval])
  exact bodyPost_ret (v:=.tuple #[.agg #[.int .i64 0,.int .i64 0,F1 0,F1 0,F1 0],.bool false]) (by simp[results,Tryz.results29,go_sem,hK,zf,zh]) rfl (j7 rfl (zcx W1b (by omega) _ _ _ _ _))
 cases hval2:xd ms
 ·clear hok
  go_wp2_with (first|(clear t1;go_at_call 65;refine (hv1 _ W1b).mono ?_;rintro _ w2⟨rfl,hb1⟩;have W1b:=za W1b hb1;have hkept:=zn hkept hb1 rfl;replace hK:=hkept;simp only[zc,ka,kb,zb,kfa,kga]at hK;rw[hval])|(go_at_call 65;refine (hv2 _ W1b).mono ?_;rintro _ w3⟨rfl,hb1⟩;have W1b:=za W1b hb1;have hkept:=zn hkept hb1 rfl;replace hK:=hkept;simp only[zc,ka,kb,zb,kfa,kga]at hK;rw[hval2]))
  exact bodyPost_ret (v:=.tuple #[.agg #[.int .i64 0,.int .i64 0,F1 0,F1 0,F1 0],.bool false]) (by simp[results,Tryz.results29,go_sem,hK,zf,zh]) rfl (j7 rfl (zcx W1b (by omega) _ _ _ _ _))
 cases hbx:zaq (cn .f32 a,cn .f32 b,cn .f32 c) (cn .f32 d,cn .f32 e,cn .f32 f)
 ·clear hok
  go_wp2_with (first|(clear t1;go_at_call 65;refine (hv1 _ W1b).mono ?_;rintro _ w2⟨rfl,hb1⟩;have W1b:=za W1b hb1;have hkept:=zn hkept hb1 rfl;replace hK:=hkept;simp only[zc,ka,kb,zb,kfa,kga]at hK;rw[hval])|(go_at_call 65;refine (hv2 _ W1b).mono ?_;rintro _ w3⟨rfl,hb1⟩;have W1b:=za W1b hb1;have hkept:=zn hkept hb1 rfl;replace hK:=hkept;simp only[zc,ka,kb,zb,kfa,kga]at hK;rw[hval2])|(go_at_call 66;refine (jl _ _ _ _ _ _ _).mono ?_;rintro _ w4⟨rfl,hb1⟩;have W1b:=za W1b hb1;have hkept:=zn hkept hb1 rfl;replace hK:=hkept;simp only[zc,ka,kb,zb,kfa,kga]at hK;rw[hbx]))
  exact bodyPost_ret (v:=.tuple #[.agg #[.int .i64 0,.int .i64 0,F1 0,F1 0,F1 0],.bool false]) (by simp[results,Tryz.results29,go_sem,hK,zf,zh]) rfl (j7 rfl (zcx W1b (by omega) _ _ _ _ _))
 cases hin:(decide (0≤s) && decide (s≤6))
 ·clear hok
  go_wp2_with (first|(clear t1;go_at_call 65;refine (hv1 _ W1b).mono ?_;rintro _ w2⟨rfl,hb1⟩;have W1b:=za W1b hb1;have hkept:=zn hkept hb1 rfl;replace hK:=hkept;simp only[zc,ka,kb,zb,kfa,kga]at hK;rw[hval])|(go_at_call 65;refine (hv2 _ W1b).mono ?_;rintro _ w3⟨rfl,hb1⟩;have W1b:=za W1b hb1;have hkept:=zn hkept hb1 rfl;replace hK:=hkept;simp only[zc,ka,kb,zb,kfa,kga]at hK;rw[hval2])|(go_at_call 66;refine (jl _ _ _ _ _ _ _).mono ?_;rintro _ w4⟨rfl,hb1⟩;have W1b:=za W1b hb1;have hkept:=zn hkept hb1 rfl;replace hK:=hkept;simp only[zc,ka,kb,zb,kfa,kga]at hK;rw[hbx])|(go_at_call 82;refine (zgi _ _).mono ?_;rintro _ w5⟨rfl,rfl⟩;rw[hin]))
  exact bodyPost_ret (v:=.tuple #[.agg #[.int .i64 0,.int .i64 0,F1 0,F1 0,F1 0],.bool false]) (by simp[results,Tryz.results29,go_sem,hK,zf,zh]) rfl (j7 rfl (zcx W1b (by omega) _ _ _ _ _))
 exact absurd hok (by unfold jp;rw[hval,hval2,hin,show xn (cnB a b c d e f)=true from hbx];simp)
end Go.Proofs.YtbiacfkiakddiaaGreat

namespace Go.Proofs.YtbiacfkiakddiaaGreat
open Go.RowKit Go.Fl
set_option maxRecDepth 100000 in
theorem zoq (ns ms:List PN) (cap cap2 a b c d e f:Nat) (s:Int) (bp bp2:Option Addr) (w:World) (hok:jp (v6 ns) (v6 ms) (cnB a b c d e f) s=false)
  (hv1:∀ sb w',w'.cell? ⟨sb,0,none⟩=some (.slice bp ns.length cap)→Below w.heap.size w w'→Calls Tryz.prog 60 #[.pointer (some ⟨sb,0,none⟩)] w' (fun e w''=>e=.returned (.bool (v6 ns))∧Below w'.heap.size w' w''))
  (hv2:∀ sb w',w'.cell? ⟨sb,0,none⟩=some (.slice bp2 ms.length cap2)→Below w.heap.size w w'→Calls Tryz.prog 60 #[.pointer (some ⟨sb,0,none⟩)] w' (fun e w''=>e=.returned (.bool (v6 ms))∧Below w'.heap.size w' w'')) :
  Calls Tryz.prog 28 #[.agg #[.slice bp ns.length cap],.agg #[.slice bp2 ms.length cap2],ug a b c d e f,.int .i64 s] w (zd7 none w):=by
 have t1:True:=trivial
 go_enter Tryz.func28,Tryz.ntmps28
 go_upto_region 1 with fail
 generalize hW:(((w.alloc (.cells #[.slice bp ns.length cap] 36)).alloc (.cells #[.slice bp2 ms.length cap2] 36)).alloc (.cells #[F1 a,F1 b,F1 c,F1 d,F1 e,F1 f] 40)).alloc (.cells #[.int .i64 0,.int .i64 0,F1 0,F1 0,F1 0] 54)=W1 at *
 have W1b:Below w.heap.size w W1:=by subst hW;exact zgn ..
 have hkept:=zei false false false true hW;simp only[zr,zq,zo,zv,Nat.reduceAdd]at hkept;clear hW
 have hK:=hkept;simp only[zc,ka,kb,zb,kfa,kga]at hK
 cases hval:v6 ns
 ·clear hok hv2
  go_wp2_with (clear t1;go_at_call 60;refine (hv1 _ _ (by simp[hK]) W1b).mono ?_;rintro _ w2⟨rfl,hb1⟩;have W1b:=za W1b hb1;have hkept:=zn hkept hb1 rfl;replace hK:=hkept;simp only[zc,ka,kb,zb,kfa,kga]at hK;rw[hval])
  exact bodyPost_ret (v:=.tuple #[.agg #[.int .i64 0,.int .i64 0,F1 0,F1 0,F1 0],.bool false]) (by simp[results,Tryz.results28,go_sem,hK,zf,zh]) rfl (j7 rfl (zcx W1b (by omega) _ _ _ _ _))
 cases hval2:v6 ms
 ·clear hok
  go_wp2_with (first|(clear t1;go_at_call 60;refine (hv1 _ _ (by simp[hK]) W1b).mono ?_;rintro _ w2⟨rfl,hb1⟩;have W1b:=za W1b hb1;have hkept:=zn hkept hb1 rfl;replace hK:=hkept;simp only[zc,ka,kb,zb,kfa,kga]at hK;rw[hval])|(go_at_call 60;refine (hv2 _ _ (by simp[hK]) W1b).mono ?_;rintro _ w3⟨rfl,hb1⟩;have W1b:=za W1b hb1;have hkept:=zn hkept hb1 rfl;replace hK:=hkept;simp only[zc,ka,kb,zb,kfa,kga]at hK;rw[hval2]))
  exact bodyPost_ret (v:=.tuple #[.agg #[.int .i64 0,.int .i64 0,F1 0,F1 0,F1 0],.bool false]) (by simp[results,Tryz.results28,go_sem,hK,zf,zh]) rfl (j7 rfl (zcx W1b (by omega) _ _ _ _ _))
 cases hbx:zaq (cn .f32 a,cn .f32 b,cn .f32 c) (cn .f32 d,cn .f32 e,cn .f32 f)
 ·clear hok
  go_wp2_with (first|(clear t1;go_at_call 60;refine (hv1 _ _ (by simp[hK]) W1b).mono ?_;rintro _ w2⟨rfl,hb1⟩;have W1b:=za W1b hb1;have hkept:=zn hkept hb1 rfl;replace hK:=hkept;simp only[zc,ka,kb,zb,kfa,kga]at hK;rw[hval])|(go_at_call 60;refine (hv2 _ _ (by simp[hK]) W1b).mono ?_;rintro _ w3⟨rfl,hb1⟩;have W1b:=za W1b hb1;have hkept:=zn hkept hb1 rfl;replace hK:=hkept;simp only[zc,ka,kb,zb,kfa,kga]at hK;rw[hval2])|(go_at_call 61;refine (qi a b c d e f _ _ _ (by simp only[zc,ka,kb,zb,kfa,kga];simp[hK])).mono ?_;rintro _ w4⟨rfl,hb1⟩;have W1b:=za W1b hb1;have hkept:=zn hkept hb1 rfl;replace hK:=hkept;simp only[zc,ka,kb,zb,kfa,kga]at hK;rw[hbx]))
  exact bodyPost_ret (v:=.tuple #[.agg #[.int .i64 0,.int .i64 0,F1 0,F1 0,F1 0],.bool false]) (by simp[results,Tryz.results28,go_sem,hK,zf,zh]) rfl (j7 rfl (zcx W1b (by omega) _ _ _ _ _))
 cases hin:(decide (0≤s) && decide (s≤6))
 ·clear hok
  go_wp2_with (first|(clear t1;go_at_call 60;refine (hv1 _ _ (by simp[hK]) W1b).mono ?_;rintro _ w2⟨rfl,hb1⟩;have W1b:=za W1b hb1;have hkept:=zn hkept hb1 rfl;replace hK:=hkept;simp only[zc,ka,kb,zb,kfa,kga]at hK;rw[hval])|(go_at_call 60;refine (hv2 _ _ (by simp[hK]) W1b).mono ?_;rintro _ w3⟨rfl,hb1⟩;have W1b:=za W1b hb1;have hkept:=zn hkept hb1 rfl;replace hK:=hkept;simp only[zc,ka,kb,zb,kfa,kga]at hK;rw[hval2])|(go_at_call 61;refine (qi a b c d e f _ _ _ (by simp only[zc,ka,kb,zb,kfa,kga];simp[hK])).mono ?_;rintro _ w4⟨rfl,hb1⟩;have W1b:=za W1b hb1;have hkept:=zn hkept hb1 rfl;replace hK:=hkept;simp only[zc,ka,kb,zb,kfa,kga]at hK;rw[hbx])|(go_at_call 71;refine (kz _ _ _ _).mono ?_;rintro _ w5⟨rfl,rfl⟩;rw[hin]))
  exact bodyPost_ret (v:=.tuple #[.agg #[.int .i64 0,.int .i64 0,F1 0,F1 0,F1 0],.bool false]) (by simp[results,Tryz.results28,go_sem,hK,zf,zh]) rfl (j7 rfl (zcx W1b (by omega) _ _ _ _ _))
 exact absurd hok (by unfold jp;rw[hval,hval2,hin,show xn (cnB a b c d e f)=true from hbx];simp)
end Go.Proofs.YtbiacfkiakddiaaGreat

namespace Go.Proofs.YtbiacfkiakddiaaGreat
open Go.RowKit Go.Fl
def vh (x:Nat):Nat:=B .mul x 1056964608
def zxj (s:Bx × Bx) (w:World) (e:Ending) (w':World):Prop :=
 ∃ a b c d e1 f a' b' c' d' e' f',e=.returned (.tuple #[ug a b c d e1 f,ug a' b' c' d' e' f'])∧cnB a b c d e1 f=s.1∧cnB a' b' c' d' e' f'=s.2∧Below w.heap.size w w'

theorem zkb (a b c k:Nat):co (cn .f32 a,cn .f32 b,cn .f32 c) k=cn .f32 (y9 a b c (k:Int)):=by
 unfold co y9
 by_cases h0:k=0
 ·subst h0;rfl
 ·by_cases h1:k=1
  ·subst h1;rfl
  ·rw[if_neg h0,if_neg h1,if_neg (by omega),if_neg (by omega)]
theorem zmg (a b c v k:Nat):(cn .f32 (xx a (k:Int) v),cn .f32 (xt b (k:Int) v),cn .f32 (xy c (k:Int) v))=zde (cn .f32 a,cn .f32 b,cn .f32 c) k (cn .f32 v):=by
 unfold zde xx xt xy
 by_cases h0:k=0
 ·subst h0;rfl
 ·by_cases h1:k=1
  ·subst h1;rfl
  ·rw[if_neg h0,if_neg h1,if_neg (by omega),if_neg (by omega),if_neg (by omega),if_neg (by omega),if_neg (by omega)]
theorem zxv (b:Bx):axG b 1=0:=by
 unfold axG
 split<;>rfl


set_option maxRecDepth 100000 in
theorem zm6 (a b c d e f:Nat) (w:World) :
  Calls Tryz.prog 73 #[ug a b c d e f] w (zxj (vf vh (cnB a b c d e f)) w):=by
 obtain⟨bB,hB⟩:∃ bB,Hid (bB=cnB a b c d e f):=⟨_,rfl⟩
 rw[← hB.out]
 have hwk:∀ k:Nat,Hid (je bB k=B .sub (cn .f32 (y9 d e f (k:Int))) (cn .f32 (y9 a b c (k:Int)))):=fun k=>by unfold Hid je;rw[hB.out];show B .sub (co (cn .f32 d,cn .f32 e,cn .f32 f) k) (co (cn .f32 a,cn .f32 b,cn .f32 c) k)=_;rw[zkb,zkb]
 have hwk:=show Hid (∀ k:Nat,Hid (je bB k=B .sub (cn .f32 (y9 d e f (k:Int))) (cn .f32 (y9 a b c (k:Int))))) from hwk
 go_enter Tryz.func73,Tryz.ntmps73
 go_upto_region 1 with fail
 generalize hW:((w.alloc (.cells #[F1 a,F1 b,F1 c,F1 d,F1 e,F1 f] 40)).alloc (.cells #[F1 0,F1 0,F1 0,F1 0,F1 0,F1 0] 40)).alloc (.cells #[F1 0,F1 0,F1 0,F1 0,F1 0,F1 0] 40)=W1 at *
 have W1b:Below w.heap.size w W1:=by subst hW;exact vc ..
 have hkept:=xg false true true hW;simp only[zr,zq,zo,zv,Nat.reduceAdd]at hkept;clear hW
 have hK:=hkept;simp only[zc,ka,kb,zb,kfa,kga]at hK
 go_wp2_with fail
 clear hK
 go_loopw [4,5] (fun ax i wr=>∃ (k:Nat),1≤k∧k≤3∧i=.int .i64 (k:Int)∧ax=.int .i64 (axG bB k:Int)∧Below W1.heap.size W1 wr) (fun _ i _=>3-(intOf i).toNat)
 case atStart=>exact⟨1,by omega,by omega,rfl,by rw[zxv];rfl,zi _ _⟩
 case round =>
  obtain⟨k,hk1,hk,rfl,rfl,Wb⟩:=hrel
  have hkept:=keep hkept Wb
  by_cases hlt:k<3
  ·have hnx:Hid (axG bB (k+1)=if gtk .f32 (je bB k) (je bB (axG bB k)) then k else axG bB k):=rfl
   obtain⟨ax,hax⟩:∃ ax,Hid (ax=axG bB k):=⟨_,rfl⟩
   rw[← hax.out]at hnx ⊢
   go_upto_region 5 with fail
   refine Qr.wp_below_all (by kernel_rfl) (by kernel_rfl) PhiP ?_
   repeat (refine Qr.walk_plain rfl fun K hK=>?_;(first|(refine zk _ _ _ _ _ rfl _ _ _ rfl rfl rfl (fun r hr=>?_))|(apply Qr.one_det;(focus (intro w' hw';have HK:=keep hkept hw';simp only[zc,ka,kb,zb,kfa,kga]at HK;go_simp;first|done|rfl)))|(apply Qr.one_call;(focus (intro w' hw';go_simp;first|done|exact⟨rfl,rfl⟩));(focus (intro w' hw';go_at_call 142;refine (xu _ _ _ _ _).mono ?_;rintro _ w2⟨rfl,hb1⟩;exact⟨_,rfl,by constructor<;>assumption,za hw' ‹_›,by assumption⟩));intro v hv;cases hv));go_simp;refine hK _ ?_;clear hK K)
   rename_i r0 hr0
   refine Qr.walk_nil fun w7 hw7=>?_
   go_wp2_with fail
   all_goals
    rename_i hb
    have hx:=zad (i:=k) (ax:=ax) hb hnx.out (((hwk.out k).out).trans hr0.symm) (((hwk.out ax).out).trans hr.symm)
    exact⟨⟨k+1,by omega,by omega,by first|rfl|(simp;omega),by rw[hx];rfl,za Wb hw7⟩,by simp[intOf];omega⟩
  ·obtain rfl:k=3:=by omega
   obtain⟨ax,hax⟩:∃ ax,Hid (ax=axG bB 3):=⟨_,rfl⟩
   rw[← hax.out]
   have W2b:=za W1b Wb
   have hK:=hkept;simp only[zc,ka,kb,zb,kfa,kga]at hK
   have hm0:Hid (vf vh bB=((bB.1,zde bB.2 ax (ze8 vh bB)),(zde bB.1 ax (ze8 vh bB),bB.2))):=by rw[hax.out];rfl
   have hmid:Hid (ze8 vh bB=B .add (co bB.1 ax) (vh (je bB ax))):=by rw[hax.out];rfl
   go_upto_region 9 with (first|(refine z6 rfl _ _ _ _ _ rfl _ _ _ rfl rfl rfl ?_;intro r n hr)|(go_at_call 142;refine (xu _ _ _ _ _).mono ?_;rintro _ w3⟨rfl,hb1⟩;have W2b:=za W2b hb1;have hkept:=zn hkept hb1 rfl;replace hK:=hkept;simp only[zc,ka,kb,zb,kfa,kga]at hK))
   rename_i r1 n1 h1 r2 n2 h2 K0 aK0
   have hm:cn .f32 r=ze8 vh bB:=by
    rw[hmid.out,(hwk.out ax).out,hB.out,hr,h2,h1,show cn .f32 1056964608=1056964608 from by decide +kernel]
    show _=B .add (co (cn .f32 a,cn .f32 b,cn .f32 c) ax) _
    rw[zkb]
    rfl
   clear h1 h2 hr hK
   have hkept:=keep hkept (show Below w3.heap.size w3 (w3.drewN (n1+n2+n)) from zd (zi _ _) _)
   have W4b:=zd W2b (n1+n2+n)
   clear hb1 W1b W2b Wb
   generalize w3.drewN (n1+n2+n)=w4 at *
   have hw4:w.heap.size+2<w4.heap.size:=zg (a:=⟨w.heap.size+1+1,0,none⟩) (by have hK:=hkept;simp only[zc,ka,kb,zb,kfa,kga]at hK;simp[hK])
   refine Qr.wp_made 9 8 8 #[F1 0,F1 0,F1 0,F1 0,F1 0,F1 0] 40 (by kernel_rfl) (by kernel_rfl) PhiP rfl (by kernel_rfl) ⟨_,rfl,rfl,fun a w=>by go_simp⟩ (by kernel_rfl) ?_
   repeat (refine Qr.walk_plain rfl fun K hK=>?_;(first|(refine zk _ _ _ _ _ rfl _ _ _ rfl rfl rfl (fun r hr=>?_))|(refine Qr.one_rel (fun v=>∃ g,v=.pointer (some ⟨g,0,none⟩)) (fun w' hw'=>⟨.pointer (some ⟨w'.heap.size,0,none⟩),_,by go_simp;rfl,⟨_,rfl⟩,hw'.alloc hw'.size _,zt ..⟩) (fun v hv=>?_);obtain⟨g,rfl⟩:=hv)|(apply Qr.one_det;(focus (intro w' hw';have HK:=keep hkept hw';simp only[zc,ka,kb,zb,kfa,kga]at HK;go_simp;first|done|rfl)))|(apply Qr.one_call;(focus (intro w' hw';go_simp;first|done|exact⟨rfl,rfl⟩));(focus (intro w' hw';go_at_call 143;refine (vm _ _ _ _ _ _).mono ?_;rintro _ w2⟨rfl,hb1⟩;exact⟨_,rfl,by constructor<;>assumption,za hw' ‹_›,by assumption⟩));intro v hv;cases hv));go_simp;refine hK _ ?_;clear hK K)
   refine Qr.walk_nil fun w5 hw5 hmade=>?_
   obtain⟨g3,hg3,hgw,hgc⟩:=hmade _ rfl
   injection hg3 with hg3
   injection hg3 with hg3
   subst hg3
   clear hmade
   obtain⟨⟨p0,p1,p2,p3,p4,p5⟩,q0,q1,q2,q3,q4,q5⟩:=qd hgc
   go_upto_region 10 with fail
   obtain⟨h6,hb6⟩:=zx8 hgc (Nat.le_refl g) (F1 a) (F1 b) (F1 c) (F1 (xx d (ax:Int) r)) (F1 (xt e (ax:Int) r)) (F1 (xy f (ax:Int) r))
   clear p0 p1 p2 p3 p4 p5 q0 q1 q2 q3 q4 q5 hgc
   generalize (((((w5.setCell ⟨g,0,none⟩ (F1 a)).setCell ⟨g,1,none⟩ (F1 b)).setCell ⟨g,2,none⟩ (F1 c)).setCell ⟨g,3,none⟩ (F1 (xx d (ax:Int) r))).setCell ⟨g,4,none⟩ (F1 (xt e (ax:Int) r))).setCell ⟨g,5,none⟩ (F1 (xy f (ax:Int) r))=w6 at *
   have hw6:=hw5.trans (hb6.mono hgw)
   clear hw5 hb6
   have hkept:=ze (keep hkept hw6) (zxf h6)
   have W6b:=za W4b hw6
   have hg1:w.heap.size+2<g:=by omega
   have hsw6:g<w6.heap.size:=(Array.getElem?_eq_some_iff.1 h6).1
   clear h6 hgw hw6
   generalize g=g1 at *
   have hw6:w.heap.size+2<w6.heap.size:=by omega
   refine Qr.wp_made 9 8 9 #[F1 0,F1 0,F1 0,F1 0,F1 0,F1 0] 40 (by kernel_rfl) (by kernel_rfl) PhiP rfl (by kernel_rfl) ⟨_,rfl,rfl,fun a w=>by go_simp⟩ (by kernel_rfl) ?_
   repeat (refine Qr.walk_plain rfl fun K hK=>?_;(first|(refine zk _ _ _ _ _ rfl _ _ _ rfl rfl rfl (fun r hr=>?_))|(refine Qr.one_rel (fun v=>∃ g,v=.pointer (some ⟨g,0,none⟩)) (fun w' hw'=>⟨.pointer (some ⟨w'.heap.size,0,none⟩),_,by go_simp;rfl,⟨_,rfl⟩,hw'.alloc hw'.size _,zt ..⟩) (fun v hv=>?_);obtain⟨g,rfl⟩:=hv)|(apply Qr.one_det;(focus (intro w' hw';have HK:=keep hkept hw';simp only[zc,ka,kb,zb,kfa,kga]at HK;go_simp;first|done|rfl)))|(apply Qr.one_call;(focus (intro w' hw';go_simp;first|done|exact⟨rfl,rfl⟩));(focus (intro w' hw';go_at_call 143;refine (vm _ _ _ _ _ _).mono ?_;rintro _ w2⟨rfl,hb1⟩;exact⟨_,rfl,by constructor<;>assumption,za hw' ‹_›,by assumption⟩));intro v hv;cases hv));go_simp;refine hK _ ?_;clear hK K)
   refine Qr.walk_nil fun w7 hw7 hmade=>?_
   obtain⟨g3,hg3,hgw,hgc⟩:=hmade _ rfl
   injection hg3 with hg3
   injection hg3 with hg3
   subst hg3
   clear hmade
   obtain⟨⟨p0,p1,p2,p3,p4,p5⟩,q0,q1,q2,q3,q4,q5⟩:=qd hgc
   go_upto_region 11 with fail
   obtain⟨h6,hb6⟩:=zx8 hgc (Nat.le_refl g) (F1 (xx a (ax:Int) r)) (F1 (xt b (ax:Int) r)) (F1 (xy c (ax:Int) r)) (F1 d) (F1 e) (F1 f)
   clear p0 p1 p2 p3 p4 p5 q0 q1 q2 q3 q4 q5 hgc
   generalize (((((w7.setCell ⟨g,0,none⟩ (F1 (xx a (ax:Int) r))).setCell ⟨g,1,none⟩ (F1 (xt b (ax:Int) r))).setCell ⟨g,2,none⟩ (F1 (xy c (ax:Int) r))).setCell ⟨g,3,none⟩ (F1 d)).setCell ⟨g,4,none⟩ (F1 e)).setCell ⟨g,5,none⟩ (F1 f)=w8 at *
   have hw8:=hw7.trans (hb6.mono hgw)
   clear hw7 hb6
   have hkept:=ze (keep hkept hw8) (zxf h6)
   have W8b:=za W6b hw8
   have hg2:w.heap.size+2<g:=by omega
   have hsw8:g<w8.heap.size:=(Array.getElem?_eq_some_iff.1 h6).1
   clear h6 hgw hw8
   generalize g=g2 at *
   have hK:=hkept;simp only[zc,ka,kb,zb,kfa,kga]at hK
   have m1:g1 ≠ w.heap.size+1:=by omega
   have m2:g1 ≠ w.heap.size+1+1:=by omega
   have m3:g2 ≠ w.heap.size+1:=by omega
   have m4:g2 ≠ w.heap.size+1+1:=by omega
   have m1':=Ne.symm m1
   have m2':=Ne.symm m2
   have m3':=Ne.symm m3
   have m4':=Ne.symm m4
   go_region
   rename_i aK
   refine aK _ _ ?_
   go_upto_region 99 with fail
   have e1:cnB a b c (xx d (ax:Int) r) (xt e (ax:Int) r) (xy f (ax:Int) r)=(vf vh bB).1:=by
    rw[hm0.out,← hm,hB.out]
    show _=(_,zde (cn .f32 d,cn .f32 e,cn .f32 f) ax (cn .f32 r))
    rw[← zmg]
    rfl
   have e2:cnB (xx a (ax:Int) r) (xt b (ax:Int) r) (xy c (ax:Int) r) d e f=(vf vh bB).2:=by
    rw[hm0.out,← hm,hB.out]
    show _=(zde (cn .f32 a,cn .f32 b,cn .f32 c) ax (cn .f32 r),_)
    rw[← zmg]
    rfl
   exact bodyPost_ret (v:=.tuple #[ug a b c (xx d (ax:Int) r) (xt e (ax:Int) r) (xy f (ax:Int) r),ug (xx a (ax:Int) r) (xt b (ax:Int) r) (xy c (ax:Int) r) d e f]) (by simp[results,Tryz.results73,go_sem,hK,zf,zh];first|done|(rfl;done)|(repeat' constructor)) rfl ⟨_,_,_,_,_,_,_,_,_,_,_,_,rfl,e1,e2,(xr (xr W8b (by omega) ..) (by omega) ..).drew⟩
end Go.Proofs.YtbiacfkiakddiaaGreat

namespace Go.Proofs.YtbiacfkiakddiaaGreat
open Go.RowKit Go.Fl Go.Ft Ieee
theorem zvc:single.read 1073741824=.number false 8388608 (-22):=by decide +kernel
theorem zs5:single.read 1056964608=.number false 8388608 (-24):=by decide +kernel

theorem zyn (n m:Nat) (s:Bool) (i:Int) (hn:n=2 ^ 23) (hp:n ≠ 0) (hl:n.log2=23) (h0:m ≠ 0) (hm:m.log2<24) :
  ((Datum.number s m i).quotient 25 (.number false n (-22))).map single.write=some (single.nearest (s ^^ false) m (i-1)):=by
 rw[za1 _ _ _ hp,hl]
 obtain⟨k,hk⟩:∃ k,25+23-m.log2=k:=⟨_,rfl⟩
 simp only[hk,Option.map_some]
 have e1:m <<< k=m*2 ^ (k-23)*n:=by
  rw[Nat.shiftLeft_eq,Nat.mul_assoc,hn,← Nat.pow_add,show k-23+23=k by omega]
 rw[e1,Nat.mul_div_cancel _ (Nat.pos_of_ne_zero hp),Nat.mul_mod_left]
 have e2:2*(m*2 ^ (k-23))+((0:Nat) != 0).toNat=m*2 ^ (k-22):=by
  rw[show k-22=k-23+1 by omega,Nat.pow_succ,show ((0:Nat) != 0).toNat=0 from rfl,Nat.add_zero,Nat.mul_comm 2,Nat.mul_assoc]
 rw[e2,Format.write,show i - -22-(k:Int)-1=(i-1)-((k-22:Nat):Int) by omega,j6 _ _ h0]
theorem zya (n m:Nat) (s:Bool) (i:Int) (hn:n=2 ^ 23) (h0:m ≠ 0) :
  ((Datum.number s m i).product (.number false n (-24))).map single.write=some (single.nearest (s ^^ false) m (i-1)):=by
 rw[Datum.product,Option.map_some,Format.write,hn,show i + -24=(i-1)-((23:Nat):Int) by omega,j6 _ _ h0]
theorem zxt (n:Nat) (s:Bool) (i:Int) (hp:n ≠ 0) :
  ((Datum.number s 0 i).quotient 25 (.number false n (-22))).map single.write=((Datum.number s 0 i).product (.number false n (-24))).map single.write:=by
 rw[za1 _ _ _ hp,Datum.product]
 simp only[Option.map_some,Nat.zero_shiftLeft,Nat.zero_div,Nat.zero_mod,Nat.zero_mul]
 rw[Format.write,Format.write,Format.nearest,Format.nearest,if_pos rfl,if_pos (show 2*0+((0:Nat) != 0).toNat=0 from rfl)]

theorem ztc (x:Nat):xk x=vh x:=by
 show (((single.read x).quotient 25 (single.read 1073741824)).map single.write).getD (vd .f32)=(((single.read x).product (single.read 1056964608)).map single.write).getD (vd .f32)
 rw[zvc,zs5]
 cases h:single.read x with
 | nan s t=>rfl
 | infinity s=>rfl
 | number s m i =>
  have b:=(xf h).1
  have e23:8388608=2 ^ 23:=by decide +kernel
  have el:Nat.log2 8388608=23:=by decide +kernel
  have ep:8388608 ≠ 0:=by decide +kernel
  generalize 8388608=n at e23 el ep ⊢
  congr 1
  by_cases h0:m=0
  ·subst h0
   exact zxt n s i ep
  ·rw[zyn n m s i e23 ep el h0 ((Nat.log2_lt h0).2 (by clear el e23;omega)),zya n m s i e23 h0]

end Go.Proofs.YtbiacfkiakddiaaGreat

namespace Go.Proofs.YtbiacfkiakddiaaGreat
open Go.RowKit Go.Fl
theorem zgk:(Tryz.prog.info? 40).map (fun i=>(i.zero,i.size,i.bytes))=some (some (.agg #[F1 0,F1 0,F1 0,F1 0,F1 0,F1 0]),6,24):=by kernel_rfl

abbrev b6 (b:Bx):List Value:=[F1 b.1.1,F1 b.1.2.1,F1 b.1.2.2,F1 b.2.1,F1 b.2.2.1,F1 b.2.2.2]
def fb (bs:List Bx):List Value:=bs.flatMap b6
theorem zvh (bs:List Bx) (b:Bx):fb (bs++[b])=fb bs++b6 b:=by simp[fb]
theorem zvu (bs:List Bx) (b c:Bx):fb (bs++[b,c])=fb bs++(b6 b++b6 c):=by simp[fb]
theorem zwf (b:Bx) (bs:List Bx):fb (b::bs)=F1 b.1.1::F1 b.1.2.1::F1 b.1.2.2::F1 b.2.1::F1 b.2.2.1::F1 b.2.2.2::fb bs:=rfl
theorem zut:∀ (bs:List Bx) (i:Nat) (h:i<bs.length),(fb bs)[i*6]? = some (F1 bs[i].1.1)∧(fb bs)[i*6+1]? = some (F1 bs[i].1.2.1)∧(fb bs)[i*6+2]? = some (F1 bs[i].1.2.2)∧(fb bs)[i*6+3]? = some (F1 bs[i].2.1)∧(fb bs)[i*6+4]? = some (F1 bs[i].2.2.1)∧(fb bs)[i*6+5]? = some (F1 bs[i].2.2.2)
 | b::bs,0,_=>⟨rfl,rfl,rfl,rfl,rfl,rfl⟩
 | b::bs,i+1,h=>by
  have:=zut bs i (by simpa using h)
  rw[zwf,show (i+1)*6=i*6+1+1+1+1+1+1 by omega]
  simpa using this

def BoxAt (g p:Nat) (b:Bx) (w:World):Prop:=∀ j u,(b6 b)[j]? = some u→w.cell? ⟨g,p+j,none⟩=some u
theorem zi8 {b:Bx} {j:Nat} {u:Value} (h:(b6 b)[j]? = some u):j<6:=by
 have:=(List.getElem?_eq_some_iff.1 h).1
 simpa using this
theorem zo1 {b:Bx} {u:Value} (h:u∈b6 b):u.oneCell'=true:=by
 simp only[List.mem_cons,List.not_mem_nil,or_false]at h
 rcases h with rfl|rfl|rfl|rfl|rfl|rfl<;>rfl

theorem zp6 {ops:Array Oper} {rest:List Oper} {o:Oper} {a:Act} {Q:Exit→Act→World→Prop} {W:World} (base:Nat) (hgd:o.guard=none) (s x:Operand)
  (ho:o.op=.call { callee:=.builtin .append,args:=#[s,x],argTypes:=#[47,47] })
  (v:Value) (m:Nat) (bs:List Bx) (hs:a.eval s=v) (hown:W.ownsRow base 40 6 v m (fb bs)) (gn c:Nat) (b:Bx) (hx:a.eval x=.slice (some ⟨gn,0,none⟩) 1 c) (hcell:BoxAt gn 0 b W)
  (hm:m≤1000) (hbase:base≤W.heap.size)
  (h:∀ v' w',w'.ownsRow base 40 6 v' (m+1) (fb (bs++[b]))→W.grownBy w' v.ownBlock→wpList Tryz.prog ops Q rest (a.put o.dst v') w'):wpList Tryz.prog ops Q (o::rest) a W:=by
 obtain⟨i0,hi,hz0,hz1,hz2⟩:=info_parts zgk
 refine wpList_append_own _ hgd s x 47 ho base 40 i0 (.agg #[F1 0,F1 0,F1 0,F1 0,F1 0,F1 0]) 6 24 Tryz.underlying47 hi hz0 hz1 hz2 rfl (by decide) v m (fb bs) hs hown ⟨gn,0,none⟩ 1 c (b6 b) hx rfl ?_ (fun u hu=>zo1 hu) (by unfold maxLen;omega) (by omega) hbase ?_
 ·intro j u hu
  have:=hcell j u hu
  rw[show (⟨gn,0,none⟩:Addr).add j=⟨gn,j,none⟩ by cases j<;>simp[Addr.add]];simpa using this
 ·intro v' w' h1 h2 _
  refine h v' w' ?_ h2
  rw[zvh]
  exact h1

theorem ztv {ops:Array Oper} {rest:List Oper} {o:Oper} {a:Act} {Q:Exit→Act→World→Prop} {W:World} (base:Nat) (hgd:o.guard=none) (s x:Operand)
  (ho:o.op=.call { callee:=.builtin .append,args:=#[s,x],argTypes:=#[47,47] })
  (v:Value) (m:Nat) (bs:List Bx) (hs:a.eval s=v) (hown:W.ownsRow base 40 6 v m (fb bs)) (gn c:Nat) (b b':Bx) (hx:a.eval x=.slice (some ⟨gn,0,none⟩) 2 c) (hcell:BoxAt gn 0 b W) (hcell':BoxAt gn 6 b' W)
  (hm:m≤1000) (hbase:base≤W.heap.size)
  (h:∀ v' w',w'.ownsRow base 40 6 v' (m+2) (fb (bs++[b,b']))→W.grownBy w' v.ownBlock→wpList Tryz.prog ops Q rest (a.put o.dst v') w'):wpList Tryz.prog ops Q (o::rest) a W:=by
 obtain⟨i0,hi,hz0,hz1,hz2⟩:=info_parts zgk
 refine wpList_append_own _ hgd s x 47 ho base 40 i0 (.agg #[F1 0,F1 0,F1 0,F1 0,F1 0,F1 0]) 6 24 Tryz.underlying47 hi hz0 hz1 hz2 rfl (by decide) v m (fb bs) hs hown ⟨gn,0,none⟩ 2 c (b6 b++b6 b') hx rfl ?_ (fun u hu=>by rcases List.mem_append.1 hu with hu|hu<;>exact zo1 hu) (by unfold maxLen;omega) (by omega) hbase ?_
 ·intro j u hu
  by_cases hj:j<6
  ·rw[List.getElem?_append_left (by simpa using hj)]at hu
   have:=hcell j u hu
   rw[show (⟨gn,0,none⟩:Addr).add j=⟨gn,j,none⟩ by cases j<;>simp[Addr.add]];simpa using this
  ·rw[List.getElem?_append_right (by simpa using hj)]at hu
   have:=hcell' (j-6) u hu
   rw[show 6+(j-6)=j by omega]at this
   rw[show (⟨gn,0,none⟩:Addr).add j=⟨gn,j,none⟩ by cases j<;>simp[Addr.add]];simpa using this
 ·intro v' w' h1 h2 _
  refine h v' w' ?_ h2
  rw[zvu]
  exact h1
end Go.Proofs.YtbiacfkiakddiaaGreat

namespace Go.Proofs.YtbiacfkiakddiaaGreat
open Go.RowKit Go.Fl
def cnb (b:Bx):Bx:=cnB b.1.1 b.1.2.1 b.1.2.2 b.2.1 b.2.2.1 b.2.2.2
def BxsIn (bs:List Bx) (g o:Nat) (w:World):Prop:=∀ i (h:i<bs.length),BoxAt g (o+i*6) bs[i] w
theorem BoxAt.keep {g p:Nat} {b:Bx} {w w':World} (h:BoxAt g p b w) (hb:Below w.heap.size w w'):BoxAt g p b w':=fun j u hu=>by
 rw[yc hb _ (by rw[h j u hu];rfl)];exact h j u hu
theorem BxsIn.keep {bs:List Bx} {g o:Nat} {w w':World} (h:BxsIn bs g o w) (hb:Below w.heap.size w w'):BxsIn bs g o w':=fun i hi=>(h i hi).keep hb
def zcl (half:Nat→Nat) (b:Bx):Bool:=xn b && (xn (vf half b).1 && xn (vf half b).2)
def jc (half:Nat→Nat) (bs:List Bx):List Bx:=bs.flatMap fun b=>[(vf half b).1,(vf half b).2]
def zxc (ok:Bool) (R:List Bx) (w:World) (e:Ending) (w':World):Prop :=
 ∃ v bs,e=.returned (.tuple #[v,.bool ok])∧(ok=true→w'.ownsRow w.heap.size 40 6 v bs.length (fb bs)∧bs.map cnb=R)∧Below w.heap.size w w'

theorem zi7 {W:World} {h:Nat} (hh:h=W.heap.size) (A:Array Value) (T:TypeId) (j:Nat) (u:Value) (hj:A[j]? = some u):(W.alloc (.cells A T)).cell? ⟨h,j,none⟩=some u:=by
 subst hh
 simpa using hj

set_option maxRecDepth 100000 in
theorem zjd (bs:List Bx) (g o cap:Nat) (p:Option Addr) (w:World) (hp:bs ≠ []→p=some ⟨g,o,none⟩) (hB:BxsIn bs g o w) (hl:bs.length≤400) :
  Calls Tryz.prog 76 #[.slice p bs.length cap] w (zxc (bs.all fun b=>zcl xk (cnb b)) (jc xk (bs.map cnb)) w):=by
 obtain⟨ok,hOk⟩:∃ ok,Hid (ok=bs.all fun b=>zcl xk (cnb b)):=⟨_,rfl⟩
 rw[← hOk.out]
 go_enter Tryz.func76,Tryz.ntmps76
 go_wp2_with fail
 have W0b:Below w.heap.size w (w.alloc (.cells #[] 40)):=zt ..
 have hpos:(0:Int)≤(bs.length:Int):=by omega
 go_loopw [4,13] (fun v i wr=>∃ (m:Nat) (out:List Bx),m≤bs.length∧i=.int .i64 (m:Int)∧w.heap.size≤wr.heap.size∧wr.ownsRow w.heap.size 40 6 v out.length (fb out)∧out.length=2*m∧out.map cnb=jc xk ((bs.take m).map cnb)∧((bs.take m).all fun b=>zcl xk (cnb b))=true∧Below w.heap.size w wr) (fun _ i _=>bs.length-(intOf i).toNat)
 case atStart=>exact⟨0,[],by omega,rfl,by simp,World.ownsRow_lit w #[] 0 (Nat.le_refl _) (by unfold maxLen;omega) rfl,rfl,rfl,rfl,W0b⟩
 case round =>
  obtain⟨m,out,hm,rfl,hsz,hown,hol,hom,hoa,Wb⟩:=hrel
  by_cases hlt:m<bs.length
  ·have hlt':(m:Int)<(bs.length:Int):=by omega
   have h0:(0:Int)≤(m:Int):=by omega
   have hpe:=hp (by intro h;rw[h]at hlt;simp at hlt)
   subst hpe
   have hb:=(hB.keep Wb) m hlt
   obtain⟨⟨⟨a,b,c⟩,d,e,f⟩,hbx⟩:∃ x,x=bs[m]:=⟨_,rfl⟩
   rw[← hbx]at hb
   have c0:=hb 0 _ rfl
   have c1:=hb 1 _ rfl
   have c2:=hb 2 _ rfl
   have c3:=hb 3 _ rfl
   have c4:=hb 4 _ rfl
   have c5:=hb 5 _ rfl
   simp only[Nat.add_zero]at c0
   have hsp:∀ w',Calls Tryz.prog 144 #[ug a b c d e f] w' (zxa (zcl xk (cnB a b c d e f)) (vf xk (cnB a b c d e f)) w'):=fun w'=>zrq a b c d e f w'
   obtain⟨okb,hokb⟩:∃ okb,Hid (okb=zcl xk (cnB a b c d e f)):=⟨_,rfl⟩
   obtain⟨SS,hSS⟩:∃ SS,Hid (SS=vf xk (cnB a b c d e f)):=⟨_,rfl⟩
   rw[← hokb.out,← hSS.out]at hsp
   have hbc:Hid (cnb bs[m]=cnB a b c d e f):=by unfold Hid;rw[← hbx];rfl
   clear hb
   go_upto_region 5 with fail
   have Wb4:Below w.heap.size w (wr.alloc (.cells #[F1 a,F1 b,F1 c,F1 d,F1 e,F1 f] 40)):=Wb.alloc hsz _
   have hown4:(wr.alloc (.cells #[F1 a,F1 b,F1 c,F1 d,F1 e,F1 f] 40)).ownsRow w.heap.size 40 6 u4 out.length (fb out):=hown.alloc _
   have hp4:zc [(⟨wr.heap.size,0,none⟩,F1 a),(⟨wr.heap.size,1,none⟩,F1 b),(⟨wr.heap.size,2,none⟩,F1 c),(⟨wr.heap.size,3,none⟩,F1 d),(⟨wr.heap.size,4,none⟩,F1 e),(⟨wr.heap.size,5,none⟩,F1 f)] [] (wr.alloc (.cells #[F1 a,F1 b,F1 c,F1 d,F1 e,F1 f] 40)):=by simp only[zc,ka,kb,zb,kfa,kga];simp
   clear Wb hown c0 c1 c2 c3 c4 c5
   generalize wr.alloc (.cells #[F1 a,F1 b,F1 c,F1 d,F1 e,F1 f] 40)=w4 at *
   have hkept:=hp4
   clear hp4
   have hK:=hkept;simp only[zc,ka,kb,zb,kfa,kga]at hK
   cases okb
   ·have hno:Hid (ok=false):=by
     unfold Hid
     rw[hOk.out,List.all_eq_false]
     exact⟨bs[m],List.getElem_mem _,by rw[hbc.out,← hokb.out];simp⟩
    go_wp2_with (go_at_call 144;refine (hsp _).mono ?_;rintro _ w5⟨a1,b1,c1,d1,e1,f1,a2,b2,c2,d2,e2,f2,rfl,hs,hb1⟩;have Wb5:=za Wb4 hb1)
    exact bodyPost_ret (v:=.tuple #[.slice none 0 0,.bool false]) (by simp[results,Tryz.results76,go_sem];first|done|(rfl;done)|(repeat' constructor)) rfl ⟨_,[],by rw[hno.out],fun h=>(by rw[hno.out]at h;cases h),(Wb5.alloc Wb5.size _).alloc (Nat.le_trans Wb5.size (by simp)) _⟩
   ·go_wp2_with (first
     | (go_at_call 144;refine (hsp _).mono ?_;rintro _ w5⟨a1,b1,c1,d1,e1,f1,a2,b2,c2,d2,e2,f2,rfl,hs,hb1⟩;have Wb5:=za Wb4 hb1;have hown5:=yg hown4 hb1)
     | (at_builtin;refine ztv w.heap.size rfl (.tmp 25) (.tmp 28) rfl _ _ out rfl (((hown5.alloc _).alloc _).alloc _) (w5.heap.size+1+1) 2 ((a1,b1,c1),d1,e1,f1) ((a2,b2,c2),d2,e2,f2) (by first|rfl|simp) ?_ ?_ (by omega) (by have:=Wb5.size;simp;omega) ?_;rotate_left 2;intro v5 w6 hown6 hg6))
    rotate_left
    ·intro j u hu
     have hj:=zi8 hu
     rcases (show j=0∨j=1∨j=2∨j=3∨j=4∨j=5 by omega) with rfl|rfl|rfl|rfl|rfl|rfl<;>(injection hu with hu;subst hu;exact zi7 (by simp) _ _ _ _ rfl)
    ·intro j u hu
     have hj:=zi8 hu
     rcases (show j=0∨j=1∨j=2∨j=3∨j=4∨j=5 by omega) with rfl|rfl|rfl|rfl|rfl|rfl<;>(injection hu with hu;subst hu;exact zi7 (by simp) _ _ _ _ rfl)
    have ht:bs.take (m+1)=bs.take m++[bs[m]]:=(List.take_append_getElem hlt).symm
    have hz1:w.heap.size≤(w5.alloc (.cells #[F1 a1,F1 b1,F1 c1,F1 d1,F1 e1,F1 f1] 40)).heap.size:=Nat.le_trans Wb5.size (by simp)
    have hz2:w.heap.size≤((w5.alloc (.cells #[F1 a1,F1 b1,F1 c1,F1 d1,F1 e1,F1 f1] 40)).alloc (.cells #[F1 a2,F1 b2,F1 c2,F1 d2,F1 e2,F1 f2] 40)).heap.size:=Nat.le_trans hz1 (by simp)
    refine⟨⟨m+1,out++[((a1,b1,c1),d1,e1,f1),((a2,b2,c2),d2,e2,f2)],by omega,by simp,Nat.le_trans hz2 (by have:=hg6.size;simp at this ⊢;omega),by simpa using hown6,by simp;omega,?_,?_,yx (((Wb5.alloc Wb5.size _).alloc hz1 _).alloc hz2 _) (((hown5.alloc _).alloc _).alloc _) hg6 (Nat.le_refl _)⟩,by simp[intOf];omega⟩
    ·rw[List.map_append,hom,ht,List.map_append]
     unfold jc
     rw[List.flatMap_append]
     congr 1
     simp only[List.map_cons,List.map_nil,List.flatMap_cons,List.flatMap_nil,List.append_nil]
     rw[hbc.out,← hSS.out,← (hs trivial).1,← (hs trivial).2]
     rfl
    ·rw[ht,List.all_append,hoa]
     simp only[List.all_cons,List.all_nil]
     rw[hbc.out,← hokb.out]
     rfl
  ·obtain rfl:m=bs.length:=by omega
   have hyes:Hid (ok=true):=by unfold Hid;rw[hOk.out,← hoa,List.take_of_length_le (Nat.le_refl _)]
   have hom2:out.map cnb=jc xk (bs.map cnb):=by rw[hom,List.take_of_length_le (Nat.le_refl _)]
   go_wp2_with fail
   exact bodyPost_ret (v:=.tuple #[u4,.bool true]) (by simp[results,Tryz.results76,go_sem];first|done|(rfl;done)|(repeat' constructor)) rfl ⟨u4,out,by rw[hyes.out],fun _=>⟨hown,hom2⟩,Wb⟩
end Go.Proofs.YtbiacfkiakddiaaGreat

namespace Go.Proofs.YtbiacfkiakddiaaGreat
open Go.RowKit Go.Fl
def qy (b:Bx):Nat × Nat × Nat:=(zb7 b.1.1 b.2.1 (cn .f32 1056964608),zb7 b.1.2.1 b.2.2.1 (cn .f32 1056964608),zb7 b.1.2.2 b.2.2.2 (cn .f32 1056964608))
inductive PhiBt (fb:FuncId):FuncId→Array Value→Value→Prop
 | bet (x y z x' y' z' h a b c:Nat) (h1:cn .f32 a=zb7 (cn .f32 x) (cn .f32 x') (cn .f32 h)) (h2:cn .f32 b=zb7 (cn .f32 y) (cn .f32 y') (cn .f32 h)) (h3:cn .f32 c=zb7 (cn .f32 z) (cn .f32 z') (cn .f32 h)):PhiBt fb fb #[V3 x y z,V3 x' y' z',F1 h] (V3 a b c)
theorem BoxAt.kept {g p:Nat} {a b c d e f:Nat} {w:World} (h:BoxAt g p ((a,b,c),d,e,f) w):zc [(⟨g,p,none⟩,F1 a),(⟨g,p+1,none⟩,F1 b),(⟨g,p+2,none⟩,F1 c),(⟨g,p+3,none⟩,F1 d),(⟨g,p+4,none⟩,F1 e),(⟨g,p+5,none⟩,F1 f)] [] w:=by
 have c0:=h 0 _ rfl
 have c1:=h 1 _ rfl
 have c2:=h 2 _ rfl
 have c3:=h 3 _ rfl
 have c4:=h 4 _ rfl
 have c5:=h 5 _ rfl
 simp only[Nat.add_zero]at c0
 simp only[zc,ka,kb,zb,kfa,kga]
 exact⟨c0,c1,c2,c3,c4,c5⟩

set_option maxRecDepth 100000 in
theorem zph (g p:Nat) (a b c d e f:Nat) (w:World) (hB:BoxAt g p ((a,b,c),d,e,f) w) :
  Calls Tryz.prog 84 #[.pointer (some ⟨g,p,none⟩)] w (ut (qy (cnb ((a,b,c),d,e,f))).1 (qy (cnb ((a,b,c),d,e,f))).2.1 (qy (cnb ((a,b,c),d,e,f))).2.2 w):=by
 have hkC:=hB.kept
 have hlt:g<w.heap.size:=zg (a:=⟨g,p,none⟩) (by have:=hkC;simp only[zc,List.forall_mem_cons]at this;simp[this])
 clear hB
 go_enter Tryz.func84,Tryz.ntmps84
 go_upto_region 1 with fail
 generalize hW:w.alloc (.cells #[F1 0,F1 0,F1 0] 38)=W1 at *
 have W1b:Below w.heap.size w W1:=by subst hW;exact zt ..
 have hkept:=jg true hW;simp only[zr,zq,zo,zv,Nat.reduceAdd]at hkept;clear hW
 have hkept:=ze (keep hkC W1b) hkept
 refine Qr.wp_below 9 (by kernel_rfl) (by kernel_rfl) (PhiBt 147) ?_
 repeat (refine Qr.walk_plain rfl fun K hK=>?_;(first|(apply Qr.one_det;(focus (intro w' hw';have HK:=keep hkept hw';simp only[zc,ka,kb,zb,kfa,kga]at HK;go_simp;first|done|rfl)))|(apply Qr.one_call;(focus (intro w' hw';go_simp;first|done|exact⟨rfl,rfl⟩));(focus (intro w' hw';go_at_call 147;refine (zld _ _ _ _ _ _ _ _).mono ?_;rintro _ w3⟨r1,r2,r3,rfl,hr1,hr2,hr3,hb1⟩;exact⟨_,rfl,PhiBt.bet _ _ _ _ _ _ _ _ _ _ hr1 hr2 hr3,za hw' ‹_›,by assumption⟩));intro v hv;cases hv));go_simp;refine hK _ ?_;clear hK K)
 rename_i a1 b1 c1 g1 g2 g3
 refine Qr.walk_nil fun w5 hw5=>?_
 have W5b:=za W1b hw5
 have hK:=keep hkept hw5
 simp only[zc,ka,kb,zb,kfa,kga]at hK
 clear hkept
 go_wp2_with fail
 exact bodyPost_ret (v:=.agg #[F1 a1,F1 b1,F1 c1]) (by simp[results,Tryz.results84,go_sem,hK,zf,zh]) rfl ⟨_,_,_,rfl,g1,g2,g3,(by repeat' (first|exact zi _ _|refine Below.drew ?_|refine zd ?_ _|refine Below.alloc ?_ (by simp<;>omega) _|refine zj ?_ (by simp<;>omega) _|refine za ?_ ‹_›))⟩
set_option maxRecDepth 100000 in
theorem zjh (g p:Nat) (a b c d e f:Nat) (w:World) (hB:BoxAt g p ((a,b,c),d,e,f) w) :
  Calls Tryz.prog 79 #[.pointer (some ⟨g,p,none⟩)] w (ut (qy (cnb ((a,b,c),d,e,f))).1 (qy (cnb ((a,b,c),d,e,f))).2.1 (qy (cnb ((a,b,c),d,e,f))).2.2 w):=by
 have hkC:=hB.kept
 have hlt:g<w.heap.size:=zg (a:=⟨g,p,none⟩) (by have:=hkC;simp only[zc,List.forall_mem_cons]at this;simp[this])
 clear hB
 go_enter Tryz.func79,Tryz.ntmps79
 go_upto_region 1 with fail
 generalize hW:w.alloc (.cells #[F1 0,F1 0,F1 0] 38)=W1 at *
 have W1b:Below w.heap.size w W1:=by subst hW;exact zt ..
 have hkept:=jg true hW;simp only[zr,zq,zo,zv,Nat.reduceAdd]at hkept;clear hW
 have hkept:=ze (keep hkC W1b) hkept
 refine Qr.wp_below 9 (by kernel_rfl) (by kernel_rfl) (PhiBt 145) ?_
 repeat (refine Qr.walk_plain rfl fun K hK=>?_;(first|(apply Qr.one_det;(focus (intro w' hw';have HK:=keep hkept hw';simp only[zc,ka,kb,zb,kfa,kga]at HK;go_simp;first|done|rfl)))|(apply Qr.one_call;(focus (intro w' hw';go_simp;first|done|exact⟨rfl,rfl⟩));(focus (intro w' hw';go_at_call 145;refine (zhn _ _ _ _ _ _ _ _).mono ?_;rintro _ w3⟨r1,r2,r3,rfl,hr1,hr2,hr3,hb1⟩;exact⟨_,rfl,PhiBt.bet _ _ _ _ _ _ _ _ _ _ hr1 hr2 hr3,za hw' ‹_›,by assumption⟩));intro v hv;cases hv));go_simp;refine hK _ ?_;clear hK K)
 rename_i a1 b1 c1 g1 g2 g3
 refine Qr.walk_nil fun w5 hw5=>?_
 have W5b:=za W1b hw5
 have hK:=keep hkept hw5
 simp only[zc,ka,kb,zb,kfa,kga]at hK
 clear hkept
 go_wp2_with fail
 exact bodyPost_ret (v:=.agg #[F1 a1,F1 b1,F1 c1]) (by simp[results,Tryz.results79,go_sem,hK,zf,zh]) rfl ⟨_,_,_,rfl,g1,g2,g3,(by repeat' (first|exact zi _ _|refine Below.drew ?_|refine zd ?_ _|refine Below.alloc ?_ (by simp<;>omega) _|refine zj ?_ (by simp<;>omega) _|refine za ?_ ‹_›))⟩
end Go.Proofs.YtbiacfkiakddiaaGreat
