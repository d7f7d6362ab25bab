/-
 Lemmas: Y7,Y8,Y9.
-/
import Derived.Test.YtbiacfkiakddiaaGreatNbi
import Derived.Test.YtbiacfkiakddiaaGreatNbp
import Derived.Test.YtbiacfkiakddiaaGreatNbo
set_option linter.unusedVariables false
set_option linter.unusedSimpArgs false
namespace Go.Proofs.YtbiacfkiakddiaaGreat
open Go.RowKit Go.Fl
def facF (ns:List PN):Nat:=(facs ns ns.length).getD (ns.length - 1) 0
def slopeF (ns:List PN):Nat:=if gtk .f32 (facF ns) 1065353216 || eqk .f32 (facF ns) 1065353216 then facF ns else 1065353216

theorem slope_if {ns:List PN} {r:Nat} {b:Bool} (hr:cn .f32 r = facF ns) (h:((FloatKind.f32.format.order r 1065353216 == some .gt) || (FloatKind.f32.format.order r 1065353216 == some .eq)) = b):slopeF ns = if b then cn .f32 r else 1065353216:=by
 unfold slopeF gtk eqk
 rw [← hr,ord_c .f32 r cn_one,h]

set_option maxRecDepth 100000 in
set_option maxHeartbeats 1000000 in
theorem slope_any (ns:List PN) (hok:OkAll ns) (hl:1 ≤ ns.length ∧ ns.length ≤ 16) (sb so nb no cap:Nat) (w:World) (hsh:ShapeIn ns sb so nb no cap w) :
  Calls Tryz.prog 247 #[.pointer (some ⟨sb,so,none⟩)] w (Ret .f32 (slopeF ns) w):=by
 have hf:Calls Tryz.prog 268 #[.pointer (some ⟨sb,so,none⟩)] w (Ret .f32 (facF ns) w):=factor_any ns hok hl sb so nb no cap w hsh
 clear hsh hok
 go_enter Tryz.func247,Tryz.ntmps247
 go_upto_region 2 with (go_at_call 268;refine hf.mono ?_;rintro _ w2 ⟨r,rfl,hr,hb1⟩)
 cases hb:((FloatKind.f32.format.order r 1065353216 == some .gt) || (FloatKind.f32.format.order r 1065353216 == some .eq))
 ·have hs:=Lib.hid (slope_if hr hb)
  go_wp2_with fail
  go_ret
  exact ⟨_,rfl,by rw [hs.out,cn_one];rfl,hb1⟩
 ·have hs:=Lib.hid (slope_if hr hb)
  go_wp2_with fail
  go_ret
  exact ⟨_,rfl,by rw [hs.out];rfl,hb1⟩

set_option maxRecDepth 100000 in
set_option maxHeartbeats 1000000 in
theorem s_factorof_any (ns:List PN) (hv:validS ns = true) (hnum:∀ n ∈ ns,n.nums.length < 10000000) (hok:OkAll ns) (hl:1 ≤ ns.length ∧ ns.length ≤ 16) (nb no cap:Nat) (w:World) (hsh:∀ i (h:i < ns.length),NodeIn ns[i] nb (no + i * 4) w) :
  Calls Tryz.prog 265 #[.agg #[.slice (some ⟨nb,no,none⟩) ns.length cap]] w (fun e w' => ∃ r,e = .returned (.tuple #[F1 r,.bool true]) ∧ cn .f32 r = facF ns ∧ Below w.heap.size w w'):=by
 go_enter Tryz.func265,Tryz.ntmps265
 go_wp2_with fail
 generalize hW:w.alloc (.cells #[.slice (some ⟨nb,no,none⟩) ns.length cap] 36) = W1 at *
 have W1b:Below w.heap.size w W1:=by subst hW;exact (by repeat' (first | exact Below.refl _ _ | exact Nat.le_refl _ | refine below_drewN ?_ _ | refine Below.alloc ?_ (by simp <;> omega) _ | refine Below.setCell ?_ (by simp <;> omega) _ | refine below_step ?_ (by assumption)))
 have hkept:Kept [(⟨w.heap.size,0,none⟩,.slice (some ⟨nb,no,none⟩) ns.length cap)] [] W1:=by
  subst hW;simp only [Kept,ka,kb,kc,kd,ke,and_true,true_and];(first | (go_simp;done) | (simp [World.cell?,World.frozen?,World.alloc,Array.getElem?_push];done))
 clear hW
 have hK:=hkept;simp only [Kept,ka,kb,kc,kd,ke,and_true,true_and] at hK
 have hsh1:∀ i (h:i < ns.length),NodeIn ns[i] nb (no + i * 4) W1:=fun i h => (hsh i h).keep W1b
 have hv1:=s_is_any ns hnum w.heap.size 0 nb no cap (some ⟨nb,no,none⟩) W1 hK (fun _ => rfl) hsh1 (by omega)
 rw [hv] at hv1
 refine hv1.mono ?_
 rintro _ w2 ⟨rfl,hb1⟩
 have W2b:=below_step W1b hb1
 have hkept:=keepT hkept hb1 rfl;clear hK;have hK:=hkept;simp only [Kept,ka,kb,kc,kd,ke,and_true,true_and] at hK
 have hf:Calls Tryz.prog 277 #[.pointer (some ⟨w.heap.size,0,none⟩)] w2 (Ret .f32 (facF ns) w2):=s_factor_any ns hok hl w.heap.size 0 nb no cap w2 ⟨hK,fun i h => (hsh i h).keep W2b⟩
 clear hsh hsh1 hnum hok hv1
 go_wp2_with (go_at_call 277;refine hf.mono ?_;rintro _ w3 ⟨r,rfl,hr,hb3⟩)
 go_ret2
 exact ⟨r,rfl,hr,below_step W2b hb3⟩

set_option maxRecDepth 100000 in
set_option maxHeartbeats 1000000 in
theorem s_slope_any (ns:List PN) (hv:validS ns = true) (hnum:∀ n ∈ ns,n.nums.length < 10000000) (hok:OkAll ns) (hl:1 ≤ ns.length ∧ ns.length ≤ 16) (sb so nb no cap:Nat) (w:World) (hsh:ShapeIn ns sb so nb no cap w) :
  Calls Tryz.prog 240 #[.pointer (some ⟨sb,so,none⟩)] w (Ret .f32 (slopeF ns) w):=by
 have hf:=s_factorof_any ns hv hnum hok hl nb no cap w hsh.node
 have hK:=hsh.list
 clear hsh hok hnum hv
 go_enter Tryz.func240,Tryz.ntmps240
 go_upto_region 2 with (go_at_call 265;refine hf.mono ?_;rintro _ w2 ⟨r,rfl,hr,hb1⟩)
 cases hb:((FloatKind.f32.format.order r 1065353216 == some .gt) || (FloatKind.f32.format.order r 1065353216 == some .eq))
 ·have hs:=Lib.hid (slope_if hr hb)
  go_wp2_with fail
  go_ret
  exact ⟨_,rfl,by rw [hs.out,cn_one];rfl,hb1⟩
 ·have hs:=Lib.hid (slope_if hr hb)
  go_wp2_with fail
  go_ret
  exact ⟨_,rfl,by rw [hs.out];rfl,hb1⟩
end Go.Proofs.YtbiacfkiakddiaaGreat

namespace Go.Proofs.YtbiacfkiakddiaaGreat
open Go.RowKit Go.Fl
/-- Marching: how it ends,after how many steps,and how far. -/
def marchGo (D:Nat × Nat × Nat → Nat) (f t:Nat × Nat × Nat) (sl near most:Nat):Nat → Nat → Nat → Nat × Nat × Nat
 | 0,k,far => (2,k - 1,far)
 | m + 1,k,far =>
  if ltk .f32 (D (onF f t far)) near then (1,k,far)
  else if lek .f32 (B .add far (B .quo (D (onF f t far)) sl)) most then marchGo D f t sl near most m (k + 1) (B .add far (B .quo (D (onF f t far)) sl))
  else (0,k,B .add far (B .quo (D (onF f t far)) sl))

abbrev HitV (k s far x y z:Nat):Value:=.agg #[.int .i64 (k:Int),.int .i64 (s:Int),F1 far,F1 x,F1 y,F1 z]

/-- A hit comes back. -/
def RetHit (f t:Nat × Nat × Nat) (h:Nat × Nat × Nat) (w:World) (e:Ending) (w':World):Prop :=
 ∃ far x y z,e = .returned (HitV h.1 h.2.1 far x y z) ∧ cn .f32 far = h.2.2 ∧ (cn .f32 x,cn .f32 y,cn .f32 z) = onF f t h.2.2 ∧ Below w.heap.size w w'

inductive PhiOn (fo:FuncId) (F T:Nat × Nat × Nat):FuncId → Array Value → Value → Prop
 | on (p:Value) (far x y z:Nat) (h:(cn .f32 x,cn .f32 y,cn .f32 z) = onF F T (cn .f32 far)):PhiOn fo F T fo #[p,F1 far] (V3 x y z)

theorem bel6 {B g:Nat} {a w:World} (h:Below B a w) (hg:B ≤ g) (x0 x1 x2 x3 x4 x5:Value):Below B a ((((((w.setCell ⟨g,0,none⟩ x0).setCell ⟨g,1,none⟩ x1).setCell ⟨g,2,none⟩ x2).setCell ⟨g,3,none⟩ x3).setCell ⟨g,4,none⟩ x4).setCell ⟨g,5,none⟩ x5) :=
 (((((h.setCell (p:=⟨g,0,none⟩) hg _).setCell (p:=⟨g,1,none⟩) hg _).setCell (p:=⟨g,2,none⟩) hg _).setCell (p:=⟨g,3,none⟩) hg _).setCell (p:=⟨g,4,none⟩) hg _).setCell (p:=⟨g,5,none⟩) hg _

set_option maxRecDepth 100000 in
set_option maxHeartbeats 4000000 in
theorem march_any (ns:List PN) (hok:OkAll ns) (hl:1 ≤ ns.length ∧ ns.length ≤ 16) (sb so nb no cap a b c d e f near most:Nat) (n:Nat) (hn:n ≤ 64) (w:World) (hsh:ShapeIn ns sb so nb no cap w) :
  Calls Tryz.prog 174 #[.pointer (some ⟨sb,so,none⟩),.agg #[F1 a,F1 b,F1 c,F1 d,F1 e,F1 f],.agg #[F1 near,F1 most,.int .i64 (n:Int)]] w
   (RetHit (cn .f32 a,cn .f32 b,cn .f32 c) (cn .f32 d,cn .f32 e,cn .f32 f) (marchGo (topF ns) (cn .f32 a,cn .f32 b,cn .f32 c) (cn .f32 d,cn .f32 e,cn .f32 f) (slopeF ns) (cn .f32 near) (cn .f32 most) n 1 0) w):=by
 obtain ⟨R,hR⟩:∃ R,Hid (R = marchGo (topF ns) (cn .f32 a,cn .f32 b,cn .f32 c) (cn .f32 d,cn .f32 e,cn .f32 f) (slopeF ns) (cn .f32 near) (cn .f32 most) n 1 0):=⟨_,rfl⟩
 rw [← hR.out]
 have hsb:sb < w.heap.size:=some_lt (a:=⟨sb,so,none⟩) (by rw [hsh.list];rfl)
 have hat:∀ w',Below w.heap.size w w' → ∀ (x y z:Nat),Calls Tryz.prog 85 #[.pointer (some ⟨sb,so,none⟩),V3 x y z] w' (Ret .f32 (topF ns (cn .f32 x,cn .f32 y,cn .f32 z)) w'):=fun w' hb x y z => at_any ns hok ⟨hl.1,by omega⟩ sb so nb no cap x y z w' (hsh.keep hb)
 have hsl:∀ w',Below w.heap.size w w' → Calls Tryz.prog 247 #[.pointer (some ⟨sb,so,none⟩)] w' (Ret .f32 (slopeF ns) w'):=fun w' hb => slope_any ns hok hl sb so nb no cap w' (hsh.keep hb)
 clear hsh hok
 go_enter Tryz.func174,Tryz.ntmps174
 go_wp2_with fail
 generalize hW:((w.alloc (.cells #[F1 a,F1 b,F1 c,F1 d,F1 e,F1 f] 225)).alloc (.cells #[F1 near,F1 most,.int .i64 (n:Int)] 84)).alloc (.cells #[.int .i64 0,.int .i64 0,F1 0,F1 0,F1 0,F1 0] 230) = W1 at *
 have W1b:Below w.heap.size w W1:=by subst hW;exact (by repeat' (first | exact Below.refl _ _ | exact Nat.le_refl _ | refine below_drewN ?_ _ | refine Below.alloc ?_ (by simp <;> omega) _ | refine Below.setCell ?_ (by simp <;> omega) _ | refine below_step ?_ (by assumption)))
 have hkept:Kept [(⟨w.heap.size,0,none⟩,F1 a),(⟨w.heap.size,1,none⟩,F1 b),(⟨w.heap.size,2,none⟩,F1 c),(⟨w.heap.size,3,none⟩,F1 d),(⟨w.heap.size,4,none⟩,F1 e),(⟨w.heap.size,5,none⟩,F1 f),(⟨w.heap.size + 1,0,none⟩,F1 near),(⟨w.heap.size + 1,1,none⟩,F1 most),(⟨w.heap.size + 1,2,none⟩,.int .i64 (n:Int)),(⟨w.heap.size + 1 + 1,0,none⟩,.int .i64 0),(⟨w.heap.size + 1 + 1,1,none⟩,.int .i64 0),(⟨w.heap.size + 1 + 1,2,none⟩,F1 0),(⟨w.heap.size + 1 + 1,3,none⟩,F1 0),(⟨w.heap.size + 1 + 1,4,none⟩,F1 0),(⟨w.heap.size + 1 + 1,5,none⟩,F1 0)] [⟨w.heap.size + 1 + 1,0,none⟩,⟨w.heap.size + 1 + 1,1,none⟩,⟨w.heap.size + 1 + 1,2,none⟩,⟨w.heap.size + 1 + 1,3,none⟩,⟨w.heap.size + 1 + 1,4,none⟩,⟨w.heap.size + 1 + 1,5,none⟩] W1:=by
  subst hW;simp only [Kept,ka,kb,kc,kd,ke,and_true,true_and];(first | (go_simp;done) | (simp [World.cell?,World.frozen?,World.alloc,Array.getElem?_push];done))
 clear hW
 refine (hsl _ W1b).mono ?_
 rintro _ w2 ⟨sl,rfl,hsl2,hb1⟩
 have W2b:=below_step W1b hb1
 have hkept:=keep hkept hb1
 clear hb1 W1b hsl
 rw [← hsl2] at hR
 clear hsl2
 go_wp2_with fail
 have hkW2:=hkept
 clear hkept
 go_loopw [7,9] (fun s i wr => ∃ (j far:Nat),1 ≤ j ∧ j ≤ n + 1 ∧ i = .int .i64 (j:Int) ∧ s = F1 far ∧ Hid (R = marchGo (topF ns) (cn .f32 a,cn .f32 b,cn .f32 c) (cn .f32 d,cn .f32 e,cn .f32 f) (cn .f32 sl) (cn .f32 near) (cn .f32 most) (n + 1 - j) j (cn .f32 far)) ∧ Below w2.heap.size w2 wr) (fun _ i _ => 70 - (intOf i).toNat)
 case atStart => exact ⟨1,0,by omega,by omega,rfl,rfl,by unfold Hid;rw [hR.out,cn_zero];rfl,Below.refl _ _⟩
 case round =>
  obtain ⟨j,far,hj1,hjn,rfl,rfl,hgo,Wb⟩:=hrel
  have hkept:=keep hkW2 Wb
  have Wrb:=below_step W2b Wb
  clear hkW2 hR
  have hK:=hkept;simp only [Kept,ka,kb,kc,kd,ke,and_true,true_and] at hK
  by_cases hle:j ≤ n
  ·have hle':(j:Int) ≤ (n:Int):=by omega
   have hj9:(j:Int) ≤ 64:=by omega
   have hri:RayIn a b c d e f w.heap.size 0 wr:=⟨by simp only [Kept,ka,kb,kc,kd,ke,and_true,true_and];simp [hK]⟩
   obtain ⟨P,hP⟩:∃ P,Hid (onF (cn .f32 a,cn .f32 b,cn .f32 c) (cn .f32 d,cn .f32 e,cn .f32 f) (cn .f32 far) = P):=⟨_,rfl⟩
   have hgo2:=hgo.out
   rw [show n + 1 - j = (n - j) + 1 by omega,marchGo,hP.out] at hgo2
   have hgo:=Lib.hid hgo2
   clear hgo2
   go_upto_region 6 with (first
    | (go_at_call 248;refine (on_any _ _ _ _ _ _ _ 0 _ _ hri).mono ?_;rintro _ w3 ⟨x,y,z,rfl,hx,hy,hz,hb1⟩;have hri2:=hri.keep hb1;have hkept:=keepT hkept hb1 rfl;clear hK;have hK:=hkept;simp only [Kept,ka,kb,kc,kd,ke,and_true,true_and] at hK)
    | (go_at_call 85;refine (hat _ (below_step Wrb (by assumption)) _ _ _).mono ?_;rintro _ w4 ⟨dd,rfl,hd,hb2⟩))
   have hXP:(cn .f32 x,cn .f32 y,cn .f32 z) = P:=by rw [← hP.out,hx,hy,hz]
   have hgo2:=hgo.out
   rw [← hXP,← hd] at hgo2
   have hgo:=Lib.hid hgo2
   clear hgo2 hx hy hz hXP hd
   have hri4:=hri2.keep hb2
   have hkept:=keep hkept hb2
   have W4b:=below_step (below_step Wrb hb1) hb2
   have Wb4:=below_step (below_step Wb hb1) hb2
   clear hri hri2 hb1 hb2 Wrb hK Wb
   have hK:=hkept;simp only [Kept,ka,kb,kc,kd,ke,and_true,true_and] at hK
   cases hlt:(FloatKind.f32.format.order dd near == some .lt)
   ·have hgo2:=hgo.out
    rw [ltk_cn,ltk,hlt] at hgo2
    simp only [Bool.false_eq_true,if_false] at hgo2
    have hgo:=Lib.hid hgo2
    clear hgo2
    go_upto_region 9 with ((refine wp_bin rfl _ _ _ _ _ rfl _ _ _ rfl rfl rfl ?_;intro r n hr))
    obtain ⟨r1,hr1,hr2⟩:∃ r1,cn .f32 r1 = B .quo (cn .f32 dd) (cn .f32 sl) ∧ cn .f32 r = B .add (cn .f32 far) (cn .f32 r1):=⟨_,‹cn FloatKind.f32 _ = bin BinOp.quo FloatKind.f32 (cn .f32 dd) (cn .f32 sl)›,hr⟩
    have hgo2:=hgo.out
    rw [← hr1,← hr2] at hgo2
    have hgo:=Lib.hid hgo2
    clear hgo2 hr1 hr2 hr
    have hle3:lek .f32 (cn .f32 r) (cn .f32 most) = (FloatKind.f32.format.order r most == some .lt || FloatKind.f32.format.order r most == some .eq):=by unfold lek;rw [order_cn]
    cases hle2:(FloatKind.f32.format.order r most == some .lt || FloatKind.f32.format.order r most == some .eq)
    ·have hgo2:=hgo.out
     rw [hle3,hle2] at hgo2
     simp only [Bool.false_eq_true,if_false] at hgo2
     have hgo:=Lib.hid hgo2
     clear hgo2 hle3
     go_wp2_with (go_at_call 248;refine (on_any _ _ _ _ _ _ _ 0 _ _ (by exact ⟨hri4.kept⟩)).mono ?_;rintro _ w5 ⟨x2,y2,z2,rfl,hx2,hy2,hz2,hb1⟩;have hkept:=keepT hkept hb1 rfl;clear hK;have hK:=hkept;simp only [Kept,ka,kb,kc,kd,ke,and_true,true_and] at hK)
     have hgo2:=hgo.out
     have hX:(cn .f32 x2,cn .f32 y2,cn .f32 z2) = onF (cn .f32 a,cn .f32 b,cn .f32 c) (cn .f32 d,cn .f32 e,cn .f32 f) (cn .f32 r):=by rw [hx2,hy2,hz2]
     have h1:Ending.returned (HitV 0 j r x2 y2 z2) = .returned (HitV R.1 R.2.1 r x2 y2 z2):=by rw [hgo2]
     have h2:cn .f32 r = R.2.2:=by rw [hgo2]
     have h3:(cn .f32 x2,cn .f32 y2,cn .f32 z2) = onF (cn .f32 a,cn .f32 b,cn .f32 c) (cn .f32 d,cn .f32 e,cn .f32 f) R.2.2:=by rw [hX,hgo2]
     exact bodyPost_ret (v:=HitV 0 j r x2 y2 z2) (by simp [results,Tryz.results174,go_sem,hK,World.cell?_setCell_other,World.cell?_setCell_same']) rfl ⟨r,x2,y2,z2,h1,h2,h3,bel6 (below_step (below_drewN W4b _) hb1) (by omega) ..⟩
    ·have hgo2:=hgo.out
     rw [hle3,hle2] at hgo2
     simp only [if_true] at hgo2
     have hgo:=Lib.hid hgo2
     clear hgo2 hle3
     go_wp2_with fail
     exact ⟨⟨j + 1,r,by omega,by omega,rfl,rfl,by unfold Hid;rw [hgo.out,Nat.add_sub_add_right],below_drewN Wb4 _⟩,by simp [intOf];omega⟩
   ·have hgo2:=hgo.out
    rw [ltk_cn,ltk,hlt] at hgo2
    simp only [if_true] at hgo2
    go_wp2_with (go_at_call 248;refine (on_any _ _ _ _ _ _ _ 0 _ _ hri4).mono ?_;rintro _ w5 ⟨x2,y2,z2,rfl,hx2,hy2,hz2,hb1⟩;have hkept:=keepT hkept hb1 rfl;clear hK;have hK:=hkept;simp only [Kept,ka,kb,kc,kd,ke,and_true,true_and] at hK)
    have hX:(cn .f32 x2,cn .f32 y2,cn .f32 z2) = onF (cn .f32 a,cn .f32 b,cn .f32 c) (cn .f32 d,cn .f32 e,cn .f32 f) (cn .f32 far):=by rw [hx2,hy2,hz2]
    have h1:Ending.returned (HitV 1 j far x2 y2 z2) = .returned (HitV R.1 R.2.1 far x2 y2 z2):=by rw [hgo2]
    have h2:cn .f32 far = R.2.2:=by rw [hgo2]
    have h3:(cn .f32 x2,cn .f32 y2,cn .f32 z2) = onF (cn .f32 a,cn .f32 b,cn .f32 c) (cn .f32 d,cn .f32 e,cn .f32 f) R.2.2:=by rw [hX,hgo2]
    exact bodyPost_ret (v:=HitV 1 j far x2 y2 z2) (by simp [results,Tryz.results174,go_sem,hK,World.cell?_setCell_other,World.cell?_setCell_same']) rfl ⟨far,x2,y2,z2,h1,h2,h3,bel6 (below_step W4b hb1) (by omega) ..⟩
  ·have hle':¬ (j:Int) ≤ (n:Int):=by omega
   obtain rfl:j = n + 1:=by omega
   have hgo2:=hgo.out
   rw [Nat.sub_self,marchGo,Nat.add_sub_cancel] at hgo2
   have hri:RayIn a b c d e f w.heap.size 0 wr:=⟨by simp only [Kept,ka,kb,kc,kd,ke,and_true,true_and];simp [hK]⟩
   go_upto_region 11 with fail
   clear hK
   refine Qr.wp_below 6 (by kernel_rfl) (by kernel_rfl) (PhiOn 248 (cn .f32 a,cn .f32 b,cn .f32 c) (cn .f32 d,cn .f32 e,cn .f32 f)) ?_
   repeat (first
    | (refine Qr.walk_plain rfl fun K hK => ?_;apply Qr.one_det;(focus (intro w' hw';have HK:=keep hkept hw';simp only [Kept,ka,kb,kc,kd,ke,and_true,true_and] at HK;go_simp;first | done | rfl));go_simp;refine hK _ ?_;clear hK K)
    | (refine Qr.walk_plain rfl fun K hK => ?_;apply Qr.one_call;(focus (intro w' hw';go_simp;first | done | exact ⟨rfl,rfl⟩));(focus (intro w' hw'; go_at_call 248;refine (on_any _ _ _ _ _ _ _ 0 _ _ (hri.keep hw')).mono ?_;rintro _ w3 ⟨r1,r2,r3,rfl,hr1,hr2,hr3,hb1⟩;exact ⟨_,rfl,PhiOn.on _ _ _ _ _ (by rw [hr1,hr2,hr3]),below_step hw' (by assumption),by assumption⟩));intro v hv;cases hv;go_simp;refine hK _ ?_;clear hK K))
   rename_i x2 y2 z2 hX
   refine Qr.walk_nil fun w5 hw5 => ?_
   have hkept:=keep hkept hw5
   have W5b:=below_step Wrb hw5
   have hK:=hkept;simp only [Kept,ka,kb,kc,kd,ke,and_true,true_and] at hK
   have h1:Ending.returned (HitV 2 n far x2 y2 z2) = .returned (HitV R.1 R.2.1 far x2 y2 z2):=by rw [hgo2]
   have h2:cn .f32 far = R.2.2:=by rw [hgo2]
   have h3:(cn .f32 x2,cn .f32 y2,cn .f32 z2) = onF (cn .f32 a,cn .f32 b,cn .f32 c) (cn .f32 d,cn .f32 e,cn .f32 f) R.2.2:=by rw [hX,hgo2]
   clear hgo2 hX
   go_wp2_with fail
   exact bodyPost_ret (v:=HitV 2 n far x2 y2 z2) (by simp [results,Tryz.results174,go_sem,hK,World.cell?_setCell_other,World.cell?_setCell_same']) rfl ⟨far,x2,y2,z2,h1,h2,h3,bel6 W5b (by omega) ..⟩
end Go.Proofs.YtbiacfkiakddiaaGreat

namespace Go.Proofs.YtbiacfkiakddiaaGreat
open Go.RowKit Go.Fl
/-- Marching,as the reference stops. -/
def marchGs (D:Nat × Nat × Nat → Nat) (f t:Nat × Nat × Nat) (sl near most:Nat):Nat → Nat → Nat → Nat × Nat × Nat
 | 0,k,far => (2,k - 1,far)
 | m + 1,k,far =>
  if ltk .f32 (D (onF f t far)) near then (1,k,far)
  else if gtk .f32 (B .add far (B .quo (D (onF f t far)) sl)) most || !eqk .f32 (B .add far (B .quo (D (onF f t far)) sl)) (B .add far (B .quo (D (onF f t far)) sl)) then (0,k,B .add far (B .quo (D (onF f t far)) sl))
  else marchGs D f t sl near most m (k + 1) (B .add far (B .quo (D (onF f t far)) sl))

theorem far4 (p q:Bool):(p = true ∧ True) ∨ (p = false ∧ q = true) ∨ (p = false ∧ q = false):=by cases p <;> cases q <;> simp

set_option maxRecDepth 100000 in
set_option maxHeartbeats 4000000 in
theorem s_march_any (ns:List PN) (hv:validS ns = true) (hnum:∀ n ∈ ns,n.nums.length < 10000000) (hok:OkAll ns) (hl:1 ≤ ns.length ∧ ns.length ≤ 16) (sb so nb no cap rb ro mb mo a b c d e f near most:Nat) (n:Nat) (hn:n ≤ 64) (w:World) (hsh:ShapeIn ns sb so nb no cap w) (hra:RayIn a b c d e f rb ro w) (hma:MarIn near most (n:Int) mb mo w) :
  Calls Tryz.prog 163 #[.pointer (some ⟨sb,so,none⟩),.pointer (some ⟨rb,ro,none⟩),.pointer (some ⟨mb,mo,none⟩)] w
   (RetHit (cn .f32 a,cn .f32 b,cn .f32 c) (cn .f32 d,cn .f32 e,cn .f32 f) (marchGs (atS ns) (cn .f32 a,cn .f32 b,cn .f32 c) (cn .f32 d,cn .f32 e,cn .f32 f) (slopeF ns) (cn .f32 near) (cn .f32 most) n 1 0) w):=by
 obtain ⟨R,hR⟩:∃ R,Hid (R = marchGs (atS ns) (cn .f32 a,cn .f32 b,cn .f32 c) (cn .f32 d,cn .f32 e,cn .f32 f) (slopeF ns) (cn .f32 near) (cn .f32 most) n 1 0):=⟨_,rfl⟩
 rw [← hR.out]
 have hsb:sb < w.heap.size:=some_lt (a:=⟨sb,so,none⟩) (by rw [hsh.list];rfl)
 have hat:∀ w',Below w.heap.size w w' → ∀ (x y z:Nat),Calls Tryz.prog 80 #[.pointer (some ⟨sb,so,none⟩),V3 x y z] w' (Ret .f32 (atS ns (cn .f32 x,cn .f32 y,cn .f32 z)) w'):=fun w' hb x y z => s_at_any ns hok hl sb so nb no cap x y z w' (hsh.keep hb)
 have hsl:∀ w',Below w.heap.size w w' → Calls Tryz.prog 240 #[.pointer (some ⟨sb,so,none⟩)] w' (Ret .f32 (slopeF ns) w'):=fun w' hb => s_slope_any ns hv hnum hok hl sb so nb no cap w' (hsh.keep hb)
 clear hsh hok
 go_enter Tryz.func163,Tryz.ntmps163
 go_wp2_with fail
 generalize hW:w.alloc (.cells #[.int .i64 0,.int .i64 0,F1 0,F1 0,F1 0,F1 0] 230) = W1 at *
 have W1b:Below w.heap.size w W1:=by subst hW;exact (by repeat' (first | exact Below.refl _ _ | exact Nat.le_refl _ | refine below_drewN ?_ _ | refine Below.alloc ?_ (by simp <;> omega) _ | refine Below.setCell ?_ (by simp <;> omega) _ | refine below_step ?_ (by assumption)))
 have hkept:Kept [(⟨w.heap.size,0,none⟩,.int .i64 0),(⟨w.heap.size,1,none⟩,.int .i64 0),(⟨w.heap.size,2,none⟩,F1 0),(⟨w.heap.size,3,none⟩,F1 0),(⟨w.heap.size,4,none⟩,F1 0),(⟨w.heap.size,5,none⟩,F1 0)] [⟨w.heap.size,0,none⟩,⟨w.heap.size,1,none⟩,⟨w.heap.size,2,none⟩,⟨w.heap.size,3,none⟩,⟨w.heap.size,4,none⟩,⟨w.heap.size,5,none⟩] W1:=by
  subst hW;simp only [Kept,ka,kb,kc,kd,ke,and_true,true_and];(first | (go_simp;done) | (simp [World.cell?,World.frozen?,World.alloc,Array.getElem?_push];done))
 clear hW
 have hrl:=hra.lt
 have hml:=hma.lt
 have hkept:=kept_app (kept_app hkept (hra.keep W1b).kept) (hma.keep W1b).kept
 refine (hsl _ W1b).mono ?_
 rintro _ w2 ⟨sl,rfl,hsl2,hb1⟩
 have W2b:=below_step W1b hb1
 have hkept:=keep hkept hb1
 clear hb1 W1b hsl
 rw [← hsl2] at hR
 clear hsl2
 go_wp2_with fail
 have hkW2:=hkept
 clear hkept
 go_loopw [8,9] (fun s i wr => ∃ (j far:Nat),1 ≤ j ∧ j ≤ n + 1 ∧ i = .int .i64 (j:Int) ∧ s = F1 far ∧ Hid (R = marchGs (atS ns) (cn .f32 a,cn .f32 b,cn .f32 c) (cn .f32 d,cn .f32 e,cn .f32 f) (cn .f32 sl) (cn .f32 near) (cn .f32 most) (n + 1 - j) j (cn .f32 far)) ∧ Below w2.heap.size w2 wr) (fun _ i _ => 70 - (intOf i).toNat)
 case atStart => exact ⟨1,0,by omega,by omega,rfl,rfl,by unfold Hid;rw [hR.out,cn_zero];rfl,Below.refl _ _⟩
 case round =>
  obtain ⟨j,far,hj1,hjn,rfl,rfl,hgo,Wb⟩:=hrel
  have hkept:=keep hkW2 Wb
  have Wrb:=below_step W2b Wb
  clear hkW2 hR
  have hK:=hkept;simp only [Kept,ka,kb,kc,kd,ke,and_true,true_and] at hK
  by_cases hle:j ≤ n
  ·have hle':(j:Int) ≤ (n:Int):=by omega
   have hj9:(j:Int) ≤ 64:=by omega
   have hri:RayIn a b c d e f rb ro wr:=⟨by simp only [Kept,ka,kb,kc,kd,ke,and_true,true_and];simp [hK]⟩
   obtain ⟨P,hP⟩:∃ P,Hid (onF (cn .f32 a,cn .f32 b,cn .f32 c) (cn .f32 d,cn .f32 e,cn .f32 f) (cn .f32 far) = P):=⟨_,rfl⟩
   have hgo2:=hgo.out
   rw [show n + 1 - j = (n - j) + 1 by omega,marchGs,hP.out] at hgo2
   have hgo:=Lib.hid hgo2
   clear hgo2
   go_upto_region 7 with (first
    | (go_at_call 241;refine (s_on_any _ _ _ _ _ _ _ _ _ _ hri).mono ?_;rintro _ w3 ⟨x,y,z,rfl,hx,hy,hz,hb1⟩;have hri2:=hri.keep hb1;have hkept:=keepT hkept hb1 rfl;clear hK;have hK:=hkept;simp only [Kept,ka,kb,kc,kd,ke,and_true,true_and] at hK)
    | (go_at_call 80;refine (hat _ (below_step Wrb (by assumption)) _ _ _).mono ?_;rintro _ w4 ⟨dd,rfl,hd,hb2⟩))
   have hXP:(cn .f32 x,cn .f32 y,cn .f32 z) = P:=by rw [← hP.out,hx,hy,hz]
   have hgo2:=hgo.out
   rw [← hXP,← hd] at hgo2
   have hgo:=Lib.hid hgo2
   clear hgo2 hx hy hz hXP hd
   have hri4:=hri2.keep hb2
   have hkept:=keep hkept hb2
   have W4b:=below_step (below_step Wrb hb1) hb2
   have Wb4:=below_step (below_step Wb hb1) hb2
   clear hri hri2 hb1 hb2 Wrb hK Wb
   have hK:=hkept;simp only [Kept,ka,kb,kc,kd,ke,and_true,true_and] at hK
   cases hlt:(FloatKind.f32.format.order dd near == some .lt)
   ·have hgo2:=hgo.out
    rw [ltk_cn,ltk,hlt] at hgo2
    simp only [Bool.false_eq_true,if_false] at hgo2
    have hgo:=Lib.hid hgo2
    clear hgo2
    go_upto_region 10 with ((refine wp_bin rfl _ _ _ _ _ rfl _ _ _ rfl rfl rfl ?_;intro r n hr))
    obtain ⟨r1,hr1,hr2⟩:∃ r1,cn .f32 r1 = B .quo (cn .f32 dd) (cn .f32 sl) ∧ cn .f32 r = B .add (cn .f32 far) (cn .f32 r1):=⟨_,‹cn FloatKind.f32 _ = bin BinOp.quo FloatKind.f32 (cn .f32 dd) (cn .f32 sl)›,hr⟩
    have hgo2:=hgo.out
    rw [← hr1,← hr2] at hgo2
    have hgo:=Lib.hid hgo2
    clear hgo2 hr1 hr2 hr
    have hle3:(gtk .f32 (cn .f32 r) (cn .f32 most) || !eqk .f32 (cn .f32 r) (cn .f32 r)) = ((FloatKind.f32.format.order r most == some .gt) || (FloatKind.f32.format.order r r != some .eq)):=by unfold gtk eqk;rw [order_cn,order_cn];rfl
    rcases far4 (FloatKind.f32.format.order r most == some .gt) (FloatKind.f32.format.order r r != some .eq) with ⟨hle4,hle2⟩ | ⟨hle4,hle2⟩ | ⟨hle4,hle2⟩
    ·have hgo2:=hgo.out
     rw [hle3,hle4] at hgo2
     simp only [Bool.true_or,if_true] at hgo2
     have hgo:=Lib.hid hgo2
     clear hgo2 hle3
     go_wp2_with (go_at_call 241;refine (s_on_any _ _ _ _ _ _ _ _ _ _ (by exact ⟨hri4.kept⟩)).mono ?_;rintro _ w5 ⟨x2,y2,z2,rfl,hx2,hy2,hz2,hb1⟩;have hkept:=keepT hkept hb1 rfl;clear hK;have hK:=hkept;simp only [Kept,ka,kb,kc,kd,ke,and_true,true_and] at hK)
     have hgo2:=hgo.out
     have hX:(cn .f32 x2,cn .f32 y2,cn .f32 z2) = onF (cn .f32 a,cn .f32 b,cn .f32 c) (cn .f32 d,cn .f32 e,cn .f32 f) (cn .f32 r):=by rw [hx2,hy2,hz2]
     have h1:Ending.returned (HitV 0 j r x2 y2 z2) = .returned (HitV R.1 R.2.1 r x2 y2 z2):=by rw [hgo2]
     have h2:cn .f32 r = R.2.2:=by rw [hgo2]
     have h3:(cn .f32 x2,cn .f32 y2,cn .f32 z2) = onF (cn .f32 a,cn .f32 b,cn .f32 c) (cn .f32 d,cn .f32 e,cn .f32 f) R.2.2:=by rw [hX,hgo2]
     exact bodyPost_ret (v:=HitV 0 j r x2 y2 z2) (by simp [results,Tryz.results163,go_sem,hK,World.cell?_setCell_other,World.cell?_setCell_same']) rfl ⟨r,x2,y2,z2,h1,h2,h3,bel6 (below_step (below_drewN W4b _) hb1) (by omega) ..⟩
    ·have hgo2:=hgo.out
     rw [hle3,hle4,hle2] at hgo2
     simp only [Bool.or_true,if_true] at hgo2
     have hgo:=Lib.hid hgo2
     clear hgo2 hle3
     go_wp2_with (go_at_call 241;refine (s_on_any _ _ _ _ _ _ _ _ _ _ (by exact ⟨hri4.kept⟩)).mono ?_;rintro _ w5 ⟨x2,y2,z2,rfl,hx2,hy2,hz2,hb1⟩;have hkept:=keepT hkept hb1 rfl;clear hK;have hK:=hkept;simp only [Kept,ka,kb,kc,kd,ke,and_true,true_and] at hK)
     have hgo2:=hgo.out
     have hX:(cn .f32 x2,cn .f32 y2,cn .f32 z2) = onF (cn .f32 a,cn .f32 b,cn .f32 c) (cn .f32 d,cn .f32 e,cn .f32 f) (cn .f32 r):=by rw [hx2,hy2,hz2]
     have h1:Ending.returned (HitV 0 j r x2 y2 z2) = .returned (HitV R.1 R.2.1 r x2 y2 z2):=by rw [hgo2]
     have h2:cn .f32 r = R.2.2:=by rw [hgo2]
     have h3:(cn .f32 x2,cn .f32 y2,cn .f32 z2) = onF (cn .f32 a,cn .f32 b,cn .f32 c) (cn .f32 d,cn .f32 e,cn .f32 f) R.2.2:=by rw [hX,hgo2]
     exact bodyPost_ret (v:=HitV 0 j r x2 y2 z2) (by simp [results,Tryz.results163,go_sem,hK,World.cell?_setCell_other,World.cell?_setCell_same']) rfl ⟨r,x2,y2,z2,h1,h2,h3,bel6 (below_step (below_drewN W4b _) hb1) (by omega) ..⟩
    ·have hgo2:=hgo.out
     rw [hle3,hle4,hle2] at hgo2
     simp only [Bool.or_false,Bool.false_eq_true,if_false] at hgo2
     have hgo:=Lib.hid hgo2
     clear hgo2 hle3
     go_wp2_with fail
     exact ⟨⟨j + 1,r,by omega,by omega,rfl,rfl,by unfold Hid;rw [hgo.out,Nat.add_sub_add_right],below_drewN Wb4 _⟩,by simp [intOf];omega⟩
   ·have hgo2:=hgo.out
    rw [ltk_cn,ltk,hlt] at hgo2
    simp only [if_true] at hgo2
    go_wp2_with (go_at_call 241;refine (s_on_any _ _ _ _ _ _ _ _ _ _ hri4).mono ?_;rintro _ w5 ⟨x2,y2,z2,rfl,hx2,hy2,hz2,hb1⟩;have hkept:=keepT hkept hb1 rfl;clear hK;have hK:=hkept;simp only [Kept,ka,kb,kc,kd,ke,and_true,true_and] at hK)
    have hX:(cn .f32 x2,cn .f32 y2,cn .f32 z2) = onF (cn .f32 a,cn .f32 b,cn .f32 c) (cn .f32 d,cn .f32 e,cn .f32 f) (cn .f32 far):=by rw [hx2,hy2,hz2]
    have h1:Ending.returned (HitV 1 j far x2 y2 z2) = .returned (HitV R.1 R.2.1 far x2 y2 z2):=by rw [hgo2]
    have h2:cn .f32 far = R.2.2:=by rw [hgo2]
    have h3:(cn .f32 x2,cn .f32 y2,cn .f32 z2) = onF (cn .f32 a,cn .f32 b,cn .f32 c) (cn .f32 d,cn .f32 e,cn .f32 f) R.2.2:=by rw [hX,hgo2]
    exact bodyPost_ret (v:=HitV 1 j far x2 y2 z2) (by simp [results,Tryz.results163,go_sem,hK,World.cell?_setCell_other,World.cell?_setCell_same']) rfl ⟨far,x2,y2,z2,h1,h2,h3,bel6 (below_step W4b hb1) (by omega) ..⟩
  ·have hle':¬ (j:Int) ≤ (n:Int):=by omega
   obtain rfl:j = n + 1:=by omega
   have hgo2:=hgo.out
   rw [Nat.sub_self,marchGs,Nat.add_sub_cancel] at hgo2
   have hri:RayIn a b c d e f rb ro wr:=⟨by simp only [Kept,ka,kb,kc,kd,ke,and_true,true_and];simp [hK]⟩
   go_upto_region 12 with fail
   clear hK
   refine Qr.wp_below 9 (by kernel_rfl) (by kernel_rfl) (PhiOn 241 (cn .f32 a,cn .f32 b,cn .f32 c) (cn .f32 d,cn .f32 e,cn .f32 f)) ?_
   repeat (first
    | (refine Qr.walk_plain rfl fun K hK => ?_;apply Qr.one_det;(focus (intro w' hw';have HK:=keep hkept hw';simp only [Kept,ka,kb,kc,kd,ke,and_true,true_and] at HK;go_simp;first | done | rfl));go_simp;refine hK _ ?_;clear hK K)
    | (refine Qr.walk_plain rfl fun K hK => ?_;apply Qr.one_call;(focus (intro w' hw';go_simp;first | done | exact ⟨rfl,rfl⟩));(focus (intro w' hw'; go_at_call 241;refine (s_on_any _ _ _ _ _ _ _ _ _ _ (hri.keep hw')).mono ?_;rintro _ w3 ⟨r1,r2,r3,rfl,hr1,hr2,hr3,hb1⟩;exact ⟨_,rfl,PhiOn.on _ _ _ _ _ (by rw [hr1,hr2,hr3]),below_step hw' (by assumption),by assumption⟩));intro v hv;cases hv;go_simp;refine hK _ ?_;clear hK K))
   rename_i x2 y2 z2 hX
   refine Qr.walk_nil fun w5 hw5 => ?_
   have hkept:=keep hkept hw5
   have W5b:=below_step Wrb hw5
   have hK:=hkept;simp only [Kept,ka,kb,kc,kd,ke,and_true,true_and] at hK
   have h1:Ending.returned (HitV 2 n far x2 y2 z2) = .returned (HitV R.1 R.2.1 far x2 y2 z2):=by rw [hgo2]
   have h2:cn .f32 far = R.2.2:=by rw [hgo2]
   have h3:(cn .f32 x2,cn .f32 y2,cn .f32 z2) = onF (cn .f32 a,cn .f32 b,cn .f32 c) (cn .f32 d,cn .f32 e,cn .f32 f) R.2.2:=by rw [hX,hgo2]
   clear hgo2 hX
   go_wp2_with fail
   exact bodyPost_ret (v:=HitV 2 n far x2 y2 z2) (by simp [results,Tryz.results163,go_sem,hK,World.cell?_setCell_other,World.cell?_setCell_same']) rfl ⟨far,x2,y2,z2,h1,h2,h3,bel6 W5b (by omega) ..⟩
end Go.Proofs.YtbiacfkiakddiaaGreat
