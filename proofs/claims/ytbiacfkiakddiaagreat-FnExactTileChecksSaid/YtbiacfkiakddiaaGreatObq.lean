/-
 Lemmas: Y9,Z2,X5,Y12.
-/
import Derived.Test.YtbiacfkiakddiaaGreatObp
set_option linter.unusedVariables false
set_option linter.unusedSimpArgs false
namespace Go.Proofs.YtbiacfkiakddiaaGreat
open Go.RowKit Go.Fl
/-- Marching,as the reference stops. -/
def marchGs (D:Nat × Nat × Nat → Nat) (f t:Nat × Nat × Nat) (sl near most:Nat):Nat → Nat → Nat → Nat × Nat × Nat
 | 0,k,far => (2,k - 1,far)
 | m + 1,k,far =>
  if ltk .f32 (D (onF f t far)) near then (1,k,far)
  else if gtk .f32 (B .add far (B .quo (D (onF f t far)) sl)) most || !eqk .f32 (B .add far (B .quo (D (onF f t far)) sl)) (B .add far (B .quo (D (onF f t far)) sl)) then (0,k,B .add far (B .quo (D (onF f t far)) sl))
  else marchGs D f t sl near most m (k + 1) (B .add far (B .quo (D (onF f t far)) sl))

theorem far4 (p q:Bool):(p = true ∧ True) ∨ (p = false ∧ q = true) ∨ (p = false ∧ q = false):=by cases p <;> cases q <;> simp

set_option maxRecDepth 100000 in
set_option maxHeartbeats 4000000 in
theorem s_march_any (ns:List PN) (hv:validS ns = true) (hnum:∀ n ∈ ns,n.nums.length < 10000000) (hok:OkAll ns) (hl:1 ≤ ns.length ∧ ns.length ≤ 16) (sb so nb no cap rb ro mb mo a b c d e f near most:Nat) (n:Nat) (hn:n ≤ 64) (w:World) (hsh:ShapeIn ns sb so nb no cap w) (hra:RayIn a b c d e f rb ro w) (hma:MarIn near most (n:Int) mb mo w) :
  Calls Tryz.prog 163 #[.pointer (some ⟨sb,so,none⟩),.pointer (some ⟨rb,ro,none⟩),.pointer (some ⟨mb,mo,none⟩)] w
   (RetHit (cn .f32 a,cn .f32 b,cn .f32 c) (cn .f32 d,cn .f32 e,cn .f32 f) (marchGs (atS ns) (cn .f32 a,cn .f32 b,cn .f32 c) (cn .f32 d,cn .f32 e,cn .f32 f) (slopeF ns) (cn .f32 near) (cn .f32 most) n 1 0) w):=by
 obtain ⟨R,hR⟩:∃ R,Hid (R = marchGs (atS ns) (cn .f32 a,cn .f32 b,cn .f32 c) (cn .f32 d,cn .f32 e,cn .f32 f) (slopeF ns) (cn .f32 near) (cn .f32 most) n 1 0):=⟨_,rfl⟩
 rw [← hR.out]
 have hsb:sb < w.heap.size:=some_lt (a:=⟨sb,so,none⟩) (by rw [hsh.list];rfl)
 have hat:∀ w',Below w.heap.size w w' → ∀ (x y z:Nat),Calls Tryz.prog 80 #[.pointer (some ⟨sb,so,none⟩),V3 x y z] w' (Ret .f32 (atS ns (cn .f32 x,cn .f32 y,cn .f32 z)) w'):=fun w' hb x y z => s_at_any ns hok hl sb so nb no cap x y z w' (hsh.keep hb)
 have hsl:∀ w',Below w.heap.size w w' → Calls Tryz.prog 240 #[.pointer (some ⟨sb,so,none⟩)] w' (Ret .f32 (slopeF ns) w'):=fun w' hb => s_slope_any ns hv hnum hok hl sb so nb no cap w' (hsh.keep hb)
 clear hsh hok
 go_enter Tryz.func163,Tryz.ntmps163
 go_wp2_with fail
 generalize hW:w.alloc (.cells #[.int .i64 0,.int .i64 0,F1 0,F1 0,F1 0,F1 0] 230) = W1 at *
 have W1b:Below w.heap.size w W1:=by subst hW;exact (by repeat' (first | exact Below.refl _ _ | exact Nat.le_refl _ | refine below_drewN ?_ _ | refine Below.alloc ?_ (by simp <;> omega) _ | refine Below.setCell ?_ (by simp <;> omega) _ | refine below_step ?_ (by assumption)))
 have hkept:Kept [(⟨w.heap.size,0,none⟩,.int .i64 0),(⟨w.heap.size,1,none⟩,.int .i64 0),(⟨w.heap.size,2,none⟩,F1 0),(⟨w.heap.size,3,none⟩,F1 0),(⟨w.heap.size,4,none⟩,F1 0),(⟨w.heap.size,5,none⟩,F1 0)] [⟨w.heap.size,0,none⟩,⟨w.heap.size,1,none⟩,⟨w.heap.size,2,none⟩,⟨w.heap.size,3,none⟩,⟨w.heap.size,4,none⟩,⟨w.heap.size,5,none⟩] W1:=by
  subst hW;simp only [Kept,ka,kb,kc,kd,ke,kfa,kga];(first | (go_simp;done) | (simp [World.cell?,World.frozen?,World.alloc,Array.getElem?_push];done))
 clear hW
 have hrl:=hra.lt
 have hml:=hma.lt
 have hkept:=kept_app (kept_app hkept (hra.keep W1b).kept) (hma.keep W1b).kept
 refine (hsl _ W1b).mono ?_
 rintro _ w2 ⟨sl,rfl,hsl2,hb1⟩
 have W2b:=below_step W1b hb1
 have hkept:=keep hkept hb1
 clear hb1 W1b hsl
 rw [← hsl2] at hR
 clear hsl2
 go_wp2_with fail
 have hkW2:=hkept
 clear hkept
 go_loopw [8,9] (fun s i wr => ∃ (j far:Nat),1 ≤ j ∧ j ≤ n + 1 ∧ i = .int .i64 (j:Int) ∧ s = F1 far ∧ Hid (R = marchGs (atS ns) (cn .f32 a,cn .f32 b,cn .f32 c) (cn .f32 d,cn .f32 e,cn .f32 f) (cn .f32 sl) (cn .f32 near) (cn .f32 most) (n + 1 - j) j (cn .f32 far)) ∧ Below w2.heap.size w2 wr) (fun _ i _ => 70 - (intOf i).toNat)
 case atStart => exact ⟨1,0,by omega,by omega,rfl,rfl,by unfold Hid;rw [hR.out,cn_zero];rfl,Below.refl _ _⟩
 case round =>
  obtain ⟨j,far,hj1,hjn,rfl,rfl,hgo,Wb⟩:=hrel
  have hkept:=keep hkW2 Wb
  have Wrb:=below_step W2b Wb
  clear hkW2 hR
  have hK:=hkept;simp only [Kept,ka,kb,kc,kd,ke,kfa,kga] at hK
  by_cases hle:j ≤ n
  ·have hle':(j:Int) ≤ (n:Int):=by omega
   have hj9:(j:Int) ≤ 64:=by omega
   have hri:RayIn a b c d e f rb ro wr:=⟨by simp only [Kept,ka,kb,kc,kd,ke,kfa,kga];simp [hK]⟩
   obtain ⟨P,hP⟩:∃ P,Hid (onF (cn .f32 a,cn .f32 b,cn .f32 c) (cn .f32 d,cn .f32 e,cn .f32 f) (cn .f32 far) = P):=⟨_,rfl⟩
   have hgo2:=hgo.out
   rw [show n + 1 - j = (n - j) + 1 by omega,marchGs,hP.out] at hgo2
   have hgo:=Lib.hid hgo2
   clear hgo2
   go_upto_region 7 with (first
    | (go_at_call 241;refine (s_on_any _ _ _ _ _ _ _ _ _ _ hri).mono ?_;rintro _ w3 ⟨x,y,z,rfl,hx,hy,hz,hb1⟩;have hri2:=hri.keep hb1;have hkept:=keepT hkept hb1 rfl;clear hK;have hK:=hkept;simp only [Kept,ka,kb,kc,kd,ke,kfa,kga] at hK)
    | (go_at_call 80;refine (hat _ (below_step Wrb (by assumption)) _ _ _).mono ?_;rintro _ w4 ⟨dd,rfl,hd,hb2⟩))
   have hXP:(cn .f32 x,cn .f32 y,cn .f32 z) = P:=by rw [← hP.out,hx,hy,hz]
   have hgo2:=hgo.out
   rw [← hXP,← hd] at hgo2
   have hgo:=Lib.hid hgo2
   clear hgo2 hx hy hz hXP hd
   have hri4:=hri2.keep hb2
   have hkept:=keep hkept hb2
   have W4b:=below_step (below_step Wrb hb1) hb2
   have Wb4:=below_step (below_step Wb hb1) hb2
   clear hri hri2 hb1 hb2 Wrb hK Wb
   have hK:=hkept;simp only [Kept,ka,kb,kc,kd,ke,kfa,kga] at hK
   cases hlt:(FloatKind.f32.format.order dd near == some .lt)
   ·have hgo2:=hgo.out
    rw [ltk_cn,ltk,hlt] at hgo2
    simp only [Bool.false_eq_true,if_false] at hgo2
    have hgo:=Lib.hid hgo2
    clear hgo2
    go_upto_region 10 with ((refine wp_bin rfl _ _ _ _ _ rfl _ _ _ rfl rfl rfl ?_;intro r n hr))
    obtain ⟨r1,hr1,hr2⟩:∃ r1,cn .f32 r1 = B .quo (cn .f32 dd) (cn .f32 sl) ∧ cn .f32 r = B .add (cn .f32 far) (cn .f32 r1):=⟨_,‹cn FloatKind.f32 _ = bin BinOp.quo FloatKind.f32 (cn .f32 dd) (cn .f32 sl)›,hr⟩
    have hgo2:=hgo.out
    rw [← hr1,← hr2] at hgo2
    have hgo:=Lib.hid hgo2
    clear hgo2 hr1 hr2 hr
    have hle3:(gtk .f32 (cn .f32 r) (cn .f32 most) || !eqk .f32 (cn .f32 r) (cn .f32 r)) = ((FloatKind.f32.format.order r most == some .gt) || (FloatKind.f32.format.order r r != some .eq)):=by unfold gtk eqk;rw [order_cn,order_cn];rfl
    rcases far4 (FloatKind.f32.format.order r most == some .gt) (FloatKind.f32.format.order r r != some .eq) with ⟨hle4,hle2⟩ | ⟨hle4,hle2⟩ | ⟨hle4,hle2⟩
    ·have hgo2:=hgo.out
     rw [hle3,hle4] at hgo2
     simp only [Bool.true_or,if_true] at hgo2
     have hgo:=Lib.hid hgo2
     clear hgo2 hle3
     go_wp2_with (go_at_call 241;refine (s_on_any _ _ _ _ _ _ _ _ _ _ (by exact ⟨hri4.kept⟩)).mono ?_;rintro _ w5 ⟨x2,y2,z2,rfl,hx2,hy2,hz2,hb1⟩;have hkept:=keepT hkept hb1 rfl;clear hK;have hK:=hkept;simp only [Kept,ka,kb,kc,kd,ke,kfa,kga] at hK)
     have hgo2:=hgo.out
     have hX:(cn .f32 x2,cn .f32 y2,cn .f32 z2) = onF (cn .f32 a,cn .f32 b,cn .f32 c) (cn .f32 d,cn .f32 e,cn .f32 f) (cn .f32 r):=by rw [hx2,hy2,hz2]
     have h1:Ending.returned (HitV 0 j r x2 y2 z2) = .returned (HitV R.1 R.2.1 r x2 y2 z2):=by rw [hgo2]
     have h2:cn .f32 r = R.2.2:=by rw [hgo2]
     have h3:(cn .f32 x2,cn .f32 y2,cn .f32 z2) = onF (cn .f32 a,cn .f32 b,cn .f32 c) (cn .f32 d,cn .f32 e,cn .f32 f) R.2.2:=by rw [hX,hgo2]
     exact bodyPost_ret (v:=HitV 0 j r x2 y2 z2) (by simp [results,Tryz.results163,go_sem,hK,World.cell?_setCell_other,World.cell?_setCell_same']) rfl ⟨r,x2,y2,z2,h1,h2,h3,bel6 (below_step (below_drewN W4b _) hb1) (by omega) ..⟩
    ·have hgo2:=hgo.out
     rw [hle3,hle4,hle2] at hgo2
     simp only [Bool.or_true,if_true] at hgo2
     have hgo:=Lib.hid hgo2
     clear hgo2 hle3
     go_wp2_with (go_at_call 241;refine (s_on_any _ _ _ _ _ _ _ _ _ _ (by exact ⟨hri4.kept⟩)).mono ?_;rintro _ w5 ⟨x2,y2,z2,rfl,hx2,hy2,hz2,hb1⟩;have hkept:=keepT hkept hb1 rfl;clear hK;have hK:=hkept;simp only [Kept,ka,kb,kc,kd,ke,kfa,kga] at hK)
     have hgo2:=hgo.out
     have hX:(cn .f32 x2,cn .f32 y2,cn .f32 z2) = onF (cn .f32 a,cn .f32 b,cn .f32 c) (cn .f32 d,cn .f32 e,cn .f32 f) (cn .f32 r):=by rw [hx2,hy2,hz2]
     have h1:Ending.returned (HitV 0 j r x2 y2 z2) = .returned (HitV R.1 R.2.1 r x2 y2 z2):=by rw [hgo2]
     have h2:cn .f32 r = R.2.2:=by rw [hgo2]
     have h3:(cn .f32 x2,cn .f32 y2,cn .f32 z2) = onF (cn .f32 a,cn .f32 b,cn .f32 c) (cn .f32 d,cn .f32 e,cn .f32 f) R.2.2:=by rw [hX,hgo2]
     exact bodyPost_ret (v:=HitV 0 j r x2 y2 z2) (by simp [results,Tryz.results163,go_sem,hK,World.cell?_setCell_other,World.cell?_setCell_same']) rfl ⟨r,x2,y2,z2,h1,h2,h3,bel6 (below_step (below_drewN W4b _) hb1) (by omega) ..⟩
    ·have hgo2:=hgo.out
     rw [hle3,hle4,hle2] at hgo2
     simp only [Bool.or_false,Bool.false_eq_true,if_false] at hgo2
     have hgo:=Lib.hid hgo2
     clear hgo2 hle3
     go_wp2_with fail
     exact ⟨⟨j + 1,r,by omega,by omega,rfl,rfl,by unfold Hid;rw [hgo.out,Nat.add_sub_add_right],below_drewN Wb4 _⟩,by simp [intOf];omega⟩
   ·have hgo2:=hgo.out
    rw [ltk_cn,ltk,hlt] at hgo2
    simp only [if_true] at hgo2
    go_wp2_with (go_at_call 241;refine (s_on_any _ _ _ _ _ _ _ _ _ _ hri4).mono ?_;rintro _ w5 ⟨x2,y2,z2,rfl,hx2,hy2,hz2,hb1⟩;have hkept:=keepT hkept hb1 rfl;clear hK;have hK:=hkept;simp only [Kept,ka,kb,kc,kd,ke,kfa,kga] at hK)
    have hX:(cn .f32 x2,cn .f32 y2,cn .f32 z2) = onF (cn .f32 a,cn .f32 b,cn .f32 c) (cn .f32 d,cn .f32 e,cn .f32 f) (cn .f32 far):=by rw [hx2,hy2,hz2]
    have h1:Ending.returned (HitV 1 j far x2 y2 z2) = .returned (HitV R.1 R.2.1 far x2 y2 z2):=by rw [hgo2]
    have h2:cn .f32 far = R.2.2:=by rw [hgo2]
    have h3:(cn .f32 x2,cn .f32 y2,cn .f32 z2) = onF (cn .f32 a,cn .f32 b,cn .f32 c) (cn .f32 d,cn .f32 e,cn .f32 f) R.2.2:=by rw [hX,hgo2]
    exact bodyPost_ret (v:=HitV 1 j far x2 y2 z2) (by simp [results,Tryz.results163,go_sem,hK,World.cell?_setCell_other,World.cell?_setCell_same']) rfl ⟨far,x2,y2,z2,h1,h2,h3,bel6 (below_step W4b hb1) (by omega) ..⟩
  ·have hle':¬ (j:Int) ≤ (n:Int):=by omega
   obtain rfl:j = n + 1:=by omega
   have hgo2:=hgo.out
   rw [Nat.sub_self,marchGs,Nat.add_sub_cancel] at hgo2
   have hri:RayIn a b c d e f rb ro wr:=⟨by simp only [Kept,ka,kb,kc,kd,ke,kfa,kga];simp [hK]⟩
   go_upto_region 12 with fail
   clear hK
   refine Qr.wp_below 9 (by kernel_rfl) (by kernel_rfl) (PhiOn 241 (cn .f32 a,cn .f32 b,cn .f32 c) (cn .f32 d,cn .f32 e,cn .f32 f)) ?_
   repeat (first
    | (refine Qr.walk_plain rfl fun K hK => ?_;apply Qr.one_det;(focus (intro w' hw';have HK:=keep hkept hw';simp only [Kept,ka,kb,kc,kd,ke,kfa,kga] at HK;go_simp;first | done | rfl));go_simp;refine hK _ ?_;clear hK K)
    | (refine Qr.walk_plain rfl fun K hK => ?_;apply Qr.one_call;(focus (intro w' hw';go_simp;first | done | exact ⟨rfl,rfl⟩));(focus (intro w' hw'; go_at_call 241;refine (s_on_any _ _ _ _ _ _ _ _ _ _ (hri.keep hw')).mono ?_;rintro _ w3 ⟨r1,r2,r3,rfl,hr1,hr2,hr3,hb1⟩;exact ⟨_,rfl,PhiOn.on _ _ _ _ _ (by rw [hr1,hr2,hr3]),below_step hw' (by assumption),by assumption⟩));intro v hv;cases hv;go_simp;refine hK _ ?_;clear hK K))
   rename_i x2 y2 z2 hX
   refine Qr.walk_nil fun w5 hw5 => ?_
   have hkept:=keep hkept hw5
   have W5b:=below_step Wrb hw5
   have hK:=hkept;simp only [Kept,ka,kb,kc,kd,ke,kfa,kga] at hK
   have h1:Ending.returned (HitV 2 n far x2 y2 z2) = .returned (HitV R.1 R.2.1 far x2 y2 z2):=by rw [hgo2]
   have h2:cn .f32 far = R.2.2:=by rw [hgo2]
   have h3:(cn .f32 x2,cn .f32 y2,cn .f32 z2) = onF (cn .f32 a,cn .f32 b,cn .f32 c) (cn .f32 d,cn .f32 e,cn .f32 f) R.2.2:=by rw [hX,hgo2]
   clear hgo2 hX
   go_wp2_with fail
   exact bodyPost_ret (v:=HitV 2 n far x2 y2 z2) (by simp [results,Tryz.results163,go_sem,hK,World.cell?_setCell_other,World.cell?_setCell_same']) rfl ⟨far,x2,y2,z2,h1,h2,h3,bel6 W5b (by omega) ..⟩
end Go.Proofs.YtbiacfkiakddiaaGreat

namespace Go.Proofs.YtbiacfkiakddiaaGreat
open Go.RowKit Go.Fl
theorem zero_place {x:Nat} {s:Bool} {e:Int} (h:FloatKind.f32.decode x = .number s 0 e):e = -149:=by
 change Ieee.single.read x = _ at h
 unfold Ieee.Format.read at h
 simp only [bS,iS,sS,lpS] at h
 split at h
 ·injection h with h1 h2 h3
  exact h3.symm
 ·split at h
  ·injection h with h1 h2 h3
   omega
  ·split at h <;> cases h

theorem eq_zero {x:Nat} (h:FloatKind.f32.format.order x 0 = some .eq):∃ s,FloatKind.f32.decode x = .number s 0 (-149):=by
 have h0:FloatKind.f32.decode 0 = .number false 0 (-149):=by decide +kernel
 change (FloatKind.f32.decode x).order (FloatKind.f32.decode 0) = _ at h
 rw [h0] at h
 cases hx:FloatKind.f32.decode x with
 | nan s t => rw [hx] at h;cases h
 | infinity s => rw [hx] at h;cases s <;> cases h
 | number s m e =>
  rw [hx] at h
  have h1:some (compare (Ieee.signed s m (e - min e (-149)).toNat) (Ieee.signed false 0 (-149 - min e (-149)).toNat)) = some Ordering.eq:=h
  have hm:=abs_cmp0 (Option.some.inj h1)
  subst hm
  rw [zero_place hx]
  exact ⟨s,rfl⟩

theorem zw_size {x x':Nat} (hx:Zw .f32 x x'):Zw .f32 (sizeF x) (sizeS x'):=by
 have ho:FloatKind.f32.format.order x 0 = FloatKind.f32.format.order x' 0:=Zw.order hx (Zw.refl _ 0)
 unfold sizeF sizeS
 cases h:FloatKind.f32.format.order x 0 with
 | none =>
  have h1:ltk .f32 x 0 = false:=by unfold ltk;rw [h];rfl
  have h2:lek .f32 x' 0 = false:=by unfold lek;rw [← ho,h];rfl
  rw [h1,h2];exact hx
 | some o =>
  cases o with
  | lt =>
   have h1:ltk .f32 x 0 = true:=by unfold ltk;rw [h];rfl
   have h2:lek .f32 x' 0 = true:=by unfold lek;rw [← ho,h];rfl
   rw [h1,h2]
   exact Zw.trans (sub_neg h1) (Zw.sub (Zw.refl _ _) hx)
  | eq =>
   have h1:ltk .f32 x 0 = false:=by unfold ltk;rw [h];rfl
   have h2:lek .f32 x' 0 = true:=by unfold lek;rw [← ho,h];rfl
   rw [h1,h2]
   obtain ⟨s,hd⟩:=eq_zero h
   have h3:Zw .f32 x 0:=.inr ⟨s,false,-149,hd,by decide +kernel⟩
   have h4:Zw .f32 0 (B .sub 0 0):=by
    have:B .sub 0 0 = 0:=by decide +kernel
    rw [this];exact Zw.refl _ _
   have h5:Zw .f32 x' x:=Zd.symm hx
   exact Zw.trans h3 (Zw.trans h4 (Zw.sub (Zw.refl _ _) (Zd.symm (Zw.trans h5 h3))))
  | gt =>
   have h1:ltk .f32 x 0 = false:=by unfold ltk;rw [h];rfl
   have h2:lek .f32 x' 0 = false:=by unfold lek;rw [← ho,h];rfl
   rw [h1,h2];exact hx

/-- Points that differ at most in signs of zeros. -/
def Zv (p q:Nat × Nat × Nat):Prop:=Zw .f32 p.1 q.1 ∧ Zw .f32 p.2.1 q.2.1 ∧ Zw .f32 p.2.2 q.2.2
theorem Zv.refl (p:Nat × Nat × Nat):Zv p p:=⟨Zw.refl _ _,Zw.refl _ _,Zw.refl _ _⟩

theorem z_box {x y z x' y' z':Nat} (h1:Zw .f32 x x') (h2:Zw .f32 y y') (h3:Zw .f32 z z') (u v t:Nat):Zw .f32 (boxF x y z u v t) (boxS x' y' z' u v t):=by
 have R:=fun x => Zw.refl .f32 x
 have d:=Zw.sub (zw_size h1) (R u)
 have e:=Zw.sub (zw_size h2) (R v)
 have f:=Zw.sub (zw_size h3) (R t)
 unfold boxF boxS
 change Zw .f32 (B .sub (sizeF x) u) (B .sub (sizeS x') u) at d
 change Zw .f32 (B .sub (sizeF y) v) (B .sub (sizeS y') v) at e
 change Zw .f32 (B .sub (sizeF z) t) (B .sub (sizeS z') t) at f
 generalize B .sub (sizeF x) u = a1 at *
 generalize B .sub (sizeF y) v = a2 at *
 generalize B .sub (sizeF z) t = a3 at *
 generalize B .sub (sizeS x') u = b1 at *
 generalize B .sub (sizeS y') v = b2 at *
 generalize B .sub (sizeS z') t = b3 at *
 exact Zw.add (Zw.long (Zw.greater (R 0) d) (Zw.greater (R 0) e) (Zw.greater (R 0) f)) (Zw.lesser (R 0) (Zw.greater (Zw.greater d e) f))

theorem z_ring {x y z x' y' z':Nat} (h1:Zw .f32 x x') (h2:Zw .f32 y y') (h3:Zw .f32 z z') (u r:Nat):Zw .f32 (ringF x y z u r) (ringS x' y' z' u r):=by
 have i:Zw .f32 (B .sub (longF x 0 z) u) (B .sub (longF x' 0 z') u):=Zw.sub (Zw.long h1 (Zw.refl .f32 0) h3) (Zw.refl .f32 u)
 unfold ringF ringS
 generalize B .sub (longF x 0 z) u = a1 at *
 generalize B .sub (longF x' 0 z') u = b1 at *
 exact Zw.sub (Zw.long i h2 (Zw.refl .f32 0)) (Zw.refl .f32 r)

theorem z_leaf {n:PN} (hok:n.ok) (hc:(ruleF n.kind).2.1 = 0) {p q:Nat × Nat × Nat} (hp:Zv p q):Zw .f32 (leafF n p.1 p.2.1 p.2.2) (leafS n q.1 q.2.1 q.2.2):=by
 obtain ⟨h1,h2,h3⟩:=hp
 have R:=fun x => Zw.refl .f32 x
 have hr:=hok.kind
 have hl:=hok.nums
 obtain ⟨k,na,nb,nums⟩:=n
 simp only at *
 have:k = 0 ∨ k = 1 ∨ k = 2 ∨ k = 3 ∨ k = 4 ∨ k = 5 ∨ k = 6 ∨ k = 7 ∨ k = 8 ∨ k = 9 ∨ k = 10 ∨ k = 11 ∨ k = 12 ∨ k = 13 ∨ k = 14 ∨ k = 15 ∨ k = 16:=by omega
 rcases this with h | h | h | h | h | h | h | h | h | h | h | h | h | h | h | h | h <;> subst h
 ·obtain ⟨r,rfl⟩:=len1 hl
  exact (Zw.long h1 h2 h3).sub (R _)
 ·obtain ⟨r,s,t,rfl⟩:=len3 hl
  simp only [leafF,leafS,List.map_cons,List.map_nil]
  exact z_box h1 h2 h3 _ _ _
 ·obtain ⟨r,s,rfl⟩:=len2 hl
  exact (Zw.long h1 (h2.sub (((R 0).greater h2).lesser (R _))) h3).sub (R _)
 ·obtain ⟨r,s,rfl⟩:=len2 hl
  simp only [leafF,leafS,List.map_cons,List.map_nil]
  exact z_ring h1 h2 h3 _ _
 ·obtain ⟨r,s,t,u,rfl⟩:=len4 hl
  exact (Zw.inner h1 h2 h3 (R _) (R _) (R _)).sub (R _)
 all_goals exact absurd hc (by decide)

theorem z_smooth {a b a' b':Nat} (ha:Zw .f32 a a') (hb:Zw .f32 b b') (k:Nat):Zw .f32 (smoothF a b k) (smoothS a' b' k):=by
 have hh:=(Zw.refl .f32 k).sub (zw_size (ha.sub hb))
 have hg:=Zw.gtk hh (Zw.refl .f32 0)
 unfold smoothF smoothS bulgeF
 change gtk .f32 (B .sub k (sizeF (B .sub a b))) 0 = gtk .f32 (B .sub k (sizeS (B .sub a' b'))) 0 at hg
 rw [← hg]
 cases hc:gtk .f32 (B .sub k (sizeF (B .sub a b))) 0
 ·simp only [Bool.false_eq_true,if_false]
  exact ha.lesser hb
 ·simp only [if_true]
  exact (ha.lesser hb).sub ((hh.mul hh).quo _)

theorem z_mix {n:PN} (hok:n.ok) (hc:(ruleF n.kind).2.1 ≠ 0) {x y x' y':Nat} (hx:Zw .f32 x x') (hy:Zw .f32 y y'):Zw .f32 (mixF n x y) (mixS n x' y'):=by
 have R:=fun x => Zw.refl .f32 x
 have hr:=hok.kind
 have hl:=hok.nums
 obtain ⟨k,na,nb,nums⟩:=n
 simp only at *
 have:k = 0 ∨ k = 1 ∨ k = 2 ∨ k = 3 ∨ k = 4 ∨ k = 5 ∨ k = 6 ∨ k = 7 ∨ k = 8 ∨ k = 9 ∨ k = 10 ∨ k = 11 ∨ k = 12 ∨ k = 13 ∨ k = 14 ∨ k = 15 ∨ k = 16:=by omega
 rcases this with h | h | h | h | h | h | h | h | h | h | h | h | h | h | h | h | h <;> subst h
 iterate 5 exact absurd rfl hc
 ·exact hx.lesser hy
 ·exact hx.greater hy
 ·exact hx.greater hy.neg
 ·obtain ⟨r,rfl⟩:=len1 hl
  exact z_smooth hx hy _
 ·exact hx
 ·obtain ⟨r,rfl⟩:=len1 hl
  exact hx.mul (R _)
 ·exact hx
 ·exact hx
 ·exact hx
 ·exact hx
 ·obtain ⟨r,rfl⟩:=len1 hl
  exact hx.sub (R _)
 ·obtain ⟨r,rfl⟩:=len1 hl
  exact (zw_size hx).sub (R _)

theorem z_folded {c c':Nat} (hc:Zw .f32 c c') (s:Nat):Zw .f32 (foldedF c s) (foldedS c' s) :=
 zw_size (hc.sub ((Zw.refl _ _).mul (Zw.near (hc.quo _))))
theorem z_turn1 {i i' j j':Nat} (hi:Zw .f32 i i') (hj:Zw .f32 j j') (t:Nat):Zw .f32 (turn1 t i j) (turn1 t i' j') :=
 ((Zw.refl _ _).mul hi).add ((Zw.refl _ _).mul hj)
theorem z_turn2 {i i' j j':Nat} (hi:Zw .f32 i i') (hj:Zw .f32 j j') (t:Nat):Zw .f32 (turn2 t i j) (turn2 t i' j') :=
 ((Zw.refl _ _).mul hj).sub ((Zw.refl _ _).mul hi)

theorem z_point {n:PN} (hok:n.ok) (hc:(ruleF n.kind).2.1 = 1) {p q:Nat × Nat × Nat} (hp:Zv p q):Zv (pointF n p) (pointS n q):=by
 obtain ⟨h1,h2,h3⟩:=hp
 have R:=fun x => Zw.refl .f32 x
 have hr:=hok.kind
 have hl:=hok.nums
 have hax:=hok.axis
 obtain ⟨k,na,nb,nums⟩:=n
 obtain ⟨x,y,z⟩:=p
 obtain ⟨x',y',z'⟩:=q
 simp only at *
 have:k = 0 ∨ k = 1 ∨ k = 2 ∨ k = 3 ∨ k = 4 ∨ k = 5 ∨ k = 6 ∨ k = 7 ∨ k = 8 ∨ k = 9 ∨ k = 10 ∨ k = 11 ∨ k = 12 ∨ k = 13 ∨ k = 14 ∨ k = 15 ∨ k = 16:=by omega
 rcases this with h | h | h | h | h | h | h | h | h | h | h | h | h | h | h | h | h <;> subst h
 iterate 9 exact absurd hc (by decide)
 ·obtain ⟨r,s,t,rfl⟩:=len3 hl
  exact ⟨h1.sub (R _),h2.sub (R _),h3.sub (R _)⟩
 ·obtain ⟨r,rfl⟩:=len1 hl
  exact ⟨h1.quo _,h2.quo _,h3.quo _⟩
 ·obtain ⟨r,s,t,rfl⟩:=len3 hl
  exact ⟨h1.quo _,h2.quo _,h3.quo _⟩
 ·have hb0:nb = 0 ∨ nb = 1 ∨ nb = 2:=by
   rcases hax with h | h | ⟨_,h⟩
   ·exact absurd h (by decide)
   ·omega
   ·omega
  obtain ⟨r,rfl⟩:=len1 hl
  rcases hb0 with h | h | h <;> subst h
  ·exact ⟨h1,z_turn1 h2 h3 _,z_turn2 h2 h3 _⟩
  ·exact ⟨z_turn2 h3 h1 _,h2,z_turn1 h3 h1 _⟩
  ·exact ⟨z_turn1 h1 h2 _,z_turn2 h1 h2 _,h3⟩
 ·have hb0:nb = 0 ∨ nb = 1 ∨ nb = 2:=by
   rcases hax with h | h | ⟨_,h⟩
   ·exact absurd h (by decide)
   ·omega
   ·omega
  have hl0:nums = []:=List.length_eq_zero_iff.1 hl
  subst hl0
  rcases hb0 with h | h | h <;> subst h
  ·exact ⟨zw_size h1,h2,h3⟩
  ·exact ⟨h1,zw_size h2,h3⟩
  ·exact ⟨h1,h2,zw_size h3⟩
 ·have hb0:nb = 0 ∨ nb = 1 ∨ nb = 2:=by
   rcases hax with h | h | ⟨_,h⟩
   ·exact absurd h (by decide)
   ·omega
   ·omega
  obtain ⟨r,rfl⟩:=len1 hl
  rcases hb0 with h | h | h <;> subst h
  ·exact ⟨z_folded h1 _,h2,h3⟩
  ·exact ⟨h1,z_folded h2 _,h3⟩
  ·exact ⟨h1,h2,z_folded h3 _⟩
 ·exact ⟨h1,h2,h3⟩
 ·exact ⟨h1,h2,h3⟩

theorem pointS_two {n:PN} (hok:n.ok) (hc:(ruleF n.kind).2.1 = 2) (q:Nat × Nat × Nat):pointS n q = q:=by
 have hr:=hok.kind
 obtain ⟨k,na,nb,nums⟩:=n
 simp only at *
 have:k = 0 ∨ k = 1 ∨ k = 2 ∨ k = 3 ∨ k = 4 ∨ k = 5 ∨ k = 6 ∨ k = 7 ∨ k = 8 ∨ k = 9 ∨ k = 10 ∨ k = 11 ∨ k = 12 ∨ k = 13 ∨ k = 14 ∨ k = 15 ∨ k = 16:=by omega
 rcases this with h | h | h | h | h | h | h | h | h | h | h | h | h | h | h | h | h <;> subst h <;> first | rfl | exact absurd hc (by decide)
end Go.Proofs.YtbiacfkiakddiaaGreat

namespace Go.Proofs.YtbiacfkiakddiaaGreat
open Go.RowKit Go.Fl Ieee
theorem cmp_swap (a b:Int):(some (compare a b) == some Ordering.lt) = (some (compare b a) == some Ordering.gt):=by
 have h:compare a b = .lt ↔ compare b a = .gt:=by rw [Ft.cmp_lt,Ft.cmp_gt]
 cases h1:compare a b <;> cases h2:compare b a <;> simp_all

theorem order_turn (d e:Datum):(d.order e == some .lt) = (e.order d == some .gt):=by
 cases d with
 | nan s t => cases e <;> rfl
 | infinity s =>
  cases e with
  | nan u v => cases s <;> rfl
  | infinity u => cases s <;> cases u <;> rfl
  | number u n j => cases s <;> rfl
 | number s m i =>
  cases e with
  | nan u v => rfl
  | infinity u => cases u <;> rfl
  | number u n j =>
   show (some (compare _ _) == some Ordering.lt) = (some (compare _ _) == some Ordering.gt)
   rw [cmp_swap,Int.min_comm]

theorem cap_same (x:Nat):capF x = capS x:=by
 unfold capF capS lesserF
 have h:ltk .f32 (cn .f32 1065353216) x = gtk .f32 x (cn .f32 1065353216):=order_turn _ _
 rw [h]

theorem zw_cap {x x':Nat} (h:Zw .f32 x x'):Zw .f32 (capF x) (capS x'):=by
 rw [← cap_same];exact Zw.lesser h (Zw.refl _ _)

theorem zw_amb {d d':Nat} (h:Zw .f32 d d') (f:Nat):Zw .f32 (ambX d f) (ambX d' f):=by
 have hq:=Zw.quo (Zw.sub (Zw.refl .f32 f) h) f
 unfold ambX
 have hg:gek .f32 (B .quo (B .sub f d) f) 0 = gek .f32 (B .quo (B .sub f d') f) 0:=by unfold gek;rw [Zw.order hq (Zw.refl _ 0)]
 rw [hg]
 split
 ·exact hq
 ·exact Zw.refl _ _

theorem one_sub {y y':Nat} (h:Zw .f32 y y'):B .sub (cn .f32 1065353216) y = B .sub (cn .f32 1065353216) y':=by
 rw [B,B,bin_sub,bin_sub]
 rcases h with h | ⟨s,t,p,h,h'⟩
 ·rw [h]
 ·have hp:=zero_place h
  subst hp
  rw [h,h']
  cases s <;> cases t <;> first | rfl | kernel_rfl

end Go.Proofs.YtbiacfkiakddiaaGreat

namespace Go.Proofs.YtbiacfkiakddiaaGreat
open Go.RowKit Go.Fl Ieee
theorem cmp_swap2 (a b:Int):(some (compare a b) == some Ordering.lt) = (some (compare b a) == some Ordering.gt):=by
 have h:compare a b = .lt ↔ compare b a = .gt:=by rw [Ft.cmp_lt,Ft.cmp_gt]
 cases h1:compare a b <;> cases h2:compare b a <;> simp_all

theorem order_turn2 (d e:Datum):(d.order e == some .lt) = (e.order d == some .gt):=by
 cases d with
 | nan s t => cases e <;> rfl
 | infinity s =>
  cases e with
  | nan u v => cases s <;> rfl
  | infinity u => cases s <;> cases u <;> rfl
  | number u n j => cases s <;> rfl
 | number s m i =>
  cases e with
  | nan u v => rfl
  | infinity u => cases u <;> rfl
  | number u n j =>
   show (some (compare _ _) == some Ordering.lt) = (some (compare _ _) == some Ordering.gt)
   rw [cmp_swap2,Int.min_comm]

theorem order_some {d e:Datum} (hd:d.isNaN = false) (he:e.isNaN = false):∃ o,d.order e = some o:=by
 cases d <;> cases e <;> first | exact ⟨_,rfl⟩ | (cases hd;done) | (cases he;done)

/-- Not farther than a number. -/
theorem le_cond {m:Nat} (hm:(FloatKind.f32.decode m).isNaN = false) (a:Nat):(gtk .f32 a m || !eqk .f32 a a) = !lek .f32 a m:=by
 unfold gtk eqk lek
 cases ha:(FloatKind.f32.decode a).isNaN
 ·rw [order_self ha]
  obtain ⟨o,ho⟩:=order_some ha hm
  have ho':FloatKind.f32.format.order a m = some o:=ho
  rw [ho']
  cases o <;> rfl
 ·have h1:FloatKind.f32.format.order a m = none:=order_nan_l ha
  have h2:FloatKind.f32.format.order a a = none:=order_nan_l ha
  rw [h1,h2]
  rfl

theorem near_zero {x near:Nat} {s:Bool} {p:Int} (hx:FloatKind.f32.decode x = .number s 0 p) (hn:gtk .f32 near 0 = true):ltk .f32 x near = true:=by
 have hp:=zero_place hx
 subst hp
 have h0:Zw .f32 x 0:=Or.inr ⟨s,false,_,hx,by kernel_rfl⟩
 rw [Zw.ltk h0 (Zw.refl _ _)]
 have:ltk .f32 0 near = gtk .f32 near 0:=order_turn2 _ _
 rw [this,hn]

theorem mar_parts {near most:Nat} {n:Int} (h:marOk near most n = true):gtk .f32 near 0 = true ∧ (FloatKind.f32.decode most).isNaN = false:=by
 unfold marOk rightP at h
 simp only [Bool.and_eq_true] at h
 refine ⟨h.1.1.1.2,?_⟩
 cases hn:(FloatKind.f32.decode most).isNaN
 ·rfl
 ·have h1:FloatKind.f32.format.order most 0 = none:=order_nan_l hn
  have:=h.1.2
  unfold gtk eqk at this
  rw [h1] at this
  cases this

end Go.Proofs.YtbiacfkiakddiaaGreat
