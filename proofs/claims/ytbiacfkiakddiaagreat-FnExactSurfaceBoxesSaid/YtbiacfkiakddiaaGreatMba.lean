/-
 Lemmas: V1.
-/
import Derived.Test.YtbiacfkiakddiaaGreatMas
set_option linter.unusedVariables false
set_option linter.unusedSimpArgs false
namespace Go.Proofs.YtbiacfkiakddiaaGreat
open Go.RowKit Go.Fl
abbrev RgV (l h:Nat):Value:=.agg #[F1 l,F1 h]
/-- A range comes back. -/
def RetR (r:Nat × Nat) (w:World) (e:Ending) (w':World):Prop:=∃ l h,e = .returned (RgV l h) ∧ (cn .f32 l,cn .f32 h) = r ∧ Below w.heap.size w w'

def sizeR (r:Nat × Nat):Nat × Nat:=if gtk .f32 r.1 0 then r else if ltk .f32 r.2 0 then (negc .f32 r.2,negc .f32 r.1) else (0,greaterF (negc .f32 r.1) r.2)
def plusR (r o:Nat × Nat):Nat × Nat:=(B .add r.1 o.1,B .add r.2 o.2)
def lessR (r o:Nat × Nat):Nat × Nat:=(B .sub r.1 o.2,B .sub r.2 o.1)
def downR (r:Nat × Nat) (v:Nat):Nat × Nat:=(B .sub r.1 v,B .sub r.2 v)
def nanP (x:Nat):Bool:=!eqk .f32 x x
def timesR (r:Nat × Nat) (v:Nat):Nat × Nat:=if nanP (B .mul r.1 v) || nanP (B .mul r.2 v) then (nanw .f32,nanw .f32) else (lesserF (B .mul r.1 v) (B .mul r.2 v),greaterF (B .mul r.1 v) (B .mul r.2 v))
def longR (x y z:Nat × Nat):Nat × Nat:=(longF (sizeR x).1 (sizeR y).1 (sizeR z).1,longF (sizeR x).2 (sizeR y).2 (sizeR z).2)

theorem bel2 {B g:Nat} {a w:World} (h:Below B a w) (hg:B ≤ g) (x0 x1:Value):Below B a ((w.setCell ⟨g,0,none⟩ x0).setCell ⟨g,1,none⟩ x1) :=
 (h.setCell (p:=⟨g,0,none⟩) hg _).setCell (p:=⟨g,1,none⟩) hg _
theorem pr {α β:Type} {a c:α} {b d:β} (h1:a = c) (h2:b = d):(a,b) = (c,d):=by rw [h1,h2]

set_option maxRecDepth 100000 in
set_option maxHeartbeats 1000000 in
theorem plus_any (a b c d:Nat) (w:World) :
  Calls Tryz.prog 213 #[RgV a b,RgV c d] w (RetR (plusR (cn .f32 a,cn .f32 b) (cn .f32 c,cn .f32 d)) w):=by
 go_enter Tryz.func213,Tryz.ntmps213
 go_upto_region 1 with fail
 generalize hW:((w.alloc (.cells #[F1 a,F1 b] 118)).alloc (.cells #[F1 c,F1 d] 118)).alloc (.cells #[F1 0,F1 0] 118) = W1 at *
 have W1b:Below w.heap.size w W1:=by subst hW;exact (by repeat' (first | exact Below.refl _ _ | exact Nat.le_refl _ | refine below_drewN ?_ _ | refine Below.alloc ?_ (by simp <;> omega) _ | refine Below.setCell ?_ (by simp <;> omega) _ | refine below_step ?_ (by assumption)))
 have hkept:Kept [(⟨w.heap.size,0,none⟩,F1 a),(⟨w.heap.size,1,none⟩,F1 b),(⟨w.heap.size + 1,0,none⟩,F1 c),(⟨w.heap.size + 1,1,none⟩,F1 d),(⟨w.heap.size + 1 + 1,0,none⟩,F1 0),(⟨w.heap.size + 1 + 1,1,none⟩,F1 0)] [⟨w.heap.size + 1 + 1,0,none⟩,⟨w.heap.size + 1 + 1,1,none⟩] W1:=by
  subst hW;simp only [Kept,ka,kb,kc,kd,ke,kf,kg];(first | (go_simp;done) | (simp [World.cell?,World.frozen?,World.alloc,Array.getElem?_push];done))
 clear hW
 have hK:=hkept;simp only [Kept,ka,kb,kc,kd,ke,kf,kg] at hK
 go_wp2_with (refine wp_bin rfl _ _ _ _ _ rfl _ _ _ rfl rfl rfl ?_;intro r n hr)
 exact bodyPost_ret (v:=RgV _ _) (by simp [results,Tryz.results213,go_sem,hK,World.cell?_setCell_other,World.cell?_setCell_same'];first | done | exact ⟨rfl,rfl⟩) rfl ⟨_,_,rfl,pr (by with_reducible assumption) (by with_reducible assumption),bel2 (below_drewN W1b _) (by omega) ..⟩

set_option maxRecDepth 100000 in
set_option maxHeartbeats 1000000 in
theorem rless_any (a b c d:Nat) (w:World) :
  Calls Tryz.prog 214 #[RgV a b,RgV c d] w (RetR (lessR (cn .f32 a,cn .f32 b) (cn .f32 c,cn .f32 d)) w):=by
 go_enter Tryz.func214,Tryz.ntmps214
 go_upto_region 1 with fail
 generalize hW:((w.alloc (.cells #[F1 a,F1 b] 118)).alloc (.cells #[F1 c,F1 d] 118)).alloc (.cells #[F1 0,F1 0] 118) = W1 at *
 have W1b:Below w.heap.size w W1:=by subst hW;exact (by repeat' (first | exact Below.refl _ _ | exact Nat.le_refl _ | refine below_drewN ?_ _ | refine Below.alloc ?_ (by simp <;> omega) _ | refine Below.setCell ?_ (by simp <;> omega) _ | refine below_step ?_ (by assumption)))
 have hkept:Kept [(⟨w.heap.size,0,none⟩,F1 a),(⟨w.heap.size,1,none⟩,F1 b),(⟨w.heap.size + 1,0,none⟩,F1 c),(⟨w.heap.size + 1,1,none⟩,F1 d),(⟨w.heap.size + 1 + 1,0,none⟩,F1 0),(⟨w.heap.size + 1 + 1,1,none⟩,F1 0)] [⟨w.heap.size + 1 + 1,0,none⟩,⟨w.heap.size + 1 + 1,1,none⟩] W1:=by
  subst hW;simp only [Kept,ka,kb,kc,kd,ke,kf,kg];(first | (go_simp;done) | (simp [World.cell?,World.frozen?,World.alloc,Array.getElem?_push];done))
 clear hW
 have hK:=hkept;simp only [Kept,ka,kb,kc,kd,ke,kf,kg] at hK
 go_wp2_with (refine wp_bin rfl _ _ _ _ _ rfl _ _ _ rfl rfl rfl ?_;intro r n hr)
 exact bodyPost_ret (v:=RgV _ _) (by simp [results,Tryz.results214,go_sem,hK,World.cell?_setCell_other,World.cell?_setCell_same'];first | done | exact ⟨rfl,rfl⟩) rfl ⟨_,_,rfl,pr (by with_reducible assumption) (by with_reducible assumption),bel2 (below_drewN W1b _) (by omega) ..⟩

set_option maxRecDepth 100000 in
set_option maxHeartbeats 1000000 in
theorem s_radd_any (a b c d:Nat) (w:World) :
  Calls Tryz.prog 192 #[RgV a b,RgV c d] w (RetR (plusR (cn .f32 a,cn .f32 b) (cn .f32 c,cn .f32 d)) w):=by
 go_enter Tryz.func192,Tryz.ntmps192
 go_upto_region 1 with fail
 generalize hW:((w.alloc (.cells #[F1 a,F1 b] 118)).alloc (.cells #[F1 c,F1 d] 118)).alloc (.cells #[F1 0,F1 0] 118) = W1 at *
 have W1b:Below w.heap.size w W1:=by subst hW;exact (by repeat' (first | exact Below.refl _ _ | exact Nat.le_refl _ | refine below_drewN ?_ _ | refine Below.alloc ?_ (by simp <;> omega) _ | refine Below.setCell ?_ (by simp <;> omega) _ | refine below_step ?_ (by assumption)))
 have hkept:Kept [(⟨w.heap.size,0,none⟩,F1 a),(⟨w.heap.size,1,none⟩,F1 b),(⟨w.heap.size + 1,0,none⟩,F1 c),(⟨w.heap.size + 1,1,none⟩,F1 d),(⟨w.heap.size + 1 + 1,0,none⟩,F1 0),(⟨w.heap.size + 1 + 1,1,none⟩,F1 0)] [⟨w.heap.size + 1 + 1,0,none⟩,⟨w.heap.size + 1 + 1,1,none⟩] W1:=by
  subst hW;simp only [Kept,ka,kb,kc,kd,ke,kf,kg];(first | (go_simp;done) | (simp [World.cell?,World.frozen?,World.alloc,Array.getElem?_push];done))
 clear hW
 have hK:=hkept;simp only [Kept,ka,kb,kc,kd,ke,kf,kg] at hK
 go_wp2_with (refine wp_bin rfl _ _ _ _ _ rfl _ _ _ rfl rfl rfl ?_;intro r n hr)
 exact bodyPost_ret (v:=RgV _ _) (by simp [results,Tryz.results192,go_sem,hK,World.cell?_setCell_other,World.cell?_setCell_same'];first | done | exact ⟨rfl,rfl⟩) rfl ⟨_,_,rfl,pr (by with_reducible assumption) (by with_reducible assumption),bel2 (below_drewN W1b _) (by omega) ..⟩

set_option maxRecDepth 100000 in
set_option maxHeartbeats 1000000 in
theorem s_rless_any (a b c d:Nat) (w:World) :
  Calls Tryz.prog 187 #[RgV a b,RgV c d] w (RetR (lessR (cn .f32 a,cn .f32 b) (cn .f32 c,cn .f32 d)) w):=by
 go_enter Tryz.func187,Tryz.ntmps187
 go_upto_region 1 with fail
 generalize hW:((w.alloc (.cells #[F1 a,F1 b] 118)).alloc (.cells #[F1 c,F1 d] 118)).alloc (.cells #[F1 0,F1 0] 118) = W1 at *
 have W1b:Below w.heap.size w W1:=by subst hW;exact (by repeat' (first | exact Below.refl _ _ | exact Nat.le_refl _ | refine below_drewN ?_ _ | refine Below.alloc ?_ (by simp <;> omega) _ | refine Below.setCell ?_ (by simp <;> omega) _ | refine below_step ?_ (by assumption)))
 have hkept:Kept [(⟨w.heap.size,0,none⟩,F1 a),(⟨w.heap.size,1,none⟩,F1 b),(⟨w.heap.size + 1,0,none⟩,F1 c),(⟨w.heap.size + 1,1,none⟩,F1 d),(⟨w.heap.size + 1 + 1,0,none⟩,F1 0),(⟨w.heap.size + 1 + 1,1,none⟩,F1 0)] [⟨w.heap.size + 1 + 1,0,none⟩,⟨w.heap.size + 1 + 1,1,none⟩] W1:=by
  subst hW;simp only [Kept,ka,kb,kc,kd,ke,kf,kg];(first | (go_simp;done) | (simp [World.cell?,World.frozen?,World.alloc,Array.getElem?_push];done))
 clear hW
 have hK:=hkept;simp only [Kept,ka,kb,kc,kd,ke,kf,kg] at hK
 go_wp2_with (refine wp_bin rfl _ _ _ _ _ rfl _ _ _ rfl rfl rfl ?_;intro r n hr)
 exact bodyPost_ret (v:=RgV _ _) (by simp [results,Tryz.results187,go_sem,hK,World.cell?_setCell_other,World.cell?_setCell_same'];first | done | exact ⟨rfl,rfl⟩) rfl ⟨_,_,rfl,pr (by with_reducible assumption) (by with_reducible assumption),bel2 (below_drewN W1b _) (by omega) ..⟩

set_option maxRecDepth 100000 in
set_option maxHeartbeats 1000000 in
theorem down_any (a b v:Nat) (w:World) :
  Calls Tryz.prog 208 #[RgV a b,F1 v] w (RetR (downR (cn .f32 a,cn .f32 b) (cn .f32 v)) w):=by
 go_enter Tryz.func208,Tryz.ntmps208
 go_upto_region 1 with fail
 generalize hW:(w.alloc (.cells #[F1 a,F1 b] 118)).alloc (.cells #[F1 0,F1 0] 118) = W1 at *
 have W1b:Below w.heap.size w W1:=by subst hW;exact (by repeat' (first | exact Below.refl _ _ | exact Nat.le_refl _ | refine below_drewN ?_ _ | refine Below.alloc ?_ (by simp <;> omega) _ | refine Below.setCell ?_ (by simp <;> omega) _ | refine below_step ?_ (by assumption)))
 have hkept:Kept [(⟨w.heap.size,0,none⟩,F1 a),(⟨w.heap.size,1,none⟩,F1 b),(⟨w.heap.size + 1,0,none⟩,F1 0),(⟨w.heap.size + 1,1,none⟩,F1 0)] [⟨w.heap.size + 1,0,none⟩,⟨w.heap.size + 1,1,none⟩] W1:=by
  subst hW;simp only [Kept,ka,kb,kc,kd,ke,kf,kg];(first | (go_simp;done) | (simp [World.cell?,World.frozen?,World.alloc,Array.getElem?_push];done))
 clear hW
 have hK:=hkept;simp only [Kept,ka,kb,kc,kd,ke,kf,kg] at hK
 go_wp2_with (refine wp_bin rfl _ _ _ _ _ rfl _ _ _ rfl rfl rfl ?_;intro r n hr)
 exact bodyPost_ret (v:=RgV _ _) (by simp [results,Tryz.results208,go_sem,hK,World.cell?_setCell_other,World.cell?_setCell_same'];first | done | exact ⟨rfl,rfl⟩) rfl ⟨_,_,rfl,pr (by with_reducible assumption) (by with_reducible assumption),bel2 (below_drewN W1b _) (by omega) ..⟩

set_option maxRecDepth 100000 in
set_option maxHeartbeats 1000000 in
theorem sizer_any (a b:Nat) (w:World) :
  Calls Tryz.prog 215 #[RgV a b] w (RetR (sizeR (cn .f32 a,cn .f32 b)) w):=by
 cases h1:(FloatKind.f32.format.order a 0 == some .gt)
 ·cases h2:(FloatKind.f32.format.order b 0 == some .lt)
  ·have e:sizeR (cn .f32 a,cn .f32 b) = (0,greaterF (negc .f32 (cn .f32 a)) (cn .f32 b)):=by unfold sizeR;rw [gtk_of h1,ltk_of h2];rfl
   rw [e]
   go_enter Tryz.func215,Tryz.ntmps215
   go_upto_region 1 with fail
   generalize hW:(w.alloc (.cells #[F1 a,F1 b] 118)).alloc (.cells #[F1 0,F1 0] 118) = W1 at *
   have W1b:Below w.heap.size w W1:=by subst hW;exact (by repeat' (first | exact Below.refl _ _ | exact Nat.le_refl _ | refine below_drewN ?_ _ | refine Below.alloc ?_ (by simp <;> omega) _ | refine Below.setCell ?_ (by simp <;> omega) _ | refine below_step ?_ (by assumption)))
   have hkept:Kept [(⟨w.heap.size,0,none⟩,F1 a),(⟨w.heap.size,1,none⟩,F1 b),(⟨w.heap.size + 1,0,none⟩,F1 0),(⟨w.heap.size + 1,1,none⟩,F1 0)] [⟨w.heap.size + 1,0,none⟩,⟨w.heap.size + 1,1,none⟩] W1:=by
    subst hW;simp only [Kept,ka,kb,kc,kd,ke,kf,kg];(first | (go_simp;done) | (simp [World.cell?,World.frozen?,World.alloc,Array.getElem?_push];done))
   clear hW
   have hK:=hkept;simp only [Kept,ka,kb,kc,kd,ke,kf,kg] at hK
   go_wp2_with (go_at_call 222;refine (greater_any _ _ _).mono ?_;rintro _ w2 ⟨r1,rfl,hr1,hb1⟩;have hkept:=keepT hkept hb1 rfl;clear hK;have hK:=hkept;simp only [Kept,ka,kb,kc,kd,ke,kf,kg] at hK)
   exact bodyPost_ret (v:=RgV 0 r1) (by simp [results,Tryz.results215,go_sem,hK,World.cell?_setCell_other,World.cell?_setCell_same'];first | done | exact ⟨rfl,rfl⟩) rfl ⟨_,_,rfl,pr (cn_zero _) (by rw [hr1,negc_cn]),bel2 (below_step W1b hb1) (by omega) ..⟩
  ·have e:sizeR (cn .f32 a,cn .f32 b) = (negc .f32 (cn .f32 b),negc .f32 (cn .f32 a)):=by unfold sizeR;rw [gtk_of h1,ltk_of h2];rfl
   rw [e]
   go_enter Tryz.func215,Tryz.ntmps215
   go_upto_region 1 with fail
   generalize hW:(w.alloc (.cells #[F1 a,F1 b] 118)).alloc (.cells #[F1 0,F1 0] 118) = W1 at *
   have W1b:Below w.heap.size w W1:=by subst hW;exact (by repeat' (first | exact Below.refl _ _ | exact Nat.le_refl _ | refine below_drewN ?_ _ | refine Below.alloc ?_ (by simp <;> omega) _ | refine Below.setCell ?_ (by simp <;> omega) _ | refine below_step ?_ (by assumption)))
   have hkept:Kept [(⟨w.heap.size,0,none⟩,F1 a),(⟨w.heap.size,1,none⟩,F1 b),(⟨w.heap.size + 1,0,none⟩,F1 0),(⟨w.heap.size + 1,1,none⟩,F1 0)] [⟨w.heap.size + 1,0,none⟩,⟨w.heap.size + 1,1,none⟩] W1:=by
    subst hW;simp only [Kept,ka,kb,kc,kd,ke,kf,kg];(first | (go_simp;done) | (simp [World.cell?,World.frozen?,World.alloc,Array.getElem?_push];done))
   clear hW
   have hK:=hkept;simp only [Kept,ka,kb,kc,kd,ke,kf,kg] at hK
   go_wp2_with fail
   exact bodyPost_ret (v:=RgV _ _) (by simp [results,Tryz.results215,go_sem,hK,World.cell?_setCell_other,World.cell?_setCell_same'];first | done | exact ⟨rfl,rfl⟩) rfl ⟨_,_,rfl,pr (negc_cn _ _).symm (negc_cn _ _).symm,bel2 W1b (by omega) ..⟩
 ·have e:sizeR (cn .f32 a,cn .f32 b) = (cn .f32 a,cn .f32 b):=by unfold sizeR;rw [gtk_of h1];rfl
  rw [e]
  go_enter Tryz.func215,Tryz.ntmps215
  go_upto_region 1 with fail
  generalize hW:(w.alloc (.cells #[F1 a,F1 b] 118)).alloc (.cells #[F1 0,F1 0] 118) = W1 at *
  have W1b:Below w.heap.size w W1:=by subst hW;exact (by repeat' (first | exact Below.refl _ _ | exact Nat.le_refl _ | refine below_drewN ?_ _ | refine Below.alloc ?_ (by simp <;> omega) _ | refine Below.setCell ?_ (by simp <;> omega) _ | refine below_step ?_ (by assumption)))
  have hkept:Kept [(⟨w.heap.size,0,none⟩,F1 a),(⟨w.heap.size,1,none⟩,F1 b),(⟨w.heap.size + 1,0,none⟩,F1 0),(⟨w.heap.size + 1,1,none⟩,F1 0)] [⟨w.heap.size + 1,0,none⟩,⟨w.heap.size + 1,1,none⟩] W1:=by
   subst hW;simp only [Kept,ka,kb,kc,kd,ke,kf,kg];(first | (go_simp;done) | (simp [World.cell?,World.frozen?,World.alloc,Array.getElem?_push];done))
  clear hW
  have hK:=hkept;simp only [Kept,ka,kb,kc,kd,ke,kf,kg] at hK
  go_wp2_with fail
  exact bodyPost_ret (v:=RgV a b) (by simp [results,Tryz.results215,go_sem,hK,World.cell?_setCell_other,World.cell?_setCell_same'];first | done | exact ⟨rfl,rfl⟩) rfl ⟨_,_,rfl,rfl,bel2 W1b (by omega) ..⟩

set_option maxRecDepth 100000 in
set_option maxHeartbeats 1000000 in
theorem s_sizer_any (a b:Nat) (w:World) :
  Calls Tryz.prog 194 #[RgV a b] w (RetR (sizeR (cn .f32 a,cn .f32 b)) w):=by
 cases h1:(FloatKind.f32.format.order a 0 == some .gt)
 ·cases h2:(FloatKind.f32.format.order b 0 == some .lt)
  ·have e:sizeR (cn .f32 a,cn .f32 b) = (0,greaterF (negc .f32 (cn .f32 a)) (cn .f32 b)):=by unfold sizeR;rw [gtk_of h1,ltk_of h2];rfl
   rw [e]
   go_enter Tryz.func194,Tryz.ntmps194
   go_upto_region 1 with fail
   generalize hW:(w.alloc (.cells #[F1 a,F1 b] 118)).alloc (.cells #[F1 0,F1 0] 118) = W1 at *
   have W1b:Below w.heap.size w W1:=by subst hW;exact (by repeat' (first | exact Below.refl _ _ | exact Nat.le_refl _ | refine below_drewN ?_ _ | refine Below.alloc ?_ (by simp <;> omega) _ | refine Below.setCell ?_ (by simp <;> omega) _ | refine below_step ?_ (by assumption)))
   have hkept:Kept [(⟨w.heap.size,0,none⟩,F1 a),(⟨w.heap.size,1,none⟩,F1 b),(⟨w.heap.size + 1,0,none⟩,F1 0),(⟨w.heap.size + 1,1,none⟩,F1 0)] [⟨w.heap.size + 1,0,none⟩,⟨w.heap.size + 1,1,none⟩] W1:=by
    subst hW;simp only [Kept,ka,kb,kc,kd,ke,kf,kg];(first | (go_simp;done) | (simp [World.cell?,World.frozen?,World.alloc,Array.getElem?_push];done))
   clear hW
   have hK:=hkept;simp only [Kept,ka,kb,kc,kd,ke,kf,kg] at hK
   go_wp2_with (go_at_call 198;refine (s_greater_any _ _ _).mono ?_;rintro _ w2 ⟨r1,rfl,hr1,hb1⟩;have hkept:=keepT hkept hb1 rfl;clear hK;have hK:=hkept;simp only [Kept,ka,kb,kc,kd,ke,kf,kg] at hK)
   exact bodyPost_ret (v:=RgV 0 r1) (by simp [results,Tryz.results194,go_sem,hK,World.cell?_setCell_other,World.cell?_setCell_same'];first | done | exact ⟨rfl,rfl⟩) rfl ⟨_,_,rfl,pr (cn_zero _) (by rw [hr1,negc_cn]),bel2 (below_step W1b hb1) (by omega) ..⟩
  ·have e:sizeR (cn .f32 a,cn .f32 b) = (negc .f32 (cn .f32 b),negc .f32 (cn .f32 a)):=by unfold sizeR;rw [gtk_of h1,ltk_of h2];rfl
   rw [e]
   go_enter Tryz.func194,Tryz.ntmps194
   go_upto_region 1 with fail
   generalize hW:(w.alloc (.cells #[F1 a,F1 b] 118)).alloc (.cells #[F1 0,F1 0] 118) = W1 at *
   have W1b:Below w.heap.size w W1:=by subst hW;exact (by repeat' (first | exact Below.refl _ _ | exact Nat.le_refl _ | refine below_drewN ?_ _ | refine Below.alloc ?_ (by simp <;> omega) _ | refine Below.setCell ?_ (by simp <;> omega) _ | refine below_step ?_ (by assumption)))
   have hkept:Kept [(⟨w.heap.size,0,none⟩,F1 a),(⟨w.heap.size,1,none⟩,F1 b),(⟨w.heap.size + 1,0,none⟩,F1 0),(⟨w.heap.size + 1,1,none⟩,F1 0)] [⟨w.heap.size + 1,0,none⟩,⟨w.heap.size + 1,1,none⟩] W1:=by
    subst hW;simp only [Kept,ka,kb,kc,kd,ke,kf,kg];(first | (go_simp;done) | (simp [World.cell?,World.frozen?,World.alloc,Array.getElem?_push];done))
   clear hW
   have hK:=hkept;simp only [Kept,ka,kb,kc,kd,ke,kf,kg] at hK
   go_wp2_with fail
   exact bodyPost_ret (v:=RgV _ _) (by simp [results,Tryz.results194,go_sem,hK,World.cell?_setCell_other,World.cell?_setCell_same'];first | done | exact ⟨rfl,rfl⟩) rfl ⟨_,_,rfl,pr (negc_cn _ _).symm (negc_cn _ _).symm,bel2 W1b (by omega) ..⟩
 ·have e:sizeR (cn .f32 a,cn .f32 b) = (cn .f32 a,cn .f32 b):=by unfold sizeR;rw [gtk_of h1];rfl
  rw [e]
  go_enter Tryz.func194,Tryz.ntmps194
  go_upto_region 1 with fail
  generalize hW:(w.alloc (.cells #[F1 a,F1 b] 118)).alloc (.cells #[F1 0,F1 0] 118) = W1 at *
  have W1b:Below w.heap.size w W1:=by subst hW;exact (by repeat' (first | exact Below.refl _ _ | exact Nat.le_refl _ | refine below_drewN ?_ _ | refine Below.alloc ?_ (by simp <;> omega) _ | refine Below.setCell ?_ (by simp <;> omega) _ | refine below_step ?_ (by assumption)))
  have hkept:Kept [(⟨w.heap.size,0,none⟩,F1 a),(⟨w.heap.size,1,none⟩,F1 b),(⟨w.heap.size + 1,0,none⟩,F1 0),(⟨w.heap.size + 1,1,none⟩,F1 0)] [⟨w.heap.size + 1,0,none⟩,⟨w.heap.size + 1,1,none⟩] W1:=by
   subst hW;simp only [Kept,ka,kb,kc,kd,ke,kf,kg];(first | (go_simp;done) | (simp [World.cell?,World.frozen?,World.alloc,Array.getElem?_push];done))
  clear hW
  have hK:=hkept;simp only [Kept,ka,kb,kc,kd,ke,kf,kg] at hK
  go_wp2_with fail
  exact bodyPost_ret (v:=RgV a b) (by simp [results,Tryz.results194,go_sem,hK,World.cell?_setCell_other,World.cell?_setCell_same'];first | done | exact ⟨rfl,rfl⟩) rfl ⟨_,_,rfl,rfl,bel2 W1b (by omega) ..⟩

end Go.Proofs.YtbiacfkiakddiaaGreat
