/-
 Lemmas: V14.
-/
import Derived.Test.YtbiacfkiakddiaaGreatMat
import Derived.Test.YtbiacfkiakddiaaGreatMbj
set_option linter.unusedVariables false
set_option linter.unusedSimpArgs false
namespace Go.Proofs.YtbiacfkiakddiaaGreat
open Go.RowKit Go.Fl
set_option maxRecDepth 100000 in
set_option maxHeartbeats 2000000 in
theorem s_leafr_ball {b o bv ov cap r0 c p x0 x1 y0 y1 z0 z1:Nat} {w:World} (hN:Kept [(⟨b,o,none⟩,.int .i64 0),(⟨b,o + 3,none⟩,.slice (some ⟨bv,ov,none⟩) 1 cap),(⟨bv,ov,none⟩,F1 r0),(⟨c,p,none⟩,F1 x0),(⟨c,p + 1,none⟩,F1 x1),(⟨c,p + 2,none⟩,F1 y0),(⟨c,p + 3,none⟩,F1 y1),(⟨c,p + 4,none⟩,F1 z0),(⟨c,p + 5,none⟩,F1 z1)] [] w) :
  Calls Tryz.prog 123 #[.pointer (some ⟨b,o,none⟩),.pointer (some ⟨c,p,none⟩)] w (RetR (endsR (fun x y z => ballF x y z (cn .f32 r0)) (cn .f32 x0,cn .f32 x1) (cn .f32 y0,cn .f32 y1) (cn .f32 z0,cn .f32 z1)) w):=by
 have hK:=hN
 simp only [Kept,ka,kb,kc,kd,ke,kf,kg] at hK
 have hb:b < w.heap.size:=some_lt (a:=⟨b,o,none⟩) (by rw [hK.1];rfl)
 go_enter Tryz.func123,Tryz.ntmps123
 go_upto_region 1 with fail
 clear hK
 generalize hW:w.alloc (.cells #[F1 0,F1 0] 118) = W1 at *
 have W1b:Below w.heap.size w W1:=by subst hW;exact (by repeat' (first | exact Below.refl _ _ | exact Nat.le_refl _ | refine below_drewN ?_ _ | refine Below.alloc ?_ (by simp <;> omega) _ | refine Below.setCell ?_ (by simp <;> omega) _ | refine below_step ?_ (by assumption)))
 have hkept:Kept [(⟨w.heap.size,0,none⟩,F1 0),(⟨w.heap.size,1,none⟩,F1 0)] [⟨w.heap.size,0,none⟩,⟨w.heap.size,1,none⟩] W1:=by
  subst hW;simp only [Kept,ka,kb,kc,kd,ke,kf,kg];(first | (go_simp;done) | (simp [World.cell?,World.frozen?,World.alloc,Array.getElem?_push];done))
 clear hW
 have hkept:=kept_app (keep hN W1b) hkept
 clear hN
 have hK:=hkept;simp only [Kept,ka,kb,kc,kd,ke,kf,kg] at hK
 have hb1:b < W1.heap.size:=Nat.lt_of_lt_of_le hb W1b.size
 go_upto_region 5 with (go_at_call 194;refine (s_sizer_any _ _ _).mono ?_;rintro _ wA ⟨l1,u1,rfl,e1,hb2⟩;have hb1:=hb2;have hkept:=keepT hkept hb1 rfl;clear hK;have hK:=hkept;simp only [Kept,ka,kb,kc,kd,ke,kf,kg] at hK)
 have hbA:Below wA.heap.size wA (wA.alloc (.cells #[F1 l1,F1 u1] 118)):=(Below.refl _ _).alloc (Nat.le_refl _) _
 have hkept:=kept_app (keep hkept hbA) (show Kept [(⟨wA.heap.size,0,none⟩,F1 l1),(⟨wA.heap.size,1,none⟩,F1 u1)] [] (wA.alloc (.cells #[F1 l1,F1 u1] 118)) by simp only [Kept,ka,kb,kc,kd,ke,kf,kg];simp)
 have V1b:=below_step (below_step W1b hb2) hbA
 generalize wA.alloc (.cells #[F1 l1,F1 u1] 118) = V1 at *
 clear hK hb2 hbA
 have hK:=hkept;simp only [Kept,ka,kb,kc,kd,ke,kf,kg] at hK
 go_upto_region 6 with (go_at_call 194;refine (s_sizer_any _ _ _).mono ?_;rintro _ wA ⟨l2,u2,rfl,e2,hb2⟩;have hb1:=hb2;have hkept:=keepT hkept hb1 rfl;clear hK;have hK:=hkept;simp only [Kept,ka,kb,kc,kd,ke,kf,kg] at hK)
 have hbA:Below wA.heap.size wA (wA.alloc (.cells #[F1 l2,F1 u2] 118)):=(Below.refl _ _).alloc (Nat.le_refl _) _
 have hkept:=kept_app (keep hkept hbA) (show Kept [(⟨wA.heap.size,0,none⟩,F1 l2),(⟨wA.heap.size,1,none⟩,F1 u2)] [] (wA.alloc (.cells #[F1 l2,F1 u2] 118)) by simp only [Kept,ka,kb,kc,kd,ke,kf,kg];simp)
 have V2b:=below_step (below_step V1b hb2) hbA
 generalize wA.alloc (.cells #[F1 l2,F1 u2] 118) = V2 at *
 clear hK hb2 hbA
 have hK:=hkept;simp only [Kept,ka,kb,kc,kd,ke,kf,kg] at hK
 go_upto_region 7 with (go_at_call 194;refine (s_sizer_any _ _ _).mono ?_;rintro _ wA ⟨l3,u3,rfl,e3,hb2⟩;have hb1:=hb2;have hkept:=keepT hkept hb1 rfl;clear hK;have hK:=hkept;simp only [Kept,ka,kb,kc,kd,ke,kf,kg] at hK)
 have hbA:Below wA.heap.size wA (wA.alloc (.cells #[F1 l3,F1 u3] 118)):=(Below.refl _ _).alloc (Nat.le_refl _) _
 have hkept:=kept_app (keep hkept hbA) (show Kept [(⟨wA.heap.size,0,none⟩,F1 l3),(⟨wA.heap.size,1,none⟩,F1 u3)] [] (wA.alloc (.cells #[F1 l3,F1 u3] 118)) by simp only [Kept,ka,kb,kc,kd,ke,kf,kg];simp)
 have V3b:=below_step (below_step V2b hb2) hbA
 generalize wA.alloc (.cells #[F1 l3,F1 u3] 118) = V3 at *
 clear hK hb2 hbA
 have hK:=hkept;simp only [Kept,ka,kb,kc,kd,ke,kf,kg] at hK
 go_upto_region 8 with (go_at_call 196;refine (s_leaf_ball b o bv ov cap r0 _ _ _ _ (by simp only [hK]) (by simp only [hK]) (by simp only [hK])).mono ?_;rintro _ wB ⟨q1,rfl,h1,hb1⟩;have V4b:=below_step V3b hb1;have hkept:=keepT hkept hb1 rfl;clear hK;have hK:=hkept;simp only [Kept,ka,kb,kc,kd,ke,kf,kg] at hK)
 go_wp2_with (go_at_call 196;refine (s_leaf_ball b o bv ov cap r0 _ _ _ _ (by simp only [hK]) (by simp only [hK]) (by simp only [hK])).mono ?_;rintro _ wB ⟨q2,rfl,h2,hb1⟩;have V5b:=below_step V4b hb1;have hkept:=keepT hkept hb1 rfl;clear hK;have hK:=hkept;simp only [Kept,ka,kb,kc,kd,ke,kf,kg] at hK)
 exact bodyPost_ret (v:=RgV q1 q2) (by simp [results,Tryz.results123,go_sem,hK,World.cell?_setCell_other,World.cell?_setCell_same'];first | done | exact ⟨rfl,rfl⟩) rfl ⟨_,_,rfl,by rw [h1,h2];simp only [endsR];rw [← e1,← e2,← e3],bel2 V5b (by omega) ..⟩

set_option maxRecDepth 100000 in
set_option maxHeartbeats 2000000 in
theorem s_leafr_box {b o bv ov cap r0 r1 r2 c p x0 x1 y0 y1 z0 z1:Nat} {w:World} (hN:Kept [(⟨b,o,none⟩,.int .i64 1),(⟨b,o + 3,none⟩,.slice (some ⟨bv,ov,none⟩) 3 cap),(⟨bv,ov,none⟩,F1 r0),(⟨bv,ov + 1,none⟩,F1 r1),(⟨bv,ov + 2,none⟩,F1 r2),(⟨c,p,none⟩,F1 x0),(⟨c,p + 1,none⟩,F1 x1),(⟨c,p + 2,none⟩,F1 y0),(⟨c,p + 3,none⟩,F1 y1),(⟨c,p + 4,none⟩,F1 z0),(⟨c,p + 5,none⟩,F1 z1)] [] w) :
  Calls Tryz.prog 123 #[.pointer (some ⟨b,o,none⟩),.pointer (some ⟨c,p,none⟩)] w (RetR (endsR (fun x y z => boxS x y z (cn .f32 r0) (cn .f32 r1) (cn .f32 r2)) (cn .f32 x0,cn .f32 x1) (cn .f32 y0,cn .f32 y1) (cn .f32 z0,cn .f32 z1)) w):=by
 have hK:=hN
 simp only [Kept,ka,kb,kc,kd,ke,kf,kg] at hK
 have hb:b < w.heap.size:=some_lt (a:=⟨b,o,none⟩) (by rw [hK.1];rfl)
 go_enter Tryz.func123,Tryz.ntmps123
 go_upto_region 1 with fail
 clear hK
 generalize hW:w.alloc (.cells #[F1 0,F1 0] 118) = W1 at *
 have W1b:Below w.heap.size w W1:=by subst hW;exact (by repeat' (first | exact Below.refl _ _ | exact Nat.le_refl _ | refine below_drewN ?_ _ | refine Below.alloc ?_ (by simp <;> omega) _ | refine Below.setCell ?_ (by simp <;> omega) _ | refine below_step ?_ (by assumption)))
 have hkept:Kept [(⟨w.heap.size,0,none⟩,F1 0),(⟨w.heap.size,1,none⟩,F1 0)] [⟨w.heap.size,0,none⟩,⟨w.heap.size,1,none⟩] W1:=by
  subst hW;simp only [Kept,ka,kb,kc,kd,ke,kf,kg];(first | (go_simp;done) | (simp [World.cell?,World.frozen?,World.alloc,Array.getElem?_push];done))
 clear hW
 have hkept:=kept_app (keep hN W1b) hkept
 clear hN
 have hK:=hkept;simp only [Kept,ka,kb,kc,kd,ke,kf,kg] at hK
 have hb1:b < W1.heap.size:=Nat.lt_of_lt_of_le hb W1b.size
 go_upto_region 5 with (go_at_call 194;refine (s_sizer_any _ _ _).mono ?_;rintro _ wA ⟨l1,u1,rfl,e1,hb2⟩;have hb1:=hb2;have hkept:=keepT hkept hb1 rfl;clear hK;have hK:=hkept;simp only [Kept,ka,kb,kc,kd,ke,kf,kg] at hK)
 have hbA:Below wA.heap.size wA (wA.alloc (.cells #[F1 l1,F1 u1] 118)):=(Below.refl _ _).alloc (Nat.le_refl _) _
 have hkept:=kept_app (keep hkept hbA) (show Kept [(⟨wA.heap.size,0,none⟩,F1 l1),(⟨wA.heap.size,1,none⟩,F1 u1)] [] (wA.alloc (.cells #[F1 l1,F1 u1] 118)) by simp only [Kept,ka,kb,kc,kd,ke,kf,kg];simp)
 have V1b:=below_step (below_step W1b hb2) hbA
 generalize wA.alloc (.cells #[F1 l1,F1 u1] 118) = V1 at *
 clear hK hb2 hbA
 have hK:=hkept;simp only [Kept,ka,kb,kc,kd,ke,kf,kg] at hK
 go_upto_region 6 with (go_at_call 194;refine (s_sizer_any _ _ _).mono ?_;rintro _ wA ⟨l2,u2,rfl,e2,hb2⟩;have hb1:=hb2;have hkept:=keepT hkept hb1 rfl;clear hK;have hK:=hkept;simp only [Kept,ka,kb,kc,kd,ke,kf,kg] at hK)
 have hbA:Below wA.heap.size wA (wA.alloc (.cells #[F1 l2,F1 u2] 118)):=(Below.refl _ _).alloc (Nat.le_refl _) _
 have hkept:=kept_app (keep hkept hbA) (show Kept [(⟨wA.heap.size,0,none⟩,F1 l2),(⟨wA.heap.size,1,none⟩,F1 u2)] [] (wA.alloc (.cells #[F1 l2,F1 u2] 118)) by simp only [Kept,ka,kb,kc,kd,ke,kf,kg];simp)
 have V2b:=below_step (below_step V1b hb2) hbA
 generalize wA.alloc (.cells #[F1 l2,F1 u2] 118) = V2 at *
 clear hK hb2 hbA
 have hK:=hkept;simp only [Kept,ka,kb,kc,kd,ke,kf,kg] at hK
 go_upto_region 7 with (go_at_call 194;refine (s_sizer_any _ _ _).mono ?_;rintro _ wA ⟨l3,u3,rfl,e3,hb2⟩;have hb1:=hb2;have hkept:=keepT hkept hb1 rfl;clear hK;have hK:=hkept;simp only [Kept,ka,kb,kc,kd,ke,kf,kg] at hK)
 have hbA:Below wA.heap.size wA (wA.alloc (.cells #[F1 l3,F1 u3] 118)):=(Below.refl _ _).alloc (Nat.le_refl _) _
 have hkept:=kept_app (keep hkept hbA) (show Kept [(⟨wA.heap.size,0,none⟩,F1 l3),(⟨wA.heap.size,1,none⟩,F1 u3)] [] (wA.alloc (.cells #[F1 l3,F1 u3] 118)) by simp only [Kept,ka,kb,kc,kd,ke,kf,kg];simp)
 have V3b:=below_step (below_step V2b hb2) hbA
 generalize wA.alloc (.cells #[F1 l3,F1 u3] 118) = V3 at *
 clear hK hb2 hbA
 have hK:=hkept;simp only [Kept,ka,kb,kc,kd,ke,kf,kg] at hK
 go_upto_region 8 with (go_at_call 196;refine (s_leaf_box b o bv ov cap r0 r1 r2 _ _ _ _ (by simp only [hK]) (by simp only [hK]) (by simp only [hK]) (by simp only [hK]) (by simp only [hK])).mono ?_;rintro _ wB ⟨q1,rfl,h1,hb1⟩;have V4b:=below_step V3b hb1;have hkept:=keepT hkept hb1 rfl;clear hK;have hK:=hkept;simp only [Kept,ka,kb,kc,kd,ke,kf,kg] at hK)
 go_wp2_with (go_at_call 196;refine (s_leaf_box b o bv ov cap r0 r1 r2 _ _ _ _ (by simp only [hK]) (by simp only [hK]) (by simp only [hK]) (by simp only [hK]) (by simp only [hK])).mono ?_;rintro _ wB ⟨q2,rfl,h2,hb1⟩;have V5b:=below_step V4b hb1;have hkept:=keepT hkept hb1 rfl;clear hK;have hK:=hkept;simp only [Kept,ka,kb,kc,kd,ke,kf,kg] at hK)
 exact bodyPost_ret (v:=RgV q1 q2) (by simp [results,Tryz.results123,go_sem,hK,World.cell?_setCell_other,World.cell?_setCell_same'];first | done | exact ⟨rfl,rfl⟩) rfl ⟨_,_,rfl,by rw [h1,h2];simp only [endsR];rw [← e1,← e2,← e3],bel2 V5b (by omega) ..⟩

end Go.Proofs.YtbiacfkiakddiaaGreat
