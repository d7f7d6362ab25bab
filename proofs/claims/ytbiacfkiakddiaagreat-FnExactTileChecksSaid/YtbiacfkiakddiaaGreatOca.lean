/-
 Lemmas: D5,D8,D3.
-/
import Derived.Test.YtbiacfkiakddiaaGreatObm
import Derived.Test.YtbiacfkiakddiaaGreatObt
set_option linter.unusedVariables false
set_option linter.unusedSimpArgs false
namespace Go.Proofs.YtbiacfkiakddiaaGreat
open Go.RowKit Go.Fl
theorem zero_eq (x y z:Nat):zeroV (cv x y z) = ((FloatKind.f32.format.order x 0 == some .eq) && (FloatKind.f32.format.order y 0 == some .eq) && (FloatKind.f32.format.order z 0 == some .eq)):=by
 unfold zeroV cv eqk
 simp only [ord_r0]
theorem ff3 (p q r:Bool):p = false ∨ (p = true ∧ q = false) ∨ (p = true ∧ q = true ∧ r = false) ∨ (p = true ∧ q = true ∧ r = true):=by cases p <;> cases q <;> cases r <;> simp
theorem ff7 (p q r s t u v:Bool):p = false ∨ (p = true ∧ q = false) ∨ (p = true ∧ q = true ∧ r = false) ∨ (p = true ∧ q = true ∧ r = true ∧ s = false) ∨ (p = true ∧ q = true ∧ r = true ∧ s = true ∧ t = false) ∨ (p = true ∧ q = true ∧ r = true ∧ s = true ∧ t = true ∧ u = false) ∨ (p = true ∧ q = true ∧ r = true ∧ s = true ∧ t = true ∧ u = true ∧ v = false) ∨ (p = true ∧ q = true ∧ r = true ∧ s = true ∧ t = true ∧ u = true ∧ v = true):=by cases p <;> cases q <;> cases r <;> cases s <;> cases t <;> cases u <;> cases v <;> simp

set_option maxRecDepth 100000 in
set_option maxHeartbeats 1000000 in
theorem iszero_any (x y z:Nat) (w:World) :
  Calls Tryz.prog 244 #[V3 x y z] w (fun e w' => e = .returned (.bool (zeroV (cv x y z))) ∧ Below w.heap.size w w'):=by
 obtain ⟨U,hU⟩:∃ U,Hid (zeroV (cv x y z) = U):=⟨_,rfl⟩
 rw [hU.out]
 have hUo:=hU.out
 rw [zero_eq] at hUo
 clear hU
 rcases ff3 (FloatKind.f32.format.order x 0 == some .eq) (FloatKind.f32.format.order y 0 == some .eq) (FloatKind.f32.format.order z 0 == some .eq) with h1 | ⟨h1,h2⟩ | ⟨h1,h2,h3⟩ | ⟨h1,h2,h3⟩
 all_goals
  simp only [*,Bool.and_true,Bool.and_false,Bool.false_and,Bool.true_and] at hUo
  subst hUo
  go_enter Tryz.func244,Tryz.ntmps244
  go_wp2_with fail
  generalize hW:w.alloc (.cells #[F1 x,F1 y,F1 z] 38) = W1 at *
  have W1b:Below w.heap.size w W1:=by subst hW;exact (by repeat' (first | exact Below.refl _ _ | exact Nat.le_refl _ | refine below_drewN ?_ _ | refine Below.alloc ?_ (by simp <;> omega) _ | refine Below.setCell ?_ (by simp <;> omega) _ | refine below_step ?_ (by assumption)))
  have hkept:Kept [(⟨w.heap.size,0,none⟩,F1 x),(⟨w.heap.size,1,none⟩,F1 y),(⟨w.heap.size,2,none⟩,F1 z)] [] W1:=by
   subst hW;simp only [Kept,ka,kb,kc,kd,ke,kfa,kga];(first | (go_simp;done) | (simp [World.cell?,World.frozen?,World.alloc,Array.getElem?_push];done))
  clear hW
  have hK:=hkept;simp only [Kept,ka,kb,kc,kd,ke,kfa,kga] at hK
  go_wp2_with fail
  go_ret
  exact ⟨rfl,(by repeat' (first | exact Below.refl _ _ | exact Nat.le_refl _ | refine Below.drew ?_ | refine below_drewN ?_ _ | refine Below.alloc ?_ (by simp <;> omega) _ | refine Below.setCell ?_ (by simp <;> omega) _ | refine below_step ?_ (by assumption)))⟩

/-- A right camera. -/
def camOk (f t:Nat × Nat × Nat) (wd:Nat) (nx ny:Int):Bool:=(decide (1 ≤ nx) && decide (nx ≤ 12)) && (decide (1 ≤ ny) && decide (ny ≤ 12)) && rightP wd && vfin f && vfin t && !zeroV (rightV f t) && !zeroV (fwdV f t)
abbrev CamV (a b c d e f wd:Nat) (nx ny:Int):Value:=.agg #[F1 a,F1 b,F1 c,F1 d,F1 e,F1 f,F1 wd,.int .i64 nx,.int .i64 ny]

set_option maxRecDepth 100000 in
set_option maxHeartbeats 4000000 in
theorem cam_any (a b c d e f wd:Nat) (nx ny:Int) (w:World) :
  Calls Tryz.prog 170 #[CamV a b c d e f wd nx ny] w (fun e' w' => e' = .returned (.bool (camOk (cv a b c) (cv d e f) (cn .f32 wd) nx ny)) ∧ Below w.heap.size w w'):=by
 obtain ⟨U,hU⟩:∃ U,Hid (camOk (cv a b c) (cv d e f) (cn .f32 wd) nx ny = U):=⟨_,rfl⟩
 rw [hU.out]
 have hUo:=hU.out
 unfold camOk at hUo
 clear hU
 have hax:∀ cb w',CamIn a b c d e f wd nx ny cb 0 w' → Calls Tryz.prog 243 #[.pointer (some ⟨cb,0,none⟩)] w' (RetAx (axesV (cv a b c) (cv d e f)) w'):=fun cb w' h => axes_any a b c d e f wd nx ny cb 0 w' h
 have hst:∀ w',Calls Tryz.prog 89 #[F1 wd] w' (fun e' w'' => e' = .returned (.bool (rightP (cn .f32 wd))) ∧ Below w'.heap.size w' w''):=fun w' => step_any wd w'
 have hf1:∀ w',Calls Tryz.prog 132 #[V3 a b c] w' (fun e' w'' => e' = .returned (.bool (vfin (cv a b c))) ∧ Below w'.heap.size w' w''):=fun w' => vfin_any a b c w'
 have hf2:∀ w',Calls Tryz.prog 132 #[V3 d e f] w' (fun e' w'' => e' = .returned (.bool (vfin (cv d e f))) ∧ Below w'.heap.size w' w''):=fun w' => vfin_any d e f w'
 generalize hrv:rightV (cv a b c) (cv d e f) = rv at hUo
 generalize hfv:fwdV (cv a b c) (cv d e f) = fv at hUo
 generalize rightP (cn .f32 wd) = p3 at *
 generalize vfin (cv a b c) = p4 at *
 generalize vfin (cv d e f) = p5 at *
 have hrz:∀ x y z w',cv x y z = rv → Calls Tryz.prog 244 #[V3 x y z] w' (fun e' w'' => e' = .returned (.bool (zeroV rv)) ∧ Below w'.heap.size w' w''):=fun x y z w' h => by rw [← h];exact iszero_any x y z w'
 have hfz:∀ x y z w',cv x y z = fv → Calls Tryz.prog 244 #[V3 x y z] w' (fun e' w'' => e' = .returned (.bool (zeroV fv)) ∧ Below w'.heap.size w' w''):=fun x y z w' h => by rw [← h];exact iszero_any x y z w'
 have hrv2:=Lib.hid hrv
 have hfv2:=Lib.hid hfv
 generalize zeroV rv = q6 at *
 generalize zeroV fv = q7 at *
 clear hrv hfv
 go_enter Tryz.func170,Tryz.ntmps170
 go_upto_region 1 with fail
 generalize hW:w.alloc (.cells #[F1 a,F1 b,F1 c,F1 d,F1 e,F1 f,F1 wd,.int .i64 nx,.int .i64 ny] 83) = W1 at *
 have W1b:Below w.heap.size w W1:=by subst hW;exact (by repeat' (first | exact Below.refl _ _ | exact Nat.le_refl _ | refine below_drewN ?_ _ | refine Below.alloc ?_ (by simp <;> omega) _ | refine Below.setCell ?_ (by simp <;> omega) _ | refine below_step ?_ (by assumption)))
 have hkept:Kept [(⟨w.heap.size,0,none⟩,F1 a),(⟨w.heap.size,1,none⟩,F1 b),(⟨w.heap.size,2,none⟩,F1 c),(⟨w.heap.size,3,none⟩,F1 d),(⟨w.heap.size,4,none⟩,F1 e),(⟨w.heap.size,5,none⟩,F1 f),(⟨w.heap.size,6,none⟩,F1 wd),(⟨w.heap.size,7,none⟩,.int .i64 nx),(⟨w.heap.size,8,none⟩,.int .i64 ny)] [] W1:=by
  subst hW;simp only [Kept,ka,kb,kc,kd,ke,kfa,kga];(first | (go_simp;done) | (simp [World.cell?,World.frozen?,World.alloc,Array.getElem?_push];done))
 clear hW
 have hK:=hkept;simp only [Kept,ka,kb,kc,kd,ke,kfa,kga] at hK
 have hc:CamIn a b c d e f wd nx ny w.heap.size 0 W1:=⟨by simp only [Kept,ka,kb,kc,kd,ke,kfa,kga];simp [hK]⟩
 clear hK
 go_upto_region 2 with (go_at_call 243;refine (hax _ _ hc).mono ?_;rintro _ w2 ⟨a1,b1,c1,a2,b2,c2,a3,b3,c3,rfl,e1,e2,e3,hb1⟩;have W1b:=below_step W1b hb1;have hkept:=keepT hkept hb1 rfl)
 rw [ax1] at e1
 rw [ax3] at e3
 clear e2 hax hc
 have hb2:Below w2.heap.size w2 (((w2.alloc (.cells #[F1 a1,F1 b1,F1 c1] 38)).alloc (.cells #[F1 a2,F1 b2,F1 c2] 38)).alloc (.cells #[F1 a3,F1 b3,F1 c3] 38)):=(by repeat' (first | exact Below.refl _ _ | exact Nat.le_refl _ | refine below_drewN ?_ _ | refine Below.alloc ?_ (by simp <;> omega) _ | refine Below.setCell ?_ (by simp <;> omega) _ | refine below_step ?_ (by assumption)))
 have hkept:=kept_app (keep hkept hb2) (show Kept [(⟨w2.heap.size,0,none⟩,F1 a1),(⟨w2.heap.size,1,none⟩,F1 b1),(⟨w2.heap.size,2,none⟩,F1 c1),(⟨w2.heap.size + 1 + 1,0,none⟩,F1 a3),(⟨w2.heap.size + 1 + 1,1,none⟩,F1 b3),(⟨w2.heap.size + 1 + 1,2,none⟩,F1 c3)] [] (((w2.alloc (.cells #[F1 a1,F1 b1,F1 c1] 38)).alloc (.cells #[F1 a2,F1 b2,F1 c2] 38)).alloc (.cells #[F1 a3,F1 b3,F1 c3] 38)) by simp only [Kept,ka,kb,kc,kd,ke,kfa,kga];(first | (go_simp;done) | (simp [World.cell?,World.frozen?,World.alloc,Array.getElem?_push];done)))
 have W1b:=below_step W1b hb2
 generalize ((w2.alloc (.cells #[F1 a1,F1 b1,F1 c1] 38)).alloc (.cells #[F1 a2,F1 b2,F1 c2] 38)).alloc (.cells #[F1 a3,F1 b3,F1 c3] 38) = w3 at *
 clear hb2
 have hr:=fun w' => hrz a1 b1 c1 w' (e1.trans hrv2.out)
 have hf:=fun w' => hfz a3 b3 c3 w' (e3.trans hfv2.out)
 clear hrz hfz hrv2 hfv2 e1 e3
 have hK:=hkept;simp only [Kept,ka,kb,kc,kd,ke,kfa,kga] at hK
 rcases ff7 (decide (1 ≤ nx) && decide (nx ≤ 12)) (decide (1 ≤ ny) && decide (ny ≤ 12)) p3 p4 p5 (!q6) (!q7) with h1 | ⟨h1,h2⟩ | ⟨h1,h2,h3⟩ | ⟨h1,h2,h3,h4⟩ | ⟨h1,h2,h3,h4,h5⟩ | ⟨h1,h2,h3,h4,h5,h6⟩ | ⟨h1,h2,h3,h4,h5,h6,h7⟩ | ⟨h1,h2,h3,h4,h5,h6,h7⟩
 all_goals
  (try rw [h1] at hUo);(try rw [h2] at hUo);(try rw [h3] at hUo);(try rw [h4] at hUo);(try rw [h5] at hUo);(try rw [h6] at hUo);(try rw [h7] at hUo)
  simp only [Bool.and_true,Bool.and_false,Bool.false_and,Bool.true_and] at hUo
  subst hUo
  have t1:True:=trivial
  have t2:True:=trivial
  have t3:True:=trivial
  have t4:True:=trivial
  have t5:True:=trivial
  have t6:True:=trivial
  have t7:True:=trivial
  go_wp2_with (first
   | (clear t1;go_at_call 74;refine (in_any _ _ _ _).mono ?_;rintro _ w4 ⟨rfl,rfl⟩;rw [h1])
   | (clear t2;go_at_call 74;refine (in_any _ _ _ _).mono ?_;rintro _ w4 ⟨rfl,rfl⟩;rw [h2])
   | (clear t3;go_at_call 89;refine (hst _).mono ?_;rintro _ w4 ⟨rfl,hb1⟩;have W1b:=below_step W1b hb1;have hkept:=keepT hkept hb1 rfl;clear hK;have hK:=hkept;simp only [Kept,ka,kb,kc,kd,ke,kfa,kga] at hK;rw [h3])
   | (clear t4;go_at_call 132;refine (hf1 _).mono ?_;rintro _ w4 ⟨rfl,hb1⟩;have W1b:=below_step W1b hb1;have hkept:=keepT hkept hb1 rfl;clear hK;have hK:=hkept;simp only [Kept,ka,kb,kc,kd,ke,kfa,kga] at hK;rw [h4])
   | (clear t5;go_at_call 132;refine (hf2 _).mono ?_;rintro _ w4 ⟨rfl,hb1⟩;have W1b:=below_step W1b hb1;have hkept:=keepT hkept hb1 rfl;clear hK;have hK:=hkept;simp only [Kept,ka,kb,kc,kd,ke,kfa,kga] at hK;rw [h5])
   | (clear t6;go_at_call 244;refine (hr _).mono ?_;rintro _ w4 ⟨rfl,hb1⟩;have W1b:=below_step W1b hb1;have hkept:=keepT hkept hb1 rfl;clear hK;have hK:=hkept;simp only [Kept,ka,kb,kc,kd,ke,kfa,kga] at hK)
   | (clear t7;go_at_call 244;refine (hf _).mono ?_;rintro _ w4 ⟨rfl,hb1⟩;have W1b:=below_step W1b hb1;have hkept:=keepT hkept hb1 rfl;clear hK;have hK:=hkept;simp only [Kept,ka,kb,kc,kd,ke,kfa,kga] at hK))
  go_ret
  exact ⟨rfl,W1b⟩
end Go.Proofs.YtbiacfkiakddiaaGreat

namespace Go.Proofs.YtbiacfkiakddiaaGreat
open Go.RowKit Go.Fl
set_option maxRecDepth 100000 in
set_option maxHeartbeats 1000000 in
theorem s_some_any (x y z:Nat) (w:World) :
  Calls Tryz.prog 239 #[V3 x y z] w (fun e w' => e = .returned (.bool (wayF (cv x y z))) ∧ Below w.heap.size w w'):=by
 obtain ⟨U,hU⟩:∃ U,Hid (wayF (cv x y z) = U):=⟨_,rfl⟩
 rw [hU.out]
 have hUo:=hU.out
 unfold cv at hUo
 rw [way_eq] at hUo
 clear hU
 rcases way7 true (FloatKind.f32.format.order x x == some .eq) (FloatKind.f32.format.order y y == some .eq) (FloatKind.f32.format.order z z == some .eq) (FloatKind.f32.format.order x 0 != some .eq) (FloatKind.f32.format.order y 0 != some .eq) (FloatKind.f32.format.order z 0 != some .eq) with h1 | ⟨h1,h2⟩ | ⟨h1,h2,h3⟩ | ⟨h1,h2,h3,h4⟩ | ⟨h1,h2,h3,h4,h5⟩ | ⟨h1,h2,h3,h4,h5,h6⟩ | ⟨h1,h2,h3,h4,h5,h6,h7⟩ | ⟨h1,h2,h3,h4,h5,h6,h7⟩
 ·cases h1
 all_goals
  clear h1
  simp only [*,Bool.and_true,Bool.and_false,Bool.false_and,Bool.true_and,Bool.or_true,Bool.true_or,Bool.or_false,Bool.false_or] at hUo
  subst hUo
  go_enter Tryz.func239,Tryz.ntmps239
  go_wp2_with fail
  generalize hW:w.alloc (.cells #[F1 x,F1 y,F1 z] 38) = W1 at *
  have W1b:Below w.heap.size w W1:=by subst hW;exact (by repeat' (first | exact Below.refl _ _ | exact Nat.le_refl _ | refine below_drewN ?_ _ | refine Below.alloc ?_ (by simp <;> omega) _ | refine Below.setCell ?_ (by simp <;> omega) _ | refine below_step ?_ (by assumption)))
  have hkept:Kept [(⟨w.heap.size,0,none⟩,F1 x),(⟨w.heap.size,1,none⟩,F1 y),(⟨w.heap.size,2,none⟩,F1 z)] [] W1:=by
   subst hW;simp only [Kept,ka,kb,kc,kd,ke,kfa,kga];(first | (go_simp;done) | (simp [World.cell?,World.frozen?,World.alloc,Array.getElem?_push];done))
  clear hW
  have hK:=hkept;simp only [Kept,ka,kb,kc,kd,ke,kfa,kga] at hK
  go_wp2_with fail
  go_ret
  exact ⟨rfl,(by repeat' (first | exact Below.refl _ _ | exact Nat.le_refl _ | refine Below.drew ?_ | refine below_drewN ?_ _ | refine Below.alloc ?_ (by simp <;> omega) _ | refine Below.setCell ?_ (by simp <;> omega) _ | refine below_step ?_ (by assumption)))⟩

theorem ff5 (p q r s t:Bool):p = false ∨ (p = true ∧ q = false) ∨ (p = true ∧ q = true ∧ r = false) ∨ (p = true ∧ q = true ∧ r = true ∧ s = false) ∨ (p = true ∧ q = true ∧ r = true ∧ s = true ∧ t = false) ∨ (p = true ∧ q = true ∧ r = true ∧ s = true ∧ t = true):=by cases p <;> cases q <;> cases r <;> cases s <;> cases t <;> simp
theorem camOk_s (f t:Nat × Nat × Nat) (wd:Nat) (nx ny:Int):camOk f t wd nx ny = ((decide (1 ≤ nx) && decide (nx ≤ 12)) && (decide (1 ≤ ny) && decide (ny ≤ 12)) && rightP wd && vfin f && vfin t && wayF (fwdV f t) && wayF (rightV f t)):=by
 rw [show wayF (fwdV f t) = !zeroV (fwdV f t) from unit_way _,show wayF (rightV f t) = !zeroV (rightV f t) from unit_way _,Bool.and_right_comm]
 rfl

set_option maxRecDepth 100000 in
set_option maxHeartbeats 4000000 in
theorem s_cam_any (a b c d e f wd:Nat) (nx ny:Int) (cb c0:Nat) (w:World) (hc:CamIn a b c d e f wd nx ny cb c0 w) :
  Calls Tryz.prog 159 #[.pointer (some ⟨cb,c0,none⟩)] w (fun e' w' => e' = .returned (.bool (camOk (cv a b c) (cv d e f) (cn .f32 wd) nx ny)) ∧ Below w.heap.size w w'):=by
 obtain ⟨U,hU⟩:∃ U,Hid (camOk (cv a b c) (cv d e f) (cn .f32 wd) nx ny = U):=⟨_,rfl⟩
 rw [hU.out]
 have hUo:=hU.out
 rw [camOk_s] at hUo
 clear hU
 have hax:∀ w',Below w.heap.size w w' → Calls Tryz.prog 238 #[.pointer (some ⟨cb,c0,none⟩)] w' (RetAx (axesV (cv a b c) (cv d e f)) w'):=fun w' hb => s_axes_any a b c d e f wd nx ny cb c0 w' (hc.keep hb)
 have hst:∀ w',Calls Tryz.prog 87 #[F1 wd] w' (fun e' w'' => e' = .returned (.bool (rightP (cn .f32 wd))) ∧ Below w'.heap.size w' w''):=fun w' => s_step_any wd w'
 have hf1:∀ w',Calls Tryz.prog 121 #[V3 a b c] w' (fun e' w'' => e' = .returned (.bool (vfin (cv a b c))) ∧ Below w'.heap.size w' w''):=fun w' => s_vfin_any a b c w'
 have hf2:∀ w',Calls Tryz.prog 121 #[V3 d e f] w' (fun e' w'' => e' = .returned (.bool (vfin (cv d e f))) ∧ Below w'.heap.size w' w''):=fun w' => s_vfin_any d e f w'
 generalize hrv:rightV (cv a b c) (cv d e f) = rv at hUo
 generalize hfv:fwdV (cv a b c) (cv d e f) = fv at hUo
 generalize rightP (cn .f32 wd) = p3 at *
 generalize vfin (cv a b c) = p4 at *
 generalize vfin (cv d e f) = p5 at *
 have hrz:∀ x y z w',cv x y z = rv → Calls Tryz.prog 239 #[V3 x y z] w' (fun e' w'' => e' = .returned (.bool (wayF rv)) ∧ Below w'.heap.size w' w''):=fun x y z w' h => by rw [← h];exact s_some_any x y z w'
 have hfz:∀ x y z w',cv x y z = fv → Calls Tryz.prog 239 #[V3 x y z] w' (fun e' w'' => e' = .returned (.bool (wayF fv)) ∧ Below w'.heap.size w' w''):=fun x y z w' h => by rw [← h];exact s_some_any x y z w'
 have hrv2:=Lib.hid hrv
 have hfv2:=Lib.hid hfv
 generalize wayF rv = q7 at *
 generalize wayF fv = q6 at *
 clear hrv hfv
 have hkept:=hc.kept
 clear hc
 have hK:=hkept;simp only [Kept,ka,kb,kc,kd,ke,kfa,kga] at hK
 have W1b:=Below.refl w.heap.size w
 have t1:True:=trivial
 have t2:True:=trivial
 have t3:True:=trivial
 have t4:True:=trivial
 rcases ff5 (decide (1 ≤ nx) && decide (nx ≤ 12)) (decide (1 ≤ ny) && decide (ny ≤ 12)) p3 p4 p5 with h1 | ⟨h1,h2⟩ | ⟨h1,h2,h3⟩ | ⟨h1,h2,h3,h4⟩ | ⟨h1,h2,h3,h4,h5⟩ | ⟨h1,h2,h3,h4,h5⟩
 case' inr.inr.inr.inr.inr =>
  rw [h1,h2,h3,h4,h5] at hUo
  simp only [Bool.and_true,Bool.and_false,Bool.false_and,Bool.true_and] at hUo
  go_enter Tryz.func159,Tryz.ntmps159
  go_upto_region 3 with (first
   | (clear t1;go_at_call 71;refine (s_in_any _ _ _ _).mono ?_;rintro _ w4 ⟨rfl,rfl⟩;rw [h1])
   | (clear t2;go_at_call 71;refine (s_in_any _ _ _ _).mono ?_;rintro _ w4 ⟨rfl,rfl⟩;rw [h2])
   | (clear t3;go_at_call 87;refine (hst _).mono ?_;rintro _ w4 ⟨rfl,hb1⟩;have W1b:=below_step W1b hb1;have hkept:=keepT hkept hb1 rfl;clear hK;have hK:=hkept;simp only [Kept,ka,kb,kc,kd,ke,kfa,kga] at hK;rw [h3])
   | (clear t4;go_at_call 121;refine (hf1 _).mono ?_;rintro _ w4 ⟨rfl,hb1⟩;have W1b:=below_step W1b hb1;have hkept:=keepT hkept hb1 rfl;clear hK;have hK:=hkept;simp only [Kept,ka,kb,kc,kd,ke,kfa,kga] at hK;rw [h4])
   | (go_at_call 121;refine (hf2 _).mono ?_;rintro _ w5 ⟨rfl,hb1⟩;have W1b:=below_step W1b hb1;have hkept:=keepT hkept hb1 rfl;clear hK;have hK:=hkept;simp only [Kept,ka,kb,kc,kd,ke,kfa,kga] at hK;rw [h5]))
  go_upto_region 4 with (go_at_call 238;refine (hax _ W1b).mono ?_;rintro _ w6 ⟨a1,b1,c1,a2,b2,c2,a3,b3,c3,rfl,e1,e2,e3,hb1⟩;have W1b:=below_step W1b hb1)
  rw [ax1] at e1
  rw [ax3] at e3
  have hr:=fun w' => hrz a1 b1 c1 w' (e1.trans hrv2.out)
  have hf:=fun w' => hfz a3 b3 c3 w' (e3.trans hfv2.out)
  clear hK hkept hb1 e1 e2 e3 hrz hfz hax hst hf1 hf2
  have hb2:Below w6.heap.size w6 (((w6.alloc (.cells #[F1 a1,F1 b1,F1 c1] 38)).alloc (.cells #[F1 a2,F1 b2,F1 c2] 38)).alloc (.cells #[F1 a3,F1 b3,F1 c3] 38)):=(by repeat' (first | exact Below.refl _ _ | exact Nat.le_refl _ | refine below_drewN ?_ _ | refine Below.alloc ?_ (by simp <;> omega) _ | refine Below.setCell ?_ (by simp <;> omega) _ | refine below_step ?_ (by assumption)))
  have hkept:Kept [(⟨w6.heap.size,0,none⟩,F1 a1),(⟨w6.heap.size,1,none⟩,F1 b1),(⟨w6.heap.size,2,none⟩,F1 c1),(⟨w6.heap.size + 1 + 1,0,none⟩,F1 a3),(⟨w6.heap.size + 1 + 1,1,none⟩,F1 b3),(⟨w6.heap.size + 1 + 1,2,none⟩,F1 c3)] [] (((w6.alloc (.cells #[F1 a1,F1 b1,F1 c1] 38)).alloc (.cells #[F1 a2,F1 b2,F1 c2] 38)).alloc (.cells #[F1 a3,F1 b3,F1 c3] 38)):=by simp only [Kept,ka,kb,kc,kd,ke,kfa,kga];(first | (go_simp;done) | (simp [World.cell?,World.frozen?,World.alloc,Array.getElem?_push];done))
  have W1b:=below_step W1b hb2
  generalize (((w6.alloc (.cells #[F1 a1,F1 b1,F1 c1] 38)).alloc (.cells #[F1 a2,F1 b2,F1 c2] 38)).alloc (.cells #[F1 a3,F1 b3,F1 c3] 38)) = w7 at *
  clear hb2
  have hK:=hkept;simp only [Kept,ka,kb,kc,kd,ke,kfa,kga] at hK
  cases q6 <;> cases q7
  all_goals
   simp only [Bool.and_true,Bool.and_false,Bool.false_and,Bool.true_and] at hUo
   subst hUo
   have t1:True:=trivial
   go_wp2_with (first
    | (clear t1;go_at_call 239;refine (hf _).mono ?_;rintro _ w5 ⟨rfl,hb1⟩;have W1b:=below_step W1b hb1;have hkept:=keepT hkept hb1 rfl;clear hK;have hK:=hkept;simp only [Kept,ka,kb,kc,kd,ke,kfa,kga] at hK)
    | (go_at_call 239;refine (hr _).mono ?_;rintro _ w6 ⟨rfl,hb1⟩;have W1b:=below_step W1b hb1))
   go_ret
   exact ⟨rfl,W1b⟩
 all_goals
  (try rw [h1] at hUo);(try rw [h2] at hUo);(try rw [h3] at hUo);(try rw [h4] at hUo);(try rw [h5] at hUo)
  simp only [Bool.and_true,Bool.and_false,Bool.false_and,Bool.true_and] at hUo
  subst hUo
  go_enter Tryz.func159,Tryz.ntmps159
  go_wp2_with (first
   | (clear t1;go_at_call 71;refine (s_in_any _ _ _ _).mono ?_;rintro _ w4 ⟨rfl,rfl⟩;rw [h1])
   | (clear t2;go_at_call 71;refine (s_in_any _ _ _ _).mono ?_;rintro _ w4 ⟨rfl,rfl⟩;rw [h2])
   | (clear t3;go_at_call 87;refine (hst _).mono ?_;rintro _ w4 ⟨rfl,hb1⟩;have W1b:=below_step W1b hb1;have hkept:=keepT hkept hb1 rfl;clear hK;have hK:=hkept;simp only [Kept,ka,kb,kc,kd,ke,kfa,kga] at hK;rw [h3])
   | (clear t4;go_at_call 121;refine (hf1 _).mono ?_;rintro _ w4 ⟨rfl,hb1⟩;have W1b:=below_step W1b hb1;have hkept:=keepT hkept hb1 rfl;clear hK;have hK:=hkept;simp only [Kept,ka,kb,kc,kd,ke,kfa,kga] at hK;rw [h4])
   | (go_at_call 121;refine (hf2 _).mono ?_;rintro _ w5 ⟨rfl,hb1⟩;have W1b:=below_step W1b hb1;have hkept:=keepT hkept hb1 rfl;clear hK;have hK:=hkept;simp only [Kept,ka,kb,kc,kd,ke,kfa,kga] at hK;rw [h5]))
  go_ret
  exact ⟨rfl,W1b⟩
end Go.Proofs.YtbiacfkiakddiaaGreat

namespace Go.Proofs.YtbiacfkiakddiaaGreat
open Go.RowKit Go.Fl
inductive PhiNo (ns:List PN) (fa fl ft:FuncId):FuncId → Array Value → Value → Prop
 | add (x y z x' y' z' a b c:Nat) (h:cv a b c = addV (cv x y z) (cv x' y' z')):PhiNo ns fa fl ft fa #[V3 x y z,V3 x' y' z'] (V3 a b c)
 | less (x y z x' y' z' a b c:Nat) (h:cv a b c = lessV (cv x y z) (cv x' y' z')):PhiNo ns fa fl ft fl #[V3 x y z,V3 x' y' z'] (V3 a b c)
 | at_ (sa:Addr) (x y z r:Nat) (h:cn .f32 r = topF ns (cv x y z)):PhiNo ns fa fl ft ft #[.pointer (some sa),V3 x y z] (F1 r)

set_option maxRecDepth 100000 in
set_option maxHeartbeats 4000000 in
theorem norm1_any (ns:List PN) (hok:OkAll ns) (hl:1 ≤ ns.length ∧ ns.length ≤ 16) (sb so nb no cap px py pz x y z cb co pb po:Nat) (w:World) (hsh:ShapeIn ns sb so nb no cap w)
  (hN:Kept [(⟨cb,co,none⟩,.pointer (some ⟨sb,so,none⟩)),(⟨pb,po,none⟩,F1 px),(⟨pb,po + 1,none⟩,F1 py),(⟨pb,po + 2,none⟩,F1 pz)] [] w) :
  Calls Tryz.prog 249 #[V3 x y z,.pointer (some ⟨cb,co,none⟩),.pointer (some ⟨pb,po,none⟩)] w
   (Ret .f32 (B .sub (topF ns (addV (cv px py pz) (cv x y z))) (topF ns (lessV (cv px py pz) (cv x y z)))) w):=by
 have hat:∀ (x y z:Nat) (w:World),ShapeIn ns sb so nb no cap w → Calls Tryz.prog 85 #[.pointer (some ⟨sb,so,none⟩),V3 x y z] w (Ret .f32 (topF ns (cv x y z)) w):=fun x y z w h => at_any ns hok ⟨hl.1,by omega⟩ sb so nb no cap x y z w h
 go_enter Tryz.func249,Tryz.ntmps249
 go_upto_region 1 with fail
 generalize hW:w.alloc (.cells #[F1 x,F1 y,F1 z] 38) = W1 at *
 have W1b:Below w.heap.size w W1:=by subst hW;exact (by repeat' (first | exact Below.refl _ _ | exact Nat.le_refl _ | refine below_drewN ?_ _ | refine Below.alloc ?_ (by simp <;> omega) _ | refine Below.setCell ?_ (by simp <;> omega) _ | refine below_step ?_ (by assumption)))
 have hkept:Kept [(⟨w.heap.size,0,none⟩,F1 x),(⟨w.heap.size,1,none⟩,F1 y),(⟨w.heap.size,2,none⟩,F1 z)] [] W1:=by
  subst hW;simp only [Kept,ka,kb,kc,kd,ke,kfa,kga];(first | (go_simp;done) | (simp [World.cell?,World.frozen?,World.alloc,Array.getElem?_push];done))
 clear hW
 have hkept:=kept_app (keep hN W1b) hkept
 have hsh1:=hsh.keep W1b
 clear hN hsh hok
 refine Qr.wp_below_all (by kernel_rfl) (by kernel_rfl) (PhiNo ns 232 178 85) ?_
 repeat (first
  | (refine Qr.walk_plain rfl fun K hK => ?_;refine one_bin _ _ _ _ _ rfl _ _ _ rfl rfl rfl (fun r hr => ?_);go_simp;refine hK _ ?_;clear hK K)
  | (refine Qr.walk_plain rfl fun K hK => ?_;apply Qr.one_det;(focus (intro w' hw';have HK:=keep hkept hw';simp only [Kept,ka,kb,kc,kd,ke,kfa,kga] at HK;go_simp;first | done | rfl));go_simp;refine hK _ ?_;clear hK K)
  | (refine Qr.walk_plain rfl fun K hK => ?_;apply Qr.one_call;(focus (intro w' hw';go_simp;first | done | exact ⟨rfl,rfl⟩));(focus (intro w' hw'; go_at_call 232;refine (add_any _ _ _ _ _ _ _).mono ?_;rintro _ w3 ⟨r1,r2,r3,rfl,hr1,hr2,hr3,hb1⟩;exact ⟨_,rfl,.add _ _ _ _ _ _ _ _ _ (v3_mk hr1 hr2 hr3),below_step hw' (by assumption),by assumption⟩));intro v hv;cases hv;go_simp;refine hK _ ?_;clear hK K)
  | (refine Qr.walk_plain rfl fun K hK => ?_;apply Qr.one_call;(focus (intro w' hw';go_simp;first | done | exact ⟨rfl,rfl⟩));(focus (intro w' hw'; go_at_call 178;refine (less_any _ _ _ _ _ _ _).mono ?_;rintro _ w3 ⟨r1,r2,r3,rfl,hr1,hr2,hr3,hb1⟩;exact ⟨_,rfl,.less _ _ _ _ _ _ _ _ _ (v3_mk hr1 hr2 hr3),below_step hw' (by assumption),by assumption⟩));intro v hv;cases hv;go_simp;refine hK _ ?_;clear hK K)
  | (refine Qr.walk_plain rfl fun K hK => ?_;apply Qr.one_call;(focus (intro w' hw';go_simp;first | done | exact ⟨rfl,rfl⟩));(focus (intro w' hw'; go_at_call 85;refine (hat _ _ _ _ (hsh1.keep hw')).mono ?_;rintro _ w3 ⟨r1,rfl,hr1,hb1⟩ ;exact ⟨_,rfl,by constructor <;> assumption,below_step hw' (by assumption),by assumption⟩));intro v hv;cases hv;go_simp;refine hK _ ?_;clear hK K))
 rename_i a1 b1 c1 g1 d1 e1 a2 b2 c2 g2 d2 e2
 refine Qr.walk_nil fun w5 hw5 => ?_
 have hfin:cn .f32 r = B .sub (topF ns (addV (cv px py pz) (cv x y z))) (topF ns (lessV (cv px py pz) (cv x y z))):=by rw [hr,e1,e2,g1,g2]
 clear hr g1 e1 g2 e2
 go_wp2_with fail
 go_ret
 exact ⟨_,rfl,hfin,below_step W1b hw5⟩

set_option maxRecDepth 100000 in
set_option maxHeartbeats 4000000 in
theorem normal_any (ns:List PN) (hok:OkAll ns) (hl:1 ≤ ns.length ∧ ns.length ≤ 16) (sb so nb no cap x y z st:Nat) (w:World) (hsh:ShapeIn ns sb so nb no cap w) :
  Calls Tryz.prog 175 #[.pointer (some ⟨sb,so,none⟩),V3 x y z,F1 st] w (RetVv (normF (topF ns) (cv x y z) (cn .f32 st)) w):=by
 obtain ⟨R,hR⟩:∃ R,Hid (R = normF (topF ns) (cv x y z) (cn .f32 st)):=⟨_,rfl⟩
 rw [← hR.out]
 have hcall:∀ (u v t cb pb:Nat) (w':World),Below w.heap.size w w' → Kept [(⟨cb,0,none⟩,.pointer (some ⟨sb,so,none⟩)),(⟨pb,0,none⟩,F1 x),(⟨pb,0 + 1,none⟩,F1 y),(⟨pb,0 + 2,none⟩,F1 z)] [] w' →
   Calls Tryz.prog 249 #[V3 u v t,.pointer (some ⟨cb,0,none⟩),.pointer (some ⟨pb,0,none⟩)] w' (Ret .f32 (B .sub (topF ns (addV (cv x y z) (cv u v t))) (topF ns (lessV (cv x y z) (cv u v t)))) w') :=
  fun u v t cb pb w' hb hk => norm1_any ns hok hl sb so nb no cap x y z u v t cb 0 pb 0 w' (hsh.keep hb) hk
 clear hsh hok
 go_enter Tryz.func175,Tryz.ntmps175
 go_upto_region 1 with fail
 generalize hW:((w.alloc (.cells #[.pointer (some ⟨sb,so,none⟩)] 107)).alloc (.cells #[F1 x,F1 y,F1 z] 38)).alloc (.cells #[F1 0,F1 0,F1 0] 38) = W1 at *
 have W1b:Below w.heap.size w W1:=by subst hW;exact (by repeat' (first | exact Below.refl _ _ | exact Nat.le_refl _ | refine below_drewN ?_ _ | refine Below.alloc ?_ (by simp <;> omega) _ | refine Below.setCell ?_ (by simp <;> omega) _ | refine below_step ?_ (by assumption)))
 have hkept:Kept [(⟨w.heap.size,0,none⟩,.pointer (some ⟨sb,so,none⟩)),(⟨w.heap.size + 1,0,none⟩,F1 x),(⟨w.heap.size + 1,1,none⟩,F1 y),(⟨w.heap.size + 1,2,none⟩,F1 z),(⟨w.heap.size + 1 + 1,0,none⟩,F1 0),(⟨w.heap.size + 1 + 1,1,none⟩,F1 0),(⟨w.heap.size + 1 + 1,2,none⟩,F1 0)] [⟨w.heap.size + 1 + 1,0,none⟩,⟨w.heap.size + 1 + 1,1,none⟩,⟨w.heap.size + 1 + 1,2,none⟩] W1:=by
  subst hW;simp only [Kept,ka,kb,kc,kd,ke,kfa,kga];(first | (go_simp;done) | (simp [World.cell?,World.frozen?,World.alloc,Array.getElem?_push];done))
 clear hW
 have hK:=hkept;simp only [Kept,ka,kb,kc,kd,ke,kfa,kga] at hK
 go_wp2_with fail
 refine (hcall _ _ _ _ _ _ W1b (by simp only [Kept,ka,kb,kc,kd,ke,kfa,kga];simp [hK])).mono ?_
 rintro _ w2 ⟨r1,rfl,hr1,hb1⟩
 have W1b:=below_step W1b hb1
 have hkept:=keepT hkept hb1 rfl;clear hK;have hK:=hkept;simp only [Kept,ka,kb,kc,kd,ke,kfa,kga] at hK
 go_wp2_with fail
 refine (hcall _ _ _ _ _ _ W1b (by simp only [Kept,ka,kb,kc,kd,ke,kfa,kga];simp [hK])).mono ?_
 rintro _ w3 ⟨r2,rfl,hr2,hb1⟩
 have W1b:=below_step W1b hb1
 have hkept:=keepT hkept hb1 rfl;clear hK;have hK:=hkept;simp only [Kept,ka,kb,kc,kd,ke,kfa,kga] at hK
 go_wp2_with fail
 refine (hcall _ _ _ _ _ _ W1b (by simp only [Kept,ka,kb,kc,kd,ke,kfa,kga];simp [hK])).mono ?_
 rintro _ w4 ⟨r3,rfl,hr3,hb1⟩
 have W1b:=below_step W1b hb1
 have hkept:=keepT hkept hb1 rfl;clear hK;have hK:=hkept;simp only [Kept,ka,kb,kc,kd,ke,kfa,kga] at hK
 go_wp2_with (go_at_call 177;refine (unit_any _ _ _ _).mono ?_;rintro _ w5 ⟨x1,y1,z1,rfl,hx1,hy1,hz1,hb1⟩;have W1b:=below_step W1b hb1;have hkept:=keepT hkept hb1 rfl;clear hK;have hK:=hkept;simp only [Kept,ka,kb,kc,kd,ke,kfa,kga] at hK)
 exact bodyPost_ret (v:=V3 x1 y1 z1) (by simp [results,Tryz.results175,go_sem,hK,World.cell?_setCell_other,World.cell?_setCell_same'];first | done | exact ⟨rfl,rfl,rfl⟩) rfl ⟨x1,y1,z1,rfl,by
  rw [hR.out,hx1,hy1,hz1,hr1,hr2,hr3]
  unfold normF cv
  simp only [cn_zero],bel3 W1b (by omega) _ _ _⟩
end Go.Proofs.YtbiacfkiakddiaaGreat
