/-
 Lemmas: X1,Y1,Y2,Y13.
-/
import Derived.Test.YtbiacfkiakddiaaGreatOaj
set_option linter.unusedVariables false
set_option linter.unusedSimpArgs false
namespace Go.Proofs.YtbiacfkiakddiaaGreat
open Go.RowKit Go.Fl
def addV (p q:Nat × Nat × Nat):Nat × Nat × Nat:=(B .add p.1 q.1,B .add p.2.1 q.2.1,B .add p.2.2 q.2.2)
def lessV (p q:Nat × Nat × Nat):Nat × Nat × Nat:=(B .sub p.1 q.1,B .sub p.2.1 q.2.1,B .sub p.2.2 q.2.2)
def scaleV (p:Nat × Nat × Nat) (f:Nat):Nat × Nat × Nat:=(B .mul p.1 f,B .mul p.2.1 f,B .mul p.2.2 f)
def rightP (x:Nat):Bool:=eqk .f32 (B .sub x x) 0 && gtk .f32 x 0

set_option maxHeartbeats 400000 in
theorem add_any (a b c d e f:Nat) (w:World) :
  Calls Tryz.prog 232 #[.agg #[.float .f32 a,.float .f32 b,.float .f32 c],.agg #[.float .f32 d,.float .f32 e,.float .f32 f]] w
   (RetV (B .add (cn .f32 a) (cn .f32 d)) (B .add (cn .f32 b) (cn .f32 e)) (B .add (cn .f32 c) (cn .f32 f)) w):=by
 go_enter Tryz.func232,Tryz.ntmps232
 go_wp2_with (refine wp_bin rfl _ _ _ _ _ rfl _ _ _ rfl rfl rfl ?_;intro r n hr)
 exact bodyPost_ret (v:=.agg #[.float .f32 _,.float .f32 _,.float .f32 _]) (by simp [results,Tryz.results232,go_sem];exact ⟨rfl,rfl,rfl⟩) rfl ⟨_,_,_,rfl,by assumption,by assumption,by assumption,(by repeat' (first | exact Below.refl _ _ | exact Nat.le_refl _ | refine below_drewN ?_ _ | refine Below.alloc ?_ (by simp <;> omega) _ | refine Below.setCell ?_ (by simp <;> omega) _ | refine below_step ?_ (by assumption)))⟩

set_option maxHeartbeats 400000 in
theorem scale_any (a b c d:Nat) (w:World) :
  Calls Tryz.prog 233 #[.agg #[.float .f32 a,.float .f32 b,.float .f32 c],.float .f32 d] w
   (RetV (B .mul (cn .f32 a) (cn .f32 d)) (B .mul (cn .f32 b) (cn .f32 d)) (B .mul (cn .f32 c) (cn .f32 d)) w):=by
 go_enter Tryz.func233,Tryz.ntmps233
 go_wp2_with (refine wp_bin rfl _ _ _ _ _ rfl _ _ _ rfl rfl rfl ?_;intro r n hr)
 exact bodyPost_ret (v:=.agg #[.float .f32 _,.float .f32 _,.float .f32 _]) (by simp [results,Tryz.results233,go_sem];exact ⟨rfl,rfl,rfl⟩) rfl ⟨_,_,_,rfl,by assumption,by assumption,by assumption,(by repeat' (first | exact Below.refl _ _ | exact Nat.le_refl _ | refine below_drewN ?_ _ | refine Below.alloc ?_ (by simp <;> omega) _ | refine Below.setCell ?_ (by simp <;> omega) _ | refine below_step ?_ (by assumption)))⟩

set_option maxHeartbeats 400000 in
theorem s_add_any (a b c d e f:Nat) (w:World) :
  Calls Tryz.prog 228 #[.agg #[.float .f32 a,.float .f32 b,.float .f32 c],.agg #[.float .f32 d,.float .f32 e,.float .f32 f]] w
   (RetV (B .add (cn .f32 a) (cn .f32 d)) (B .add (cn .f32 b) (cn .f32 e)) (B .add (cn .f32 c) (cn .f32 f)) w):=by
 go_enter Tryz.func228,Tryz.ntmps228
 go_wp2_with (refine wp_bin rfl _ _ _ _ _ rfl _ _ _ rfl rfl rfl ?_;intro r n hr)
 exact bodyPost_ret (v:=.agg #[.float .f32 _,.float .f32 _,.float .f32 _]) (by simp [results,Tryz.results228,go_sem];exact ⟨rfl,rfl,rfl⟩) rfl ⟨_,_,_,rfl,by assumption,by assumption,by assumption,(by repeat' (first | exact Below.refl _ _ | exact Nat.le_refl _ | refine below_drewN ?_ _ | refine Below.alloc ?_ (by simp <;> omega) _ | refine Below.setCell ?_ (by simp <;> omega) _ | refine below_step ?_ (by assumption)))⟩

set_option maxHeartbeats 400000 in
theorem s_scale_any (a b c d:Nat) (w:World) :
  Calls Tryz.prog 229 #[.agg #[.float .f32 a,.float .f32 b,.float .f32 c],.float .f32 d] w
   (RetV (B .mul (cn .f32 a) (cn .f32 d)) (B .mul (cn .f32 b) (cn .f32 d)) (B .mul (cn .f32 c) (cn .f32 d)) w):=by
 go_enter Tryz.func229,Tryz.ntmps229
 go_wp2_with (refine wp_bin rfl _ _ _ _ _ rfl _ _ _ rfl rfl rfl ?_;intro r n hr)
 exact bodyPost_ret (v:=.agg #[.float .f32 _,.float .f32 _,.float .f32 _]) (by simp [results,Tryz.results229,go_sem];exact ⟨rfl,rfl,rfl⟩) rfl ⟨_,_,_,rfl,by assumption,by assumption,by assumption,(by repeat' (first | exact Below.refl _ _ | exact Nat.le_refl _ | refine below_drewN ?_ _ | refine Below.alloc ?_ (by simp <;> omega) _ | refine Below.setCell ?_ (by simp <;> omega) _ | refine below_step ?_ (by assumption)))⟩

set_option maxHeartbeats 400000 in
theorem step_any (a:Nat) (w:World) :
  Calls Tryz.prog 89 #[.float .f32 a] w (fun e w' => e = .returned (.bool (rightP (cn .f32 a))) ∧ Below w.heap.size w w'):=by
 cases hf:eqk .f32 (B .sub (cn .f32 a) (cn .f32 a)) 0
 ·go_enter Tryz.func89,Tryz.ntmps89
  go_wp2_with (go_at_call 150;refine (fin_any _ _).mono ?_;rintro _ w2 ⟨rfl,hb1⟩;rw [hf])
  go_ret
  exact ⟨by unfold rightP;rw [hf];rfl,(by repeat' (first | exact Below.refl _ _ | exact Nat.le_refl _ | refine below_drewN ?_ _ | refine Below.alloc ?_ (by simp <;> omega) _ | refine Below.setCell ?_ (by simp <;> omega) _ | refine below_step ?_ (by assumption)))⟩
 ·go_enter Tryz.func89,Tryz.ntmps89
  go_wp2_with (go_at_call 150;refine (fin_any _ _).mono ?_;rintro _ w2 ⟨rfl,hb1⟩;rw [hf])
  go_ret
  exact ⟨by unfold rightP;rw [hf,gtk,ord_r0];rfl,(by repeat' (first | exact Below.refl _ _ | exact Nat.le_refl _ | refine below_drewN ?_ _ | refine Below.alloc ?_ (by simp <;> omega) _ | refine Below.setCell ?_ (by simp <;> omega) _ | refine below_step ?_ (by assumption)))⟩

set_option maxHeartbeats 400000 in
theorem s_step_any (a:Nat) (w:World) :
  Calls Tryz.prog 87 #[.float .f32 a] w (fun e w' => e = .returned (.bool (rightP (cn .f32 a))) ∧ Below w.heap.size w w'):=by
 cases hf:eqk .f32 (B .sub (cn .f32 a) (cn .f32 a)) 0
 ·go_enter Tryz.func87,Tryz.ntmps87
  go_wp2_with (go_at_call 149;refine (s_fin_any _ _).mono ?_;rintro _ w2 ⟨rfl,hb1⟩;rw [hf])
  go_ret
  exact ⟨by unfold rightP;rw [hf];rfl,(by repeat' (first | exact Below.refl _ _ | exact Nat.le_refl _ | refine below_drewN ?_ _ | refine Below.alloc ?_ (by simp <;> omega) _ | refine Below.setCell ?_ (by simp <;> omega) _ | refine below_step ?_ (by assumption)))⟩
 ·go_enter Tryz.func87,Tryz.ntmps87
  go_wp2_with (go_at_call 149;refine (s_fin_any _ _).mono ?_;rintro _ w2 ⟨rfl,hb1⟩;rw [hf])
  go_ret
  exact ⟨by unfold rightP;rw [hf,gtk,ord_r0];rfl,(by repeat' (first | exact Below.refl _ _ | exact Nat.le_refl _ | refine below_drewN ?_ _ | refine Below.alloc ?_ (by simp <;> omega) _ | refine Below.setCell ?_ (by simp <;> omega) _ | refine below_step ?_ (by assumption)))⟩
end Go.Proofs.YtbiacfkiakddiaaGreat

namespace Go.Proofs.YtbiacfkiakddiaaGreat
open Go.RowKit Go.Fl
def finB (x:Nat):Bool:=eqk .f32 (B .sub x x) 0
def oneL (p:Nat × Nat × Nat):Nat:=B .quo (cn .f32 1065353216) (longF p.1 p.2.1 p.2.2)
def unitF (p:Nat × Nat × Nat):Nat × Nat × Nat:=if eqk .f32 (longF p.1 p.2.1 p.2.2) 0 || !(finB (longF p.1 p.2.1 p.2.2) && finB (oneL p)) then (0,0,0) else scaleV p (oneL p)
def vfin (p:Nat × Nat × Nat):Bool:=finB p.1 && finB p.2.1 && finB p.2.2
def wayF (p:Nat × Nat × Nat):Bool:=eqk .f32 p.1 p.1 && eqk .f32 p.2.1 p.2.1 && eqk .f32 p.2.2 p.2.2 && (!eqk .f32 p.1 0 || !eqk .f32 p.2.1 0 || !eqk .f32 p.2.2 0)
def rayOk (f t:Nat × Nat × Nat):Bool:=vfin f && wayF (unitF t)
def onF (f t:Nat × Nat × Nat) (far:Nat):Nat × Nat × Nat:=addV f (scaleV (unitF t) far)
def marOk (a b:Nat) (n:Int):Bool:=rightP a && finB b && (gtk .f32 b 0 || eqk .f32 b 0) && (decide (1 ≤ n) && decide (n ≤ 64))

theorem keptT {cs:List (Addr × Value)} {fs:List Addr} {W W':World} (h:Kept cs fs W) (e:W'.heap = W.heap):Kept cs fs W':=by
 obtain ⟨h1,h2⟩:=h
 have hc:∀ a,W'.cell? a = W.cell? a:=fun a => by unfold World.cell?;rw [e]
 have hf:∀ a,W'.frozen? a = W.frozen? a:=fun a => by unfold World.frozen?;rw [e]
 exact ⟨fun p hp => by rw [hc];exact h1 p hp,fun a ha => by rw [hc,hf];exact h2 a ha⟩
theorem keepT {cs:List (Addr × Value)} {fs:List Addr} {W X w:World} (h:Kept cs fs W) (hb:Below X.heap.size X w) (e:X.heap = W.heap):Kept cs fs w:=keep (keptT h e) hb

theorem cn_one:cn .f32 1065353216 = 1065353216:=by decide +kernel
set_option maxHeartbeats 400000 in
theorem s_vfin_any (x y z:Nat) (w:World) :
  Calls Tryz.prog 121 #[V3 x y z] w (fun e w' => e = .returned (.bool (vfin (cn .f32 x,cn .f32 y,cn .f32 z))) ∧ Below w.heap.size w w'):=by
 obtain ⟨b,hb⟩:∃ b,Hid (vfin (cn .f32 x,cn .f32 y,cn .f32 z) = b):=⟨_,rfl⟩
 rw [hb.out]
 have hbo:=hb.out
 unfold vfin finB at hbo
 have hb:=Lib.hid hbo
 clear hbo
 cases h1:eqk .f32 (B .sub (cn .f32 x) (cn .f32 x)) 0 <;> cases h2:eqk .f32 (B .sub (cn .f32 y) (cn .f32 y)) 0 <;> cases h3:eqk .f32 (B .sub (cn .f32 z) (cn .f32 z)) 0
 all_goals
  have hbo:=hb.out
  simp only [h1,h2,h3,Bool.and_true,Bool.and_false,Bool.false_and,Bool.true_and] at hbo
  subst hbo
  clear hb
  go_enter Tryz.func121,Tryz.ntmps121
  go_wp2_with fail
  generalize hW:w.alloc (.cells #[F1 x,F1 y,F1 z] 38) = W1 at *
  have W1b:Below w.heap.size w W1:=by subst hW;exact (by repeat' (first | exact Below.refl _ _ | exact Nat.le_refl _ | refine below_drewN ?_ _ | refine Below.alloc ?_ (by simp <;> omega) _ | refine Below.setCell ?_ (by simp <;> omega) _ | refine below_step ?_ (by assumption)))
  have hkept:Kept [(⟨w.heap.size,0,none⟩,F1 x),(⟨w.heap.size,1,none⟩,F1 y),(⟨w.heap.size,2,none⟩,F1 z)] [] W1:=by
   subst hW;simp only [Kept,ka,kb,kc,kd,ke,kfa,kga];(first | (go_simp;done) | (simp [World.cell?,World.frozen?,World.alloc,Array.getElem?_push];done))
  clear hW
  have hK:=hkept;simp only [Kept,ka,kb,kc,kd,ke,kfa,kga] at hK
  go_wp2_with (go_at_call 149;refine (s_fin_any _ _).mono ?_;rintro _ w2 ⟨rfl,hb1⟩;have hkept:=keepT hkept hb1 rfl;clear hK;have hK:=hkept;simp only [Kept,ka,kb,kc,kd,ke,kfa,kga] at hK;simp only [h1,h2,h3])
  go_ret
  exact ⟨rfl,(by repeat' (first | exact Below.refl _ _ | exact Nat.le_refl _ | refine Below.drew ?_ | refine below_drewN ?_ _ | refine Below.alloc ?_ (by simp <;> omega) _ | refine Below.setCell ?_ (by simp <;> omega) _ | refine below_step ?_ (by assumption)))⟩

set_option maxRecDepth 100000 in
set_option maxHeartbeats 1000000 in
theorem s_unit_any (x y z:Nat) (w:World) :
  Calls Tryz.prog 166 #[V3 x y z] w (RetV (unitF (cn .f32 x,cn .f32 y,cn .f32 z)).1 (unitF (cn .f32 x,cn .f32 y,cn .f32 z)).2.1 (unitF (cn .f32 x,cn .f32 y,cn .f32 z)).2.2 w):=by
 obtain ⟨U,hU⟩:∃ U,Hid (unitF (cn .f32 x,cn .f32 y,cn .f32 z) = U):=⟨_,rfl⟩
 rw [hU.out]
 go_enter Tryz.func166,Tryz.ntmps166
 go_wp2_with fail
 generalize hW:(w.alloc (.cells #[F1 x,F1 y,F1 z] 38)).alloc (.cells #[F1 0,F1 0,F1 0] 38) = W1 at *
 have W1b:Below w.heap.size w W1:=by subst hW;exact (by repeat' (first | exact Below.refl _ _ | exact Nat.le_refl _ | refine below_drewN ?_ _ | refine Below.alloc ?_ (by simp <;> omega) _ | refine Below.setCell ?_ (by simp <;> omega) _ | refine below_step ?_ (by assumption)))
 have hkept:Kept [(⟨w.heap.size,0,none⟩,F1 x),(⟨w.heap.size,1,none⟩,F1 y),(⟨w.heap.size,2,none⟩,F1 z),(⟨w.heap.size + 1,0,none⟩,F1 0),(⟨w.heap.size + 1,1,none⟩,F1 0),(⟨w.heap.size + 1,2,none⟩,F1 0)] [⟨w.heap.size + 1,0,none⟩,⟨w.heap.size + 1,1,none⟩,⟨w.heap.size + 1,2,none⟩] W1:=by
  subst hW;simp only [Kept,ka,kb,kc,kd,ke,kfa,kga];(first | (go_simp;done) | (simp [World.cell?,World.frozen?,World.alloc,Array.getElem?_push];done))
 clear hW
 have hK:=hkept;simp only [Kept,ka,kb,kc,kd,ke,kfa,kga] at hK
 go_upto_region 3 with (first | (go_at_call 242;refine (s_long_any _ _ _ _).mono ?_;rintro _ w2 ⟨r1,rfl,hr1,hb1⟩;have hkept:=keepT hkept hb1 rfl;clear hK;have hK:=hkept;simp only [Kept,ka,kb,kc,kd,ke,kfa,kga] at hK) | (refine wp_bin rfl _ _ _ _ _ rfl _ _ _ rfl rfl rfl ?_;intro r n hr))
 have e1:eqk .f32 (longF (cn .f32 x) (cn .f32 y) (cn .f32 z)) 0 = (FloatKind.f32.format.order r1 0 == some .eq):=by rw [← hr1,eqk,ord_r0]
 have e2:oneL (cn .f32 x,cn .f32 y,cn .f32 z) = cn .f32 r:=by rw [hr,hr1];rfl
 have hUo:=hU.out
 unfold unitF at hUo
 simp only [e2,finB] at hUo
 rw [← hr1] at hUo e1
 rw [e1] at hUo
 cases h0:(FloatKind.f32.format.order r1 0 == some .eq) <;> cases h1:eqk .f32 (B .sub (cn .f32 r1) (cn .f32 r1)) 0 <;> cases h2:eqk .f32 (B .sub (cn .f32 r) (cn .f32 r)) 0
 all_goals
  rw [h0,h1,h2] at hUo
  simp only [Bool.or_true,Bool.true_or,Bool.or_false,Bool.false_or,Bool.and_true,Bool.and_false,Bool.not_true,Bool.not_false,Bool.false_eq_true,if_true,if_false] at hUo
  subst hUo
  clear hU e1 e2
  go_wp2_with (first | (go_at_call 149;refine (s_fin_any _ _).mono ?_;rintro _ w3 ⟨rfl,hb1⟩;have hkept:=keepT hkept hb1 rfl;clear hK;have hK:=hkept;simp only [Kept,ka,kb,kc,kd,ke,kfa,kga] at hK;simp only [h1,h2]) | (go_at_call 229;refine (s_scale_any _ _ _ _ _).mono ?_;rintro _ w4 ⟨s1,s2,s3,rfl,hs1,hs2,hs3,hb1⟩;have hkept:=keepT hkept hb1 rfl;clear hK;have hK:=hkept;simp only [Kept,ka,kb,kc,kd,ke,kfa,kga] at hK))
  first
   | exact bodyPost_ret (v:=V3 0 0 0) (by simp [results,Tryz.results166,go_sem,hK,World.cell?_setCell_other,World.cell?_setCell_same']) rfl ⟨_,_,_,rfl,cn_zero _,cn_zero _,cn_zero _,(by repeat' (first | exact Below.refl _ _ | exact Nat.le_refl _ | refine Below.drew ?_ | refine below_drewN ?_ _ | refine Below.alloc ?_ (by simp <;> omega) _ | refine Below.setCell ?_ (by simp <;> omega) _ | refine below_step ?_ (by assumption)))⟩
   | exact bodyPost_ret (v:=V3 s1 s2 s3) (by simp [results,Tryz.results166,go_sem,hK,World.cell?_setCell_other,World.cell?_setCell_same']) rfl ⟨_,_,_,rfl,hs1,hs2,hs3,(by repeat' (first | exact Below.refl _ _ | exact Nat.le_refl _ | refine Below.drew ?_ | refine below_drewN ?_ _ | refine Below.alloc ?_ (by simp <;> omega) _ | refine Below.setCell ?_ (by simp <;> omega) _ | refine below_step ?_ (by assumption)))⟩

/-- A ray lies here. -/
structure RayIn (a b c d e f rb ro:Nat) (w:World):Prop where
 kept:Kept [(⟨rb,ro,none⟩,F1 a),(⟨rb,ro + 1,none⟩,F1 b),(⟨rb,ro + 2,none⟩,F1 c),(⟨rb,ro + 3,none⟩,F1 d),(⟨rb,ro + 4,none⟩,F1 e),(⟨rb,ro + 5,none⟩,F1 f)] [] w
theorem RayIn.keep {a b c d e f rb ro:Nat} {w w':World} (h:RayIn a b c d e f rb ro w) (hb:Below w.heap.size w w'):RayIn a b c d e f rb ro w':=⟨Go.Fl.keep h.kept hb⟩
theorem RayIn.lt {a b c d e f rb ro:Nat} {w:World} (h:RayIn a b c d e f rb ro w):rb < w.heap.size:=some_lt (a:=⟨rb,ro,none⟩) (by rw [h.kept.1 (⟨rb,ro,none⟩,F1 a) (by simp)];rfl)

theorem way7 (v x y z p q r:Bool):v = false ∨ (v = true ∧ x = false) ∨ (v = true ∧ x = true ∧ y = false) ∨ (v = true ∧ x = true ∧ y = true ∧ z = false) ∨ (v = true ∧ x = true ∧ y = true ∧ z = true ∧ p = true) ∨ (v = true ∧ x = true ∧ y = true ∧ z = true ∧ p = false ∧ q = true) ∨ (v = true ∧ x = true ∧ y = true ∧ z = true ∧ p = false ∧ q = false ∧ r = true) ∨ (v = true ∧ x = true ∧ y = true ∧ z = true ∧ p = false ∧ q = false ∧ r = false):=by
 cases v <;> cases x <;> cases y <;> cases z <;> cases p <;> cases q <;> cases r <;> simp

theorem way_eq (a b c:Nat):wayF (cn .f32 a,cn .f32 b,cn .f32 c) = ((FloatKind.f32.format.order a a == some .eq) && (FloatKind.f32.format.order b b == some .eq) && (FloatKind.f32.format.order c c == some .eq) && ((FloatKind.f32.format.order a 0 != some .eq) || (FloatKind.f32.format.order b 0 != some .eq) || (FloatKind.f32.format.order c 0 != some .eq))):=by
 unfold wayF eqk
 simp only [order_cn,ord_r0]
 rfl

set_option maxRecDepth 100000 in
set_option maxHeartbeats 1000000 in
theorem s_ray_any (a b c d e f rb ro:Nat) (w:World) (h:RayIn a b c d e f rb ro w) :
  Calls Tryz.prog 162 #[.pointer (some ⟨rb,ro,none⟩)] w (fun e' w' => e' = .returned (.bool (rayOk (cn .f32 a,cn .f32 b,cn .f32 c) (cn .f32 d,cn .f32 e,cn .f32 f))) ∧ Below w.heap.size w w'):=by
 obtain ⟨U,hU⟩:∃ U,Hid (rayOk (cn .f32 a,cn .f32 b,cn .f32 c) (cn .f32 d,cn .f32 e,cn .f32 f) = U):=⟨_,rfl⟩
 rw [hU.out]
 have hkept:=h.kept
 have hlt:=h.lt
 clear h
 have hK:=hkept;simp only [Kept,ka,kb,kc,kd,ke,kfa,kga] at hK
 go_enter Tryz.func162,Tryz.ntmps162
 go_wp2_with (go_at_call 166;fail)
 refine (s_unit_any _ _ _ _).mono ?_
 rintro _ w2 ⟨x,y,z,rfl,hx,hy,hz,hb1⟩
 have W2b:=hb1
 have W3b:Below w.heap.size w (w2.alloc (.cells #[F1 x,F1 y,F1 z] 38)):=hb1.alloc hb1.size _
 have hkept:=kept_app (keep (keep hkept hb1) ((Below.refl _ _).alloc (Nat.le_refl _) (.cells #[F1 x,F1 y,F1 z] 38))) (show Kept [(⟨w2.heap.size,0,none⟩,F1 x),(⟨w2.heap.size,1,none⟩,F1 y),(⟨w2.heap.size,2,none⟩,F1 z)] [] (w2.alloc (.cells #[F1 x,F1 y,F1 z] 38)) by simp only [Kept,ka,kb,kc,kd,ke,kfa,kga];simp)
 clear hK hb1 W2b
 go_upto_region 2 with fail
 generalize w2.alloc (.cells #[F1 x,F1 y,F1 z] 38) = W3 at *
 have hK:=hkept;simp only [Kept,ka,kb,kc,kd,ke,kfa,kga] at hK
 have hUo:=hU.out
 unfold rayOk at hUo
 rw [show unitF (cn .f32 d,cn .f32 e,cn .f32 f) = (cn .f32 x,cn .f32 y,cn .f32 z) by rw [hx,hy,hz],way_eq] at hUo
 clear hx hy hz hU
 rcases way7 (vfin (cn .f32 a,cn .f32 b,cn .f32 c)) (FloatKind.f32.format.order x x == some .eq) (FloatKind.f32.format.order y y == some .eq) (FloatKind.f32.format.order z z == some .eq) (FloatKind.f32.format.order x 0 != some .eq) (FloatKind.f32.format.order y 0 != some .eq) (FloatKind.f32.format.order z 0 != some .eq) with h1 | ⟨h1,h2⟩ | ⟨h1,h2,h3⟩ | ⟨h1,h2,h3,h4⟩ | ⟨h1,h2,h3,h4,h5⟩ | ⟨h1,h2,h3,h4,h5,h6⟩ | ⟨h1,h2,h3,h4,h5,h6,h7⟩ | ⟨h1,h2,h3,h4,h5,h6,h7⟩
 all_goals
  simp only [*,Bool.and_true,Bool.and_false,Bool.false_and,Bool.true_and,Bool.or_true,Bool.true_or,Bool.or_false,Bool.false_or] at hUo
  subst hUo
  go_wp2_with (go_at_call 121;refine (s_vfin_any _ _ _ _).mono ?_;rintro _ w4 ⟨rfl,hb1⟩;have hkept:=keepT hkept hb1 rfl;clear hK;have hK:=hkept;simp only [Kept,ka,kb,kc,kd,ke,kfa,kga] at hK;simp only [h1])
  go_ret
  exact ⟨rfl,(by repeat' (first | exact Below.refl _ _ | exact Nat.le_refl _ | refine Below.drew ?_ | refine below_drewN ?_ _ | refine Below.alloc ?_ (by simp <;> omega) _ | refine Below.setCell ?_ (by simp <;> omega) _ | refine below_step ?_ (by assumption)))⟩
end Go.Proofs.YtbiacfkiakddiaaGreat

namespace Go.Proofs.YtbiacfkiakddiaaGreat
open Go.RowKit Go.Fl
inductive PhiO (fu fs fa:FuncId):FuncId → Array Value → Value → Prop
 | unit (x y z a b c:Nat) (h1:cn .f32 a = (unitF (cn .f32 x,cn .f32 y,cn .f32 z)).1) (h2:cn .f32 b = (unitF (cn .f32 x,cn .f32 y,cn .f32 z)).2.1) (h3:cn .f32 c = (unitF (cn .f32 x,cn .f32 y,cn .f32 z)).2.2):PhiO fu fs fa fu #[V3 x y z] (V3 a b c)
 | scale (x y z f a b c:Nat) (h1:cn .f32 a = B .mul (cn .f32 x) (cn .f32 f)) (h2:cn .f32 b = B .mul (cn .f32 y) (cn .f32 f)) (h3:cn .f32 c = B .mul (cn .f32 z) (cn .f32 f)):PhiO fu fs fa fs #[V3 x y z,F1 f] (V3 a b c)
 | add (x y z x' y' z' a b c:Nat) (h1:cn .f32 a = B .add (cn .f32 x) (cn .f32 x')) (h2:cn .f32 b = B .add (cn .f32 y) (cn .f32 y')) (h3:cn .f32 c = B .add (cn .f32 z) (cn .f32 z')):PhiO fu fs fa fa #[V3 x y z,V3 x' y' z'] (V3 a b c)

set_option maxRecDepth 100000 in
set_option maxHeartbeats 1000000 in
theorem s_on_any (a b c d e f rb ro far:Nat) (w:World) (h:RayIn a b c d e f rb ro w) :
  Calls Tryz.prog 241 #[.pointer (some ⟨rb,ro,none⟩),F1 far] w (RetV (onF (cn .f32 a,cn .f32 b,cn .f32 c) (cn .f32 d,cn .f32 e,cn .f32 f) (cn .f32 far)).1 (onF (cn .f32 a,cn .f32 b,cn .f32 c) (cn .f32 d,cn .f32 e,cn .f32 f) (cn .f32 far)).2.1 (onF (cn .f32 a,cn .f32 b,cn .f32 c) (cn .f32 d,cn .f32 e,cn .f32 f) (cn .f32 far)).2.2 w):=by
 obtain ⟨U,hU⟩:∃ U,Hid (onF (cn .f32 a,cn .f32 b,cn .f32 c) (cn .f32 d,cn .f32 e,cn .f32 f) (cn .f32 far) = U):=⟨_,rfl⟩
 rw [hU.out]
 have hkept:=h.kept
 have hlt:=h.lt
 clear h
 go_enter Tryz.func241,Tryz.ntmps241
 go_upto_region 1 with fail
 have hbA:Below w.heap.size w (w.alloc (.cells #[F1 0,F1 0,F1 0] 38)):=(Below.refl _ _).alloc (Nat.le_refl _) _
 have hkept:=kept_app (keep hkept hbA) (show Kept [(⟨w.heap.size,0,none⟩,F1 0),(⟨w.heap.size,1,none⟩,F1 0),(⟨w.heap.size,2,none⟩,F1 0)] [⟨w.heap.size,0,none⟩,⟨w.heap.size,1,none⟩,⟨w.heap.size,2,none⟩] (w.alloc (.cells #[F1 0,F1 0,F1 0] 38)) by simp only [Kept,ka,kb,kc,kd,ke,kfa,kga];simp)
 generalize w.alloc (.cells #[F1 0,F1 0,F1 0] 38) = W1 at *
 refine Qr.wp_below 12 (by kernel_rfl) (by kernel_rfl) (PhiO 166 229 228) ?_
 repeat (first
  | (refine Qr.walk_plain rfl fun K hK => ?_;apply Qr.one_det;(focus (intro w' hw';have HK:=keep hkept hw';simp only [Kept,ka,kb,kc,kd,ke,kfa,kga] at HK;go_simp;first | done | rfl));go_simp;refine hK _ ?_;clear hK K)
  | (refine Qr.walk_plain rfl fun K hK => ?_;apply Qr.one_call;(focus (intro w' hw';go_simp;first | done | exact ⟨rfl,rfl⟩));(focus (intro w' hw'; go_at_call 166;refine (s_unit_any _ _ _ _).mono ?_;rintro _ w3 ⟨r1,r2,r3,rfl,hr1,hr2,hr3,hb1⟩;exact ⟨_,rfl,PhiO.unit _ _ _ _ _ _ hr1 hr2 hr3,below_step hw' (by assumption),by assumption⟩));intro v hv;cases hv;go_simp;refine hK _ ?_;clear hK K)
  | (refine Qr.walk_plain rfl fun K hK => ?_;apply Qr.one_call;(focus (intro w' hw';go_simp;first | done | exact ⟨rfl,rfl⟩));(focus (intro w' hw'; go_at_call 229;refine (s_scale_any _ _ _ _ _).mono ?_;rintro _ w3 ⟨r1,r2,r3,rfl,hr1,hr2,hr3,hb1⟩;exact ⟨_,rfl,PhiO.scale _ _ _ _ _ _ _ hr1 hr2 hr3,below_step hw' (by assumption),by assumption⟩));intro v hv;cases hv;go_simp;refine hK _ ?_;clear hK K)
  | (refine Qr.walk_plain rfl fun K hK => ?_;apply Qr.one_call;(focus (intro w' hw';go_simp;first | done | exact ⟨rfl,rfl⟩));(focus (intro w' hw'; go_at_call 228;refine (s_add_any _ _ _ _ _ _ _).mono ?_;rintro _ w3 ⟨r1,r2,r3,rfl,hr1,hr2,hr3,hb1⟩;exact ⟨_,rfl,PhiO.add _ _ _ _ _ _ _ _ _ hr1 hr2 hr3,below_step hw' (by assumption),by assumption⟩));intro v hv;cases hv;go_simp;refine hK _ ?_;clear hK K))
 rename_i a1 b1 c1 g1 g2 g3 a2 b2 c2 g4 g5 g6 a3 b3 c3 g7 g8 g9
 refine Qr.walk_nil fun w5 hw5 => ?_
 have W5b:=below_step hbA hw5
 have hkept:=keep hkept hw5
 have hK:=hkept;simp only [Kept,ka,kb,kc,kd,ke,kfa,kga] at hK
 have e1:(cn .f32 a3,cn .f32 b3,cn .f32 c3) = U:=by rw [g7,g8,g9,g4,g5,g6,g1,g2,g3,← hU.out];rfl
 clear g1 g2 g3 g4 g5 g6 g7 g8 g9
 go_wp2_with fail
 exact bodyPost_ret (v:=.agg #[F1 a3,F1 b3,F1 c3]) (by simp [results,Tryz.results241,go_sem,hK,World.cell?_setCell_other,World.cell?_setCell_same']) rfl ⟨_,_,_,rfl,congrArg (·.1) e1,congrArg (·.2.1) e1,congrArg (·.2.2) e1,(by repeat' (first | exact Below.refl _ _ | exact Nat.le_refl _ | refine Below.drew ?_ | refine below_drewN ?_ _ | refine Below.alloc ?_ (by simp <;> omega) _ | refine Below.setCell ?_ (by simp <;> omega) _ | refine below_step ?_ (by assumption)))⟩
end Go.Proofs.YtbiacfkiakddiaaGreat

namespace Go.Proofs.YtbiacfkiakddiaaGreat
open Go.RowKit Go.Fl
abbrev MarV (a b:Nat) (n:Int):Value:=.agg #[F1 a,F1 b,.int .i64 n]

set_option maxRecDepth 100000 in
set_option maxHeartbeats 1000000 in
theorem to_march (a b:Nat) (n:Int) (w:World) :
  Calls Tryz.prog 102 #[MarV a b n] w (fun e w' => e = .returned (MarV a b n) ∧ Below w.heap.size w w'):=by
 go_enter Tryz.func102,Tryz.ntmps102
 go_wp2_with fail
 exact bodyPost_ret (v:=MarV a b n) (by simp [results,Tryz.results102,go_sem];first | done | exact ⟨rfl,rfl,rfl⟩) rfl ⟨rfl,(by repeat' (first | exact Below.refl _ _ | exact Nat.le_refl _ | refine below_drewN ?_ _ | refine Below.alloc ?_ (by simp <;> omega) _ | refine Below.setCell ?_ (by simp <;> omega) _ | refine below_step ?_ (by assumption)))⟩

theorem cells6 {w:World} {g:Nat} {a b c d e f:Value} {T:TypeId} (h:w.heap[g]? = some (.cells #[a,b,c,d,e,f] T (0,0))) :
  (w.cell? ⟨g,0,none⟩ = some a ∧ w.cell? ⟨g,1,none⟩ = some b ∧ w.cell? ⟨g,2,none⟩ = some c ∧ w.cell? ⟨g,3,none⟩ = some d ∧ w.cell? ⟨g,4,none⟩ = some e ∧ w.cell? ⟨g,5,none⟩ = some f) ∧ w.frozen? ⟨g,0,none⟩ = false ∧ w.frozen? ⟨g,1,none⟩ = false ∧ w.frozen? ⟨g,2,none⟩ = false ∧ w.frozen? ⟨g,3,none⟩ = false ∧ w.frozen? ⟨g,4,none⟩ = false ∧ w.frozen? ⟨g,5,none⟩ = false:=by
 refine ⟨⟨?_,?_,?_,?_,?_,?_⟩,?_,?_,?_,?_,?_,?_⟩ <;> simp [World.cell?,World.frozen?,h]

end Go.Proofs.YtbiacfkiakddiaaGreat
