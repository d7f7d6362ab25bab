/-
 Lemmas: Y3,H1,Y4.
-/
import Derived.Test.YtbiacfkiakddiaaGreatObe
set_option linter.unusedVariables false
set_option linter.unusedSimpArgs false
namespace Go.Proofs.YtbiacfkiakddiaaGreat
open Go.RowKit Go.Fl
/-- A march lies here. -/
structure MarIn (a b:Nat) (n:Int) (mb mo:Nat) (w:World):Prop where
 kept:Kept [(⟨mb,mo,none⟩,F1 a),(⟨mb,mo + 1,none⟩,F1 b),(⟨mb,mo + 2,none⟩,.int .i64 n)] [] w
theorem MarIn.keep {a b:Nat} {n:Int} {mb mo:Nat} {w w':World} (h:MarIn a b n mb mo w) (hb:Below w.heap.size w w'):MarIn a b n mb mo w':=⟨Go.Fl.keep h.kept hb⟩
theorem MarIn.lt {a b:Nat} {n:Int} {mb mo:Nat} {w:World} (h:MarIn a b n mb mo w):mb < w.heap.size:=some_lt (a:=⟨mb,mo,none⟩) (by rw [h.kept.1 (⟨mb,mo,none⟩,F1 a) (by simp)];rfl)

theorem way4 (p q r s:Bool):p = false ∨ (p = true ∧ q = false) ∨ (p = true ∧ q = true ∧ r = false) ∨ (p = true ∧ q = true ∧ r = true ∧ s = false) ∨ (p = true ∧ q = true ∧ r = true ∧ s = true):=by
 cases p <;> cases q <;> cases r <;> cases s <;> simp

theorem mar_eq (a b:Nat) (n:Int):marOk (cn .f32 a) (cn .f32 b) n = (rightP (cn .f32 a) && eqk .f32 (B .sub (cn .f32 b) (cn .f32 b)) 0 && ((FloatKind.f32.format.order b 0 == some .gt) || (FloatKind.f32.format.order b 0 == some .eq)) && (decide (1 ≤ n) && decide (n ≤ 64))):=by
 unfold marOk finB gtk
 rw [ord_r0]
 unfold eqk
 rw [ord_r0]

set_option maxRecDepth 100000 in
set_option maxHeartbeats 1000000 in
theorem s_mar_any (a b:Nat) (n:Int) (mb mo:Nat) (w:World) (h:MarIn a b n mb mo w) :
  Calls Tryz.prog 160 #[.pointer (some ⟨mb,mo,none⟩)] w (fun e' w' => e' = .returned (.bool (marOk (cn .f32 a) (cn .f32 b) n)) ∧ Below w.heap.size w w'):=by
 obtain ⟨U,hU⟩:∃ U,Hid (marOk (cn .f32 a) (cn .f32 b) n = U):=⟨_,rfl⟩
 rw [hU.out]
 have hkept:=h.kept
 have hlt:=h.lt
 clear h
 have hK:=hkept;simp only [Kept,ka,kb,kc,kd,ke,kfa,kga] at hK
 have hUo:=hU.out
 rw [mar_eq] at hUo
 clear hU
 have hin:∀ w,Calls Tryz.prog 71 #[.int .i64 n,.int .i64 1,.int .i64 64] w (fun e w' => e = .returned (.bool (decide (1 ≤ n) && decide (n ≤ 64))) ∧ w = w'):=s_in_any n 1 64
 rcases way4 (rightP (cn .f32 a)) (eqk .f32 (B .sub (cn .f32 b) (cn .f32 b)) 0) ((FloatKind.f32.format.order b 0 == some .gt) || (FloatKind.f32.format.order b 0 == some .eq)) (decide (1 ≤ n) && decide (n ≤ 64)) with h1 | ⟨h1,h2⟩ | ⟨h1,h2,h3⟩ | ⟨h1,h2,h3,h4⟩ | ⟨h1,h2,h3,h4⟩
 all_goals
  simp only [*,Bool.and_true,Bool.and_false,Bool.false_and,Bool.true_and] at hUo
  subst hUo
  try rw [h4] at hin
  go_enter Tryz.func160,Tryz.ntmps160
  go_wp2_with (first
   | (go_at_call 87;refine (s_step_any _ _).mono ?_;rintro _ w4 ⟨rfl,hb1⟩;rw [h1];have hkept:=keep hkept hb1;clear hK;have hK:=hkept;simp only [Kept,ka,kb,kc,kd,ke,kfa,kga] at hK)
   | (go_at_call 149;refine (s_fin_any _ _).mono ?_;rintro _ w4 ⟨rfl,hb1⟩;rw [h2];have hkept:=keep hkept hb1;clear hK;have hK:=hkept;simp only [Kept,ka,kb,kc,kd,ke,kfa,kga] at hK)
   | (go_at_call 71;refine (hin _).mono ?_;rintro _ w4 ⟨rfl,rfl⟩))
  go_ret
  exact ⟨rfl,(by repeat' (first | exact Below.refl _ _ | exact Nat.le_refl _ | refine Below.drew ?_ | refine below_drewN ?_ _ | refine Below.alloc ?_ (by simp <;> omega) _ | refine Below.setCell ?_ (by simp <;> omega) _ | refine below_step ?_ (by assumption)))⟩
end Go.Proofs.YtbiacfkiakddiaaGreat

namespace Go.Proofs.YtbiacfkiakddiaaGreat
open Go.RowKit Go.Fl
def crsF (a b c d:Nat):Nat:=B .sub (B .mul a b) (B .mul c d)
def crossV (p q:Nat × Nat × Nat):Nat × Nat × Nat:=(crsF p.2.1 q.2.2 p.2.2 q.2.1,crsF p.2.2 q.1 p.1 q.2.2,crsF p.1 q.2.1 p.2.1 q.1)
/-- A vector comes back. -/
def RetVv (v:Nat × Nat × Nat) (w:World) (e:Ending) (w':World):Prop:=∃ x y z,e = .returned (V3 x y z) ∧ (cn .f32 x,cn .f32 y,cn .f32 z) = v ∧ Below w.heap.size w w'

set_option maxHeartbeats 400000 in
theorem crossed_any (a b c d:Nat) (w:World) :
  Calls Tryz.prog 279 #[F1 a,F1 b,F1 c,F1 d] w (Ret .f32 (crsF (cn .f32 a) (cn .f32 b) (cn .f32 c) (cn .f32 d)) w):=by
 go_enter Tryz.func279,Tryz.ntmps279
 go_wp2_with (refine wp_bin rfl _ _ _ _ _ rfl _ _ _ rfl rfl rfl ?_;intro r n hr)
 go_ret
 exact ⟨_,rfl,by simp only [crsF, *],(by repeat' (first | exact Below.refl _ _ | exact Nat.le_refl _ | refine below_drewN ?_ _ | refine Below.alloc ?_ (by simp <;> omega) _ | refine Below.setCell ?_ (by simp <;> omega) _ | refine below_step ?_ (by assumption)))⟩

inductive PhiCr:FuncId → Array Value → Value → Prop
 | mk (a b c d r:Nat) (h:cn .f32 r = crsF (cn .f32 a) (cn .f32 b) (cn .f32 c) (cn .f32 d)):PhiCr 279 #[F1 a,F1 b,F1 c,F1 d] (F1 r)

set_option maxRecDepth 100000 in
set_option maxHeartbeats 2000000 in
theorem cross_any (a b c d e f:Nat) (w:World) :
  Calls Tryz.prog 267 #[V3 a b c,V3 d e f] w (RetVv (crossV (cn .f32 a,cn .f32 b,cn .f32 c) (cn .f32 d,cn .f32 e,cn .f32 f)) w):=by
 go_enter Tryz.func267,Tryz.ntmps267
 go_upto_region 1 with fail
 generalize hW:((w.alloc (.cells #[F1 a,F1 b,F1 c] 38)).alloc (.cells #[F1 d,F1 e,F1 f] 38)).alloc (.cells #[F1 0,F1 0,F1 0] 38) = W1 at *
 have W1b:Below w.heap.size w W1:=by subst hW;exact (by repeat' (first | exact Below.refl _ _ | exact Nat.le_refl _ | refine below_drewN ?_ _ | refine Below.alloc ?_ (by simp <;> omega) _ | refine Below.setCell ?_ (by simp <;> omega) _ | refine below_step ?_ (by assumption)))
 have hkept:Kept [(⟨w.heap.size,0,none⟩,F1 a),(⟨w.heap.size,1,none⟩,F1 b),(⟨w.heap.size,2,none⟩,F1 c),(⟨w.heap.size + 1,0,none⟩,F1 d),(⟨w.heap.size + 1,1,none⟩,F1 e),(⟨w.heap.size + 1,2,none⟩,F1 f),(⟨w.heap.size + 1 + 1,0,none⟩,F1 0),(⟨w.heap.size + 1 + 1,1,none⟩,F1 0),(⟨w.heap.size + 1 + 1,2,none⟩,F1 0)] [⟨w.heap.size + 1 + 1,0,none⟩,⟨w.heap.size + 1 + 1,1,none⟩,⟨w.heap.size + 1 + 1,2,none⟩] W1:=by
  subst hW;simp only [Kept,ka,kb,kc,kd,ke,kfa,kga];(first | (go_simp;done) | (simp [World.cell?,World.frozen?,World.alloc,Array.getElem?_push];done))
 clear hW
 refine Qr.wp_below 28 (by kernel_rfl) (by kernel_rfl) PhiCr ?_
 repeat (first | (refine Qr.walk_plain rfl fun K hK => ?_;apply Qr.one_det;(focus (intro w' hw';have HK:=keep hkept hw';simp only [Kept,ka,kb,kc,kd,ke,kfa,kga] at HK;go_simp;first | done | rfl));go_simp;refine hK _ ?_;clear hK K) | (refine Qr.walk_plain rfl fun K hK => ?_;apply Qr.one_call;(focus (intro w' hw';go_simp;first | done | exact ⟨rfl,rfl⟩));(focus (intro w' hw'; go_at_call 279;refine (crossed_any _ _ _ _ _).mono ?_;rintro _ w2 ⟨r1,rfl,hr1,hb1⟩ ;exact ⟨_,rfl,by constructor <;> assumption,below_step hw' (by assumption),by assumption⟩));intro v hv;cases hv;go_simp;refine hK _ ?_;clear hK K))
 rename_i r1 h1 r2 h2 r3 h3
 refine Qr.walk_nil fun w3 hw3 => ?_
 have hkept:=keep hkept hw3
 have W3b:=below_step W1b hw3
 have hK:=hkept;simp only [Kept,ka,kb,kc,kd,ke,kfa,kga] at hK
 go_wp2_with fail
 exact bodyPost_ret (v:=V3 r1 r2 r3) (by simp [results,Tryz.results267,go_sem,hK,World.cell?_setCell_other,World.cell?_setCell_same']) rfl ⟨_,_,_,rfl,by rw [h1,h2,h3];rfl,(by repeat' (first | exact Below.refl _ _ | assumption | exact Nat.le_refl _ | refine Below.drew ?_ | refine below_drewN ?_ _ | refine Below.alloc ?_ (by first | omega | (simp;done) | (simp;omega)) _ | refine Below.setCell ?_ (by first | (simp;done) | (simp;omega) | omega) _ | refine below_step ?_ (by assumption)))⟩

set_option maxRecDepth 100000 in
set_option maxHeartbeats 2000000 in
theorem s_cross_any (a b c d e f:Nat) (w:World) :
  Calls Tryz.prog 264 #[V3 a b c,V3 d e f] w (RetVv (crossV (cn .f32 a,cn .f32 b,cn .f32 c) (cn .f32 d,cn .f32 e,cn .f32 f)) w):=by
 go_enter Tryz.func264,Tryz.ntmps264
 go_upto_region 1 with fail
 generalize hW:((w.alloc (.cells #[F1 a,F1 b,F1 c] 38)).alloc (.cells #[F1 d,F1 e,F1 f] 38)).alloc (.cells #[F1 0,F1 0,F1 0] 38) = W1 at *
 have W1b:Below w.heap.size w W1:=by subst hW;exact (by repeat' (first | exact Below.refl _ _ | exact Nat.le_refl _ | refine below_drewN ?_ _ | refine Below.alloc ?_ (by simp <;> omega) _ | refine Below.setCell ?_ (by simp <;> omega) _ | refine below_step ?_ (by assumption)))
 have hkept:Kept [(⟨w.heap.size,0,none⟩,F1 a),(⟨w.heap.size,1,none⟩,F1 b),(⟨w.heap.size,2,none⟩,F1 c),(⟨w.heap.size + 1,0,none⟩,F1 d),(⟨w.heap.size + 1,1,none⟩,F1 e),(⟨w.heap.size + 1,2,none⟩,F1 f),(⟨w.heap.size + 1 + 1,0,none⟩,F1 0),(⟨w.heap.size + 1 + 1,1,none⟩,F1 0),(⟨w.heap.size + 1 + 1,2,none⟩,F1 0)] [⟨w.heap.size + 1 + 1,0,none⟩,⟨w.heap.size + 1 + 1,1,none⟩,⟨w.heap.size + 1 + 1,2,none⟩] W1:=by
  subst hW;simp only [Kept,ka,kb,kc,kd,ke,kfa,kga];(first | (go_simp;done) | (simp [World.cell?,World.frozen?,World.alloc,Array.getElem?_push];done))
 clear hW
 have hK:=hkept;simp only [Kept,ka,kb,kc,kd,ke,kfa,kga] at hK
 go_wp2_with (refine wp_bin rfl _ _ _ _ _ rfl _ _ _ rfl rfl rfl ?_;intro r n hr)
 exact bodyPost_ret (v:=.agg #[F1 _,F1 _,F1 _]) (by simp [results,Tryz.results264,go_sem,hK,World.cell?_setCell_other,World.cell?_setCell_same'];exact ⟨rfl,rfl,rfl⟩) rfl ⟨_,_,_,rfl,by simp only [crossV,crsF, *],(by repeat' (first | exact Below.refl _ _ | assumption | exact Nat.le_refl _ | refine Below.drew ?_ | refine below_drewN ?_ _ | refine Below.alloc ?_ (by first | omega | (simp;done) | (simp;omega)) _ | refine Below.setCell ?_ (by first | (simp;done) | (simp;omega) | omega) _ | refine below_step ?_ (by assumption)))⟩
end Go.Proofs.YtbiacfkiakddiaaGreat

namespace Go.Proofs.YtbiacfkiakddiaaGreat
open Go.RowKit Go.Fl
set_option maxRecDepth 100000 in
set_option maxHeartbeats 1000000 in
theorem vfin_any (x y z:Nat) (w:World) :
  Calls Tryz.prog 132 #[V3 x y z] w (fun e w' => e = .returned (.bool (vfin (cn .f32 x,cn .f32 y,cn .f32 z))) ∧ Below w.heap.size w w'):=by
 have hv:(!([x,y,z]:List Nat).any (fun x => !finP x)) = vfin (cn .f32 x,cn .f32 y,cn .f32 z):=by
  unfold vfin finB
  simp only [List.any_cons,List.any_nil,finP,Bool.or_false,Bool.not_or,Bool.not_not,Bool.and_assoc]
 go_enter Tryz.func132,Tryz.ntmps132
 go_wp2_with (go_at_call 204;refine (finite_any [x,y,z] (some ⟨_,0,none⟩) _ 0 3 _ (fun _ => rfl) ?_ (by simp)).mono ?_;(focus (intro i hi;have h3:i = 0 ∨ i = 1 ∨ i = 2:=(by simp at hi;omega);rcases h3 with rfl | rfl | rfl <;> simp));rintro _ w2 ⟨rfl,hb1⟩;rw [hv])
 go_ret
 exact ⟨rfl,(by repeat' (first | exact Below.refl _ _ | exact Nat.le_refl _ | refine below_drewN ?_ _ | refine Below.alloc ?_ (by simp <;> omega) _ | refine Below.setCell ?_ (by simp <;> omega) _ | refine below_step ?_ (by assumption)))⟩

set_option maxRecDepth 100000 in
set_option maxHeartbeats 1000000 in
theorem unit_any (x y z:Nat) (w:World) :
  Calls Tryz.prog 177 #[V3 x y z] w (RetV (unitF (cn .f32 x,cn .f32 y,cn .f32 z)).1 (unitF (cn .f32 x,cn .f32 y,cn .f32 z)).2.1 (unitF (cn .f32 x,cn .f32 y,cn .f32 z)).2.2 w):=by
 obtain ⟨U,hU⟩:∃ U,Hid (unitF (cn .f32 x,cn .f32 y,cn .f32 z) = U):=⟨_,rfl⟩
 rw [hU.out]
 go_enter Tryz.func177,Tryz.ntmps177
 go_wp2_with fail
 generalize hW:(w.alloc (.cells #[F1 x,F1 y,F1 z] 38)).alloc (.cells #[F1 0,F1 0,F1 0] 38) = W1 at *
 have W1b:Below w.heap.size w W1:=by subst hW;exact (by repeat' (first | exact Below.refl _ _ | exact Nat.le_refl _ | refine below_drewN ?_ _ | refine Below.alloc ?_ (by simp <;> omega) _ | refine Below.setCell ?_ (by simp <;> omega) _ | refine below_step ?_ (by assumption)))
 have hkept:Kept [(⟨w.heap.size,0,none⟩,F1 x),(⟨w.heap.size,1,none⟩,F1 y),(⟨w.heap.size,2,none⟩,F1 z),(⟨w.heap.size + 1,0,none⟩,F1 0),(⟨w.heap.size + 1,1,none⟩,F1 0),(⟨w.heap.size + 1,2,none⟩,F1 0)] [⟨w.heap.size + 1,0,none⟩,⟨w.heap.size + 1,1,none⟩,⟨w.heap.size + 1,2,none⟩] W1:=by
  subst hW;simp only [Kept,ka,kb,kc,kd,ke,kfa,kga];(first | (go_simp;done) | (simp [World.cell?,World.frozen?,World.alloc,Array.getElem?_push];done))
 clear hW
 have hK:=hkept;simp only [Kept,ka,kb,kc,kd,ke,kfa,kga] at hK
 go_upto_region 3 with (first | (go_at_call 250;refine (long_any _ _ _ _).mono ?_;rintro _ w2 ⟨r1,rfl,hr1,hb1⟩;have hkept:=keepT hkept hb1 rfl;clear hK;have hK:=hkept;simp only [Kept,ka,kb,kc,kd,ke,kfa,kga] at hK) | (refine wp_bin rfl _ _ _ _ _ rfl _ _ _ rfl rfl rfl ?_;intro r n hr))
 have e1:eqk .f32 (longF (cn .f32 x) (cn .f32 y) (cn .f32 z)) 0 = (FloatKind.f32.format.order r1 0 == some .eq):=by rw [← hr1,eqk,ord_r0]
 have e2:oneL (cn .f32 x,cn .f32 y,cn .f32 z) = cn .f32 r:=by rw [hr,hr1];rfl
 have hkept:=kept_drewN hkept n
 have W3b:=below_drewN (below_step W1b hb1) n
 clear hK hb1 W1b
 generalize w2.drewN n = w3 at *
 have hsz3:=W3b.size
 have hK:=hkept;simp only [Kept,ka,kb,kc,kd,ke,kfa,kga] at hK
 have hv:(!([r1,r]:List Nat).any (fun x => !finP x)) = (finB (cn .f32 r1) && finB (cn .f32 r)):=by
  unfold finB
  simp only [List.any_cons,List.any_nil,finP,Bool.or_false,Bool.not_or,Bool.not_not]
 have hUo:=hU.out
 unfold unitF at hUo
 simp only [e2] at hUo
 rw [← hr1] at hUo e1
 rw [e1] at hUo
 cases h0:(FloatKind.f32.format.order r1 0 == some .eq) <;> cases h1:(finB (cn .f32 r1) && finB (cn .f32 r))
 all_goals
  rw [h0,h1] at hUo
  simp only [Bool.or_true,Bool.true_or,Bool.or_false,Bool.false_or,Bool.and_true,Bool.and_false,Bool.not_true,Bool.not_false,Bool.false_eq_true,if_true,if_false] at hUo
  subst hUo
  rw [h1] at hv
  clear hU e1 e2
  go_wp2_with (first | (go_at_call 204;refine (finite_any [r1,r] (some ⟨_,0,none⟩) _ 0 2 _ (fun _ => rfl) ?_ (by simp)).mono ?_;(focus (intro i hi;have h3:i = 0 ∨ i = 1:=(by simp at hi;omega);rcases h3 with rfl | rfl <;> simp));rintro _ w3 ⟨rfl,hb1⟩;have hkept:=keepT (keep hkept ((Below.refl _ _).alloc (Nat.le_refl _) _)) hb1 rfl;clear hK;have hK:=hkept;simp only [Kept,ka,kb,kc,kd,ke,kfa,kga] at hK;rw [hv]) | (go_at_call 233;refine (scale_any _ _ _ _ _).mono ?_;rintro _ w4 ⟨s1,s2,s3,rfl,hs1,hs2,hs3,hb1⟩;have hkept:=keepT hkept hb1 rfl;clear hK;have hK:=hkept;simp only [Kept,ka,kb,kc,kd,ke,kfa,kga] at hK))
  first
   | exact bodyPost_ret (v:=V3 0 0 0) (by simp [results,Tryz.results177,go_sem,hK,World.cell?_setCell_other,World.cell?_setCell_same']) rfl ⟨_,_,_,rfl,cn_zero _,cn_zero _,cn_zero _,(by repeat' (first | exact Below.refl _ _ | assumption | exact Nat.le_refl _ | refine Below.drew ?_ | refine below_drewN ?_ _ | refine Below.alloc ?_ (by first | omega | (simp;done) | (simp;omega)) _ | refine Below.setCell ?_ (by first | (simp;done) | (simp;omega) | omega) _ | refine below_step ?_ (by assumption)))⟩
   | exact bodyPost_ret (v:=V3 s1 s2 s3) (by simp [results,Tryz.results177,go_sem,hK,World.cell?_setCell_other,World.cell?_setCell_same']) rfl ⟨_,_,_,rfl,hs1,hs2,hs3,(by repeat' (first | exact Below.refl _ _ | assumption | exact Nat.le_refl _ | refine Below.drew ?_ | refine below_drewN ?_ _ | refine Below.alloc ?_ (by first | omega | (simp;done) | (simp;omega)) _ | refine Below.setCell ?_ (by first | (simp;done) | (simp;omega) | omega) _ | refine below_step ?_ (by assumption)))⟩

set_option maxRecDepth 100000 in
set_option maxHeartbeats 1000000 in
theorem on_any (a b c d e f rb ro far:Nat) (w:World) (h:RayIn a b c d e f rb ro w) :
  Calls Tryz.prog 248 #[.pointer (some ⟨rb,ro,none⟩),F1 far] w (RetV (onF (cn .f32 a,cn .f32 b,cn .f32 c) (cn .f32 d,cn .f32 e,cn .f32 f) (cn .f32 far)).1 (onF (cn .f32 a,cn .f32 b,cn .f32 c) (cn .f32 d,cn .f32 e,cn .f32 f) (cn .f32 far)).2.1 (onF (cn .f32 a,cn .f32 b,cn .f32 c) (cn .f32 d,cn .f32 e,cn .f32 f) (cn .f32 far)).2.2 w):=by
 obtain ⟨U,hU⟩:∃ U,Hid (onF (cn .f32 a,cn .f32 b,cn .f32 c) (cn .f32 d,cn .f32 e,cn .f32 f) (cn .f32 far) = U):=⟨_,rfl⟩
 rw [hU.out]
 have hkept:=h.kept
 have hlt:=h.lt
 clear h
 go_enter Tryz.func248,Tryz.ntmps248
 go_upto_region 1 with fail
 have hbA:Below w.heap.size w (w.alloc (.cells #[F1 0,F1 0,F1 0] 38)):=(Below.refl _ _).alloc (Nat.le_refl _) _
 have hkept:=kept_app (keep hkept hbA) (show Kept [(⟨w.heap.size,0,none⟩,F1 0),(⟨w.heap.size,1,none⟩,F1 0),(⟨w.heap.size,2,none⟩,F1 0)] [⟨w.heap.size,0,none⟩,⟨w.heap.size,1,none⟩,⟨w.heap.size,2,none⟩] (w.alloc (.cells #[F1 0,F1 0,F1 0] 38)) by simp only [Kept,ka,kb,kc,kd,ke,kfa,kga];simp)
 generalize w.alloc (.cells #[F1 0,F1 0,F1 0] 38) = W1 at *
 refine Qr.wp_below 12 (by kernel_rfl) (by kernel_rfl) (PhiO 177 233 232) ?_
 repeat (first
  | (refine Qr.walk_plain rfl fun K hK => ?_;apply Qr.one_det;(focus (intro w' hw';have HK:=keep hkept hw';simp only [Kept,ka,kb,kc,kd,ke,kfa,kga] at HK;go_simp;first | done | rfl));go_simp;refine hK _ ?_;clear hK K)
  | (refine Qr.walk_plain rfl fun K hK => ?_;apply Qr.one_call;(focus (intro w' hw';go_simp;first | done | exact ⟨rfl,rfl⟩));(focus (intro w' hw'; go_at_call 177;refine (unit_any _ _ _ _).mono ?_;rintro _ w3 ⟨r1,r2,r3,rfl,hr1,hr2,hr3,hb1⟩;exact ⟨_,rfl,PhiO.unit _ _ _ _ _ _ hr1 hr2 hr3,below_step hw' (by assumption),by assumption⟩));intro v hv;cases hv;go_simp;refine hK _ ?_;clear hK K)
  | (refine Qr.walk_plain rfl fun K hK => ?_;apply Qr.one_call;(focus (intro w' hw';go_simp;first | done | exact ⟨rfl,rfl⟩));(focus (intro w' hw'; go_at_call 233;refine (scale_any _ _ _ _ _).mono ?_;rintro _ w3 ⟨r1,r2,r3,rfl,hr1,hr2,hr3,hb1⟩;exact ⟨_,rfl,PhiO.scale _ _ _ _ _ _ _ hr1 hr2 hr3,below_step hw' (by assumption),by assumption⟩));intro v hv;cases hv;go_simp;refine hK _ ?_;clear hK K)
  | (refine Qr.walk_plain rfl fun K hK => ?_;apply Qr.one_call;(focus (intro w' hw';go_simp;first | done | exact ⟨rfl,rfl⟩));(focus (intro w' hw'; go_at_call 232;refine (add_any _ _ _ _ _ _ _).mono ?_;rintro _ w3 ⟨r1,r2,r3,rfl,hr1,hr2,hr3,hb1⟩;exact ⟨_,rfl,PhiO.add _ _ _ _ _ _ _ _ _ hr1 hr2 hr3,below_step hw' (by assumption),by assumption⟩));intro v hv;cases hv;go_simp;refine hK _ ?_;clear hK K))
 rename_i a1 b1 c1 g1 g2 g3 a2 b2 c2 g4 g5 g6 a3 b3 c3 g7 g8 g9
 refine Qr.walk_nil fun w5 hw5 => ?_
 have W5b:=below_step hbA hw5
 have hkept:=keep hkept hw5
 have hK:=hkept;simp only [Kept,ka,kb,kc,kd,ke,kfa,kga] at hK
 have e1:(cn .f32 a3,cn .f32 b3,cn .f32 c3) = U:=by rw [g7,g8,g9,g4,g5,g6,g1,g2,g3,← hU.out];rfl
 clear g1 g2 g3 g4 g5 g6 g7 g8 g9
 go_wp2_with fail
 exact bodyPost_ret (v:=.agg #[F1 a3,F1 b3,F1 c3]) (by simp [results,Tryz.results248,go_sem,hK,World.cell?_setCell_other,World.cell?_setCell_same']) rfl ⟨_,_,_,rfl,congrArg (·.1) e1,congrArg (·.2.1) e1,congrArg (·.2.2) e1,(by repeat' (first | exact Below.refl _ _ | exact Nat.le_refl _ | refine Below.drew ?_ | refine below_drewN ?_ _ | refine Below.alloc ?_ (by simp <;> omega) _ | refine Below.setCell ?_ (by simp <;> omega) _ | refine below_step ?_ (by assumption)))⟩

set_option maxHeartbeats 400000 in
theorem isnan_any (a:Nat) (w:World) :
  Calls Tryz.prog 137 #[F1 a] w (fun e w' => e = .returned (.bool (!(FloatKind.f32.format.order a a == some .eq))) ∧ Below w.heap.size w w'):=by
 go_enter Tryz.func137,Tryz.ntmps137
 go_wp2_with fail
 go_ret
 exact ⟨rfl,(by repeat' (first | exact Below.refl _ _ | exact Nat.le_refl _ | refine below_drewN ?_ _ | refine Below.alloc ?_ (by simp <;> omega) _ | refine Below.setCell ?_ (by simp <;> omega) _ | refine below_step ?_ (by assumption)))⟩

set_option maxRecDepth 100000 in
set_option maxHeartbeats 1000000 in
theorem way_any (x y z:Nat) (w:World) :
  Calls Tryz.prog 246 #[V3 x y z] w (fun e w' => e = .returned (.bool (wayF (cn .f32 x,cn .f32 y,cn .f32 z))) ∧ Below w.heap.size w w'):=by
 obtain ⟨U,hU⟩:∃ U,Hid (wayF (cn .f32 x,cn .f32 y,cn .f32 z) = U):=⟨_,rfl⟩
 rw [hU.out]
 have hUo:=hU.out
 rw [way_eq] at hUo
 clear hU
 rcases way7 true (FloatKind.f32.format.order x x == some .eq) (FloatKind.f32.format.order y y == some .eq) (FloatKind.f32.format.order z z == some .eq) (FloatKind.f32.format.order x 0 != some .eq) (FloatKind.f32.format.order y 0 != some .eq) (FloatKind.f32.format.order z 0 != some .eq) with h1 | ⟨h1,h2⟩ | ⟨h1,h2,h3⟩ | ⟨h1,h2,h3,h4⟩ | ⟨h1,h2,h3,h4,h5⟩ | ⟨h1,h2,h3,h4,h5,h6⟩ | ⟨h1,h2,h3,h4,h5,h6,h7⟩ | ⟨h1,h2,h3,h4,h5,h6,h7⟩
 ·cases h1
 all_goals
  clear h1
  simp only [*,Bool.and_true,Bool.and_false,Bool.false_and,Bool.true_and,Bool.or_true,Bool.true_or,Bool.or_false,Bool.false_or] at hUo
  subst hUo
  go_enter Tryz.func246,Tryz.ntmps246
  go_wp2_with fail
  generalize hW:w.alloc (.cells #[F1 x,F1 y,F1 z] 38) = W1 at *
  have W1b:Below w.heap.size w W1:=by subst hW;exact (by repeat' (first | exact Below.refl _ _ | exact Nat.le_refl _ | refine below_drewN ?_ _ | refine Below.alloc ?_ (by simp <;> omega) _ | refine Below.setCell ?_ (by simp <;> omega) _ | refine below_step ?_ (by assumption)))
  have hkept:Kept [(⟨w.heap.size,0,none⟩,F1 x),(⟨w.heap.size,1,none⟩,F1 y),(⟨w.heap.size,2,none⟩,F1 z)] [] W1:=by
   subst hW;simp only [Kept,ka,kb,kc,kd,ke,kfa,kga];(first | (go_simp;done) | (simp [World.cell?,World.frozen?,World.alloc,Array.getElem?_push];done))
  clear hW
  have hK:=hkept;simp only [Kept,ka,kb,kc,kd,ke,kfa,kga] at hK
  go_wp2_with (go_at_call 137;refine (isnan_any _ _).mono ?_;rintro _ w4 ⟨rfl,hb1⟩;have hkept:=keepT hkept hb1 rfl;clear hK;have hK:=hkept;simp only [Kept,ka,kb,kc,kd,ke,kfa,kga] at hK;simp only [*,Bool.not_true,Bool.not_false])
  go_ret
  exact ⟨rfl,(by repeat' (first | exact Below.refl _ _ | exact Nat.le_refl _ | refine Below.drew ?_ | refine below_drewN ?_ _ | refine Below.alloc ?_ (by simp <;> omega) _ | refine Below.setCell ?_ (by simp <;> omega) _ | refine below_step ?_ (by assumption)))⟩

set_option maxRecDepth 100000 in
set_option maxHeartbeats 1000000 in
theorem ray_any (a b c d e f:Nat) (w:World) :
  Calls Tryz.prog 173 #[.agg #[F1 a,F1 b,F1 c,F1 d,F1 e,F1 f]] w (fun e' w' => e' = .returned (.bool (rayOk (cn .f32 a,cn .f32 b,cn .f32 c) (cn .f32 d,cn .f32 e,cn .f32 f))) ∧ Below w.heap.size w w'):=by
 obtain ⟨U,hU⟩:∃ U,Hid (rayOk (cn .f32 a,cn .f32 b,cn .f32 c) (cn .f32 d,cn .f32 e,cn .f32 f) = U):=⟨_,rfl⟩
 rw [hU.out]
 have hUo:=hU.out
 unfold rayOk at hUo
 clear hU
 cases h1:vfin (cn .f32 a,cn .f32 b,cn .f32 c)
 all_goals
  rw [h1] at hUo
  simp only [Bool.false_and,Bool.true_and] at hUo
  subst hUo
  go_enter Tryz.func173,Tryz.ntmps173
  go_wp2_with fail
  generalize hW:w.alloc (.cells #[F1 a,F1 b,F1 c,F1 d,F1 e,F1 f] 225) = W1 at *
  have W1b:Below w.heap.size w W1:=by subst hW;exact (by repeat' (first | exact Below.refl _ _ | exact Nat.le_refl _ | refine below_drewN ?_ _ | refine Below.alloc ?_ (by simp <;> omega) _ | refine Below.setCell ?_ (by simp <;> omega) _ | refine below_step ?_ (by assumption)))
  have hkept:Kept [(⟨w.heap.size,0,none⟩,F1 a),(⟨w.heap.size,1,none⟩,F1 b),(⟨w.heap.size,2,none⟩,F1 c),(⟨w.heap.size,3,none⟩,F1 d),(⟨w.heap.size,4,none⟩,F1 e),(⟨w.heap.size,5,none⟩,F1 f)] [] W1:=by
   subst hW;simp only [Kept,ka,kb,kc,kd,ke,kfa,kga];(first | (go_simp;done) | (simp [World.cell?,World.frozen?,World.alloc,Array.getElem?_push];done))
  clear hW
  have hK:=hkept;simp only [Kept,ka,kb,kc,kd,ke,kfa,kga] at hK
  go_wp2_with (first
   | (go_at_call 132;refine (vfin_any _ _ _ _).mono ?_;rintro _ w4 ⟨rfl,hb1⟩;have hkept:=keepT hkept hb1 rfl;clear hK;have hK:=hkept;simp only [Kept,ka,kb,kc,kd,ke,kfa,kga] at hK;rw [h1])
   | (go_at_call 177;refine (unit_any _ _ _ _).mono ?_;rintro _ w5 ⟨x,y,z,rfl,hx,hy,hz,hb1⟩;have hkept:=keepT hkept hb1 rfl;clear hK;have hK:=hkept;simp only [Kept,ka,kb,kc,kd,ke,kfa,kga] at hK)
   | (go_at_call 246;refine (way_any _ _ _ _).mono ?_;rintro _ w6 ⟨rfl,hb1⟩;have hkept:=keepT hkept hb1 rfl;clear hK;have hK:=hkept;simp only [Kept,ka,kb,kc,kd,ke,kfa,kga] at hK))
  go_ret
  first
   | exact ⟨rfl,(by repeat' (first | exact Below.refl _ _ | exact Nat.le_refl _ | refine Below.drew ?_ | refine below_drewN ?_ _ | refine Below.alloc ?_ (by simp <;> omega) _ | refine Below.setCell ?_ (by simp <;> omega) _ | refine below_step ?_ (by assumption)))⟩
   | exact ⟨by rw [show unitF (cn .f32 d,cn .f32 e,cn .f32 f) = (cn .f32 x,cn .f32 y,cn .f32 z) by rw [hx,hy,hz]],(by repeat' (first | exact Below.refl _ _ | exact Nat.le_refl _ | refine Below.drew ?_ | refine below_drewN ?_ _ | refine Below.alloc ?_ (by simp <;> omega) _ | refine Below.setCell ?_ (by simp <;> omega) _ | refine below_step ?_ (by assumption)))⟩

set_option maxRecDepth 100000 in
set_option maxHeartbeats 1000000 in
theorem mar_any (a b:Nat) (n:Int) (w:World) :
  Calls Tryz.prog 171 #[.agg #[F1 a,F1 b,.int .i64 n]] w (fun e' w' => e' = .returned (.bool (marOk (cn .f32 a) (cn .f32 b) n)) ∧ Below w.heap.size w w'):=by
 obtain ⟨U,hU⟩:∃ U,Hid (marOk (cn .f32 a) (cn .f32 b) n = U):=⟨_,rfl⟩
 rw [hU.out]
 have hUo:=hU.out
 rw [mar_eq] at hUo
 clear hU
 have hin:∀ w,Calls Tryz.prog 74 #[.int .i64 n,.int .i64 1,.int .i64 64] w (fun e w' => e = .returned (.bool (decide (1 ≤ n) && decide (n ≤ 64))) ∧ w = w'):=in_any n 1 64
 rcases way4 (rightP (cn .f32 a)) (eqk .f32 (B .sub (cn .f32 b) (cn .f32 b)) 0) ((FloatKind.f32.format.order b 0 == some .gt) || (FloatKind.f32.format.order b 0 == some .eq)) (decide (1 ≤ n) && decide (n ≤ 64)) with h1 | ⟨h1,h2⟩ | ⟨h1,h2,h3⟩ | ⟨h1,h2,h3,h4⟩ | ⟨h1,h2,h3,h4⟩
 all_goals
  simp only [*,Bool.and_true,Bool.and_false,Bool.false_and,Bool.true_and] at hUo
  subst hUo
  try rw [h4] at hin
  go_enter Tryz.func171,Tryz.ntmps171
  go_wp2_with fail
  generalize hW:w.alloc (.cells #[F1 a,F1 b,.int .i64 n] 84) = W1 at *
  have W1b:Below w.heap.size w W1:=by subst hW;exact (by repeat' (first | exact Below.refl _ _ | exact Nat.le_refl _ | refine below_drewN ?_ _ | refine Below.alloc ?_ (by simp <;> omega) _ | refine Below.setCell ?_ (by simp <;> omega) _ | refine below_step ?_ (by assumption)))
  have hkept:Kept [(⟨w.heap.size,0,none⟩,F1 a),(⟨w.heap.size,1,none⟩,F1 b),(⟨w.heap.size,2,none⟩,.int .i64 n)] [] W1:=by
   subst hW;simp only [Kept,ka,kb,kc,kd,ke,kfa,kga];(first | (go_simp;done) | (simp [World.cell?,World.frozen?,World.alloc,Array.getElem?_push];done))
  clear hW
  have hK:=hkept;simp only [Kept,ka,kb,kc,kd,ke,kfa,kga] at hK
  go_wp2_with (first
   | (go_at_call 89;refine (step_any _ _).mono ?_;rintro _ w4 ⟨rfl,hb1⟩;have hkept:=keepT hkept hb1 rfl;clear hK;have hK:=hkept;simp only [Kept,ka,kb,kc,kd,ke,kfa,kga] at hK;rw [h1])
   | (go_at_call 150;refine (fin_any _ _).mono ?_;rintro _ w4 ⟨rfl,hb1⟩;have hkept:=keepT hkept hb1 rfl;clear hK;have hK:=hkept;simp only [Kept,ka,kb,kc,kd,ke,kfa,kga] at hK;rw [h2])
   | (go_at_call 74;refine (hin _).mono ?_;rintro _ w4 ⟨rfl,rfl⟩))
  go_ret
  exact ⟨rfl,(by repeat' (first | exact Below.refl _ _ | exact Nat.le_refl _ | refine Below.drew ?_ | refine below_drewN ?_ _ | refine Below.alloc ?_ (by simp <;> omega) _ | refine Below.setCell ?_ (by simp <;> omega) _ | refine below_step ?_ (by assumption)))⟩
end Go.Proofs.YtbiacfkiakddiaaGreat
