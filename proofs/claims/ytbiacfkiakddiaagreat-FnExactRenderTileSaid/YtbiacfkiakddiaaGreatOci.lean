/-
 Lemmas: D15,D32.
-/
import Derived.Test.YtbiacfkiakddiaaGreatOcg
import Derived.Test.YtbiacfkiakddiaaGreatOch
set_option linter.unusedVariables false
set_option linter.unusedSimpArgs false
namespace Go.Proofs.YtbiacfkiakddiaaGreat
open Go.RowKit Go.Fl
theorem wid_eq {x y u v:Nat} (hu:cn .f64 u = wid (cn .f32 x)) (hv:cn .f64 v = wid (cn .f32 y)) (h:cn .f32 x = cn .f32 y):cn .f64 u = cn .f64 v:=by rw [hu,hv,h]

set_option maxRecDepth 100000 in
set_option maxHeartbeats 2000000 in
theorem eq_march (a b:Nat) (n:Int) (w:World) :
  Calls Tryz.prog 107 #[MarV a b n,MarV a b n] w (fun e w' => e = .returned (.bool true) ∧ Below w.heap.size w w'):=by
 go_enter Tryz.func107,Tryz.ntmps107
 go_upto_region 1 with fail
 generalize hW:(w.alloc (.cells #[F1 a,F1 b,.int .i64 n] 84)).alloc (.cells #[F1 a,F1 b,.int .i64 n] 84) = W1 at *
 have W1b:Below w.heap.size w W1:=by subst hW;exact (by repeat' (first | exact Below.refl _ _ | exact Nat.le_refl _ | refine below_drewN ?_ _ | refine Below.alloc ?_ (by simp <;> omega) _ | refine Below.setCell ?_ (by simp <;> omega) _ | refine below_step ?_ (by assumption)))
 have hkept:Kept [(⟨w.heap.size,0,none⟩,F1 a),(⟨w.heap.size,1,none⟩,F1 b),(⟨w.heap.size,2,none⟩,.int .i64 n),(⟨w.heap.size + 1,0,none⟩,F1 a),(⟨w.heap.size + 1,1,none⟩,F1 b),(⟨w.heap.size + 1,2,none⟩,.int .i64 n)] [] W1:=by
  subst hW;simp only [Kept,ka,kb,kc,kd,ke,kfa,kga];(first | (go_simp;done) | (simp [World.cell?,World.frozen?,World.alloc,Array.getElem?_push];done))
 clear hW
 have hK:=hkept;simp only [Kept,ka,kb,kc,kd,ke,kfa,kga] at hK
 go_wp2_with (first
  | (refine wp_wid rfl _ _ _ rfl _ rfl ?_ ?_ fitsW_all ?_;exact some_f32;exact Tryz.underlying89;intro r n hr)
  | (go_at_call 47;refine (same_float _ _ (wid_eq (by assumption) (by assumption) rfl) _).mono ?_;rintro _ w6 ⟨rfl,hb1⟩;have W1b:=below_step (below_drewN W1b _) hb1;have hkept:=keepT hkept hb1 rfl;clear hK;have hK:=hkept;simp only [Kept,ka,kb,kc,kd,ke,kfa,kga] at hK))
 go_ret
 exact ⟨rfl,W1b⟩

set_option maxRecDepth 100000 in
set_option maxHeartbeats 2000000 in
theorem eq_camera (a b c d e f wd:Nat) (nx ny:Int) (w:World) :
  Calls Tryz.prog 106 #[CamV a b c d e f wd nx ny,CamV a b c d e f wd nx ny] w (fun e w' => e = .returned (.bool true) ∧ Below w.heap.size w w'):=by
 go_enter Tryz.func106,Tryz.ntmps106
 go_upto_region 1 with fail
 generalize hW:(w.alloc (.cells #[F1 a,F1 b,F1 c,F1 d,F1 e,F1 f,F1 wd,.int .i64 nx,.int .i64 ny] 83)).alloc (.cells #[F1 a,F1 b,F1 c,F1 d,F1 e,F1 f,F1 wd,.int .i64 nx,.int .i64 ny] 83) = W1 at *
 have W1b:Below w.heap.size w W1:=by subst hW;exact (by repeat' (first | exact Below.refl _ _ | exact Nat.le_refl _ | refine below_drewN ?_ _ | refine Below.alloc ?_ (by simp <;> omega) _ | refine Below.setCell ?_ (by simp <;> omega) _ | refine below_step ?_ (by assumption)))
 have hkept:Kept [(⟨w.heap.size,0,none⟩,F1 a),(⟨w.heap.size,1,none⟩,F1 b),(⟨w.heap.size,2,none⟩,F1 c),(⟨w.heap.size,3,none⟩,F1 d),(⟨w.heap.size,4,none⟩,F1 e),(⟨w.heap.size,5,none⟩,F1 f),(⟨w.heap.size,6,none⟩,F1 wd),(⟨w.heap.size,7,none⟩,.int .i64 nx),(⟨w.heap.size,8,none⟩,.int .i64 ny),(⟨w.heap.size + 1,0,none⟩,F1 a),(⟨w.heap.size + 1,1,none⟩,F1 b),(⟨w.heap.size + 1,2,none⟩,F1 c),(⟨w.heap.size + 1,3,none⟩,F1 d),(⟨w.heap.size + 1,4,none⟩,F1 e),(⟨w.heap.size + 1,5,none⟩,F1 f),(⟨w.heap.size + 1,6,none⟩,F1 wd),(⟨w.heap.size + 1,7,none⟩,.int .i64 nx),(⟨w.heap.size + 1,8,none⟩,.int .i64 ny)] [] W1:=by
  subst hW;simp only [Kept,ka,kb,kc,kd,ke,kfa,kga];(first | (go_simp;done) | (simp [World.cell?,World.frozen?,World.alloc,Array.getElem?_push];done))
 clear hW
 have hK:=hkept;simp only [Kept,ka,kb,kc,kd,ke,kfa,kga] at hK
 have t1:True:=trivial
 go_wp2_with (first
  | (clear t1;go_at_call 86;refine (eq_vector a b c a b c rfl rfl rfl _).mono ?_;rintro _ w5 ⟨rfl,hb1⟩;have W1b:=below_step W1b hb1;have hkept:=keepT hkept hb1 rfl;clear hK;have hK:=hkept;simp only [Kept,ka,kb,kc,kd,ke,kfa,kga] at hK)
  | (go_at_call 86;refine (eq_vector d e f d e f rfl rfl rfl _).mono ?_;rintro _ w5 ⟨rfl,hb1⟩;have W1b:=below_step W1b hb1;have hkept:=keepT hkept hb1 rfl;clear hK;have hK:=hkept;simp only [Kept,ka,kb,kc,kd,ke,kfa,kga] at hK)
  | (refine wp_wid rfl _ _ _ rfl _ rfl ?_ ?_ fitsW_all ?_;exact some_f32;exact Tryz.underlying89;intro r n hr)
  | (go_at_call 47;refine (same_float _ _ (wid_eq (by assumption) (by assumption) rfl) _).mono ?_;rintro _ w6 ⟨rfl,hb1⟩;have W1b:=below_step (below_drewN W1b _) hb1;have hkept:=keepT hkept hb1 rfl;clear hK;have hK:=hkept;simp only [Kept,ka,kb,kc,kd,ke,kfa,kga] at hK))
 go_ret
 exact ⟨rfl,W1b⟩


set_option maxRecDepth 100000 in
set_option maxHeartbeats 4000000 in
theorem eq_view (ns:List PN) (G H a b c d e f wd:Nat) (nx ny:Int) (lx ly lz near most:Nat) (n:Int) (w:World)
  (heq:∀ w',Below w.heap.size w w' → Calls Tryz.prog 19 #[.agg #[.slice (some ⟨G,0,none⟩) ns.length ns.length],.agg #[.slice (some ⟨H,0,none⟩) ns.length ns.length]] w' (fun e w'' => e = .returned (.bool true) ∧ Below w'.heap.size w' w'')) :
  Calls Tryz.prog 48 #[.agg #[.slice (some ⟨G,0,none⟩) ns.length ns.length,F1 a,F1 b,F1 c,F1 d,F1 e,F1 f,F1 wd,.int .i64 nx,.int .i64 ny,F1 lx,F1 ly,F1 lz,F1 near,F1 most,.int .i64 n],.agg #[.slice (some ⟨H,0,none⟩) ns.length ns.length,F1 a,F1 b,F1 c,F1 d,F1 e,F1 f,F1 wd,.int .i64 nx,.int .i64 ny,F1 lx,F1 ly,F1 lz,F1 near,F1 most,.int .i64 n]] w (fun e w' => e = .returned (.bool true) ∧ Below w.heap.size w w'):=by
 go_enter Tryz.func48,Tryz.ntmps48
 go_upto_region 1 with fail
 generalize hW:(w.alloc (.cells #[.slice (some ⟨G,0,none⟩) ns.length ns.length,F1 a,F1 b,F1 c,F1 d,F1 e,F1 f,F1 wd,.int .i64 nx,.int .i64 ny,F1 lx,F1 ly,F1 lz,F1 near,F1 most,.int .i64 n] 86)).alloc (.cells #[.slice (some ⟨H,0,none⟩) ns.length ns.length,F1 a,F1 b,F1 c,F1 d,F1 e,F1 f,F1 wd,.int .i64 nx,.int .i64 ny,F1 lx,F1 ly,F1 lz,F1 near,F1 most,.int .i64 n] 86) = W1 at *
 have W1b:Below w.heap.size w W1:=by subst hW;exact (by repeat' (first | exact Below.refl _ _ | exact Nat.le_refl _ | refine below_drewN ?_ _ | refine Below.alloc ?_ (by simp <;> omega) _ | refine Below.setCell ?_ (by simp <;> omega) _ | refine below_step ?_ (by assumption)))
 have hkept:Kept [(⟨w.heap.size,0,none⟩,.slice (some ⟨G,0,none⟩) ns.length ns.length),(⟨w.heap.size,1,none⟩,F1 a),(⟨w.heap.size,2,none⟩,F1 b),(⟨w.heap.size,3,none⟩,F1 c),(⟨w.heap.size,4,none⟩,F1 d),(⟨w.heap.size,5,none⟩,F1 e),(⟨w.heap.size,6,none⟩,F1 f),(⟨w.heap.size,7,none⟩,F1 wd),(⟨w.heap.size,8,none⟩,.int .i64 nx),(⟨w.heap.size,9,none⟩,.int .i64 ny),(⟨w.heap.size,10,none⟩,F1 lx),(⟨w.heap.size,11,none⟩,F1 ly),(⟨w.heap.size,12,none⟩,F1 lz),(⟨w.heap.size,13,none⟩,F1 near),(⟨w.heap.size,14,none⟩,F1 most),(⟨w.heap.size,15,none⟩,.int .i64 n),(⟨w.heap.size + 1,0,none⟩,.slice (some ⟨H,0,none⟩) ns.length ns.length),(⟨w.heap.size + 1,1,none⟩,F1 a),(⟨w.heap.size + 1,2,none⟩,F1 b),(⟨w.heap.size + 1,3,none⟩,F1 c),(⟨w.heap.size + 1,4,none⟩,F1 d),(⟨w.heap.size + 1,5,none⟩,F1 e),(⟨w.heap.size + 1,6,none⟩,F1 f),(⟨w.heap.size + 1,7,none⟩,F1 wd),(⟨w.heap.size + 1,8,none⟩,.int .i64 nx),(⟨w.heap.size + 1,9,none⟩,.int .i64 ny),(⟨w.heap.size + 1,10,none⟩,F1 lx),(⟨w.heap.size + 1,11,none⟩,F1 ly),(⟨w.heap.size + 1,12,none⟩,F1 lz),(⟨w.heap.size + 1,13,none⟩,F1 near),(⟨w.heap.size + 1,14,none⟩,F1 most),(⟨w.heap.size + 1,15,none⟩,.int .i64 n)] [] W1:=by
  subst hW;simp only [Kept,ka,kb,kc,kd,ke,kfa,kga];(first | (go_simp;done) | (simp [World.cell?,World.frozen?,World.alloc,Array.getElem?_push];done))
 clear hW
 have hK:=hkept;simp only [Kept,ka,kb,kc,kd,ke,kfa,kga] at hK
 go_wp2_with (first
  | (go_at_call 19;refine (heq _ W1b).mono ?_;rintro _ w5 ⟨rfl,hb1⟩;have W1b:=below_step W1b hb1;have hkept:=keepT hkept hb1 rfl;clear hK;have hK:=hkept;simp only [Kept,ka,kb,kc,kd,ke,kfa,kga] at hK)
  | (go_at_call 106;refine (eq_camera _ _ _ _ _ _ _ _ _ _).mono ?_;rintro _ w5 ⟨rfl,hb1⟩;have W1b:=below_step W1b hb1;have hkept:=keepT hkept hb1 rfl;clear hK;have hK:=hkept;simp only [Kept,ka,kb,kc,kd,ke,kfa,kga] at hK)
  | (go_at_call 86;refine (eq_vector lx ly lz lx ly lz rfl rfl rfl _).mono ?_;rintro _ w5 ⟨rfl,hb1⟩;have W1b:=below_step W1b hb1;have hkept:=keepT hkept hb1 rfl;clear hK;have hK:=hkept;simp only [Kept,ka,kb,kc,kd,ke,kfa,kga] at hK)
  | (go_at_call 107;refine (eq_march _ _ _ _).mono ?_;rintro _ w5 ⟨rfl,hb1⟩;have W1b:=below_step W1b hb1;have hkept:=keepT hkept hb1 rfl;clear hK;have hK:=hkept;simp only [Kept,ka,kb,kc,kd,ke,kfa,kga] at hK))
 go_ret
 exact ⟨rfl,W1b⟩

set_option maxRecDepth 100000 in
set_option maxHeartbeats 2000000 in
theorem sz_view (ns:List PN) (bp:Option Addr) (nb no cap a b c d e f wd:Nat) (nx ny:Int) (lx ly lz near most:Nat) (n:Int) (w:World) (hns:NodesIn ns bp nb no w) :
  Calls Tryz.prog 43 #[.agg #[.slice bp ns.length cap,F1 a,F1 b,F1 c,F1 d,F1 e,F1 f,F1 wd,.int .i64 nx,.int .i64 ny,F1 lx,F1 ly,F1 lz,F1 near,F1 most,.int .i64 n],.int .i64 1048576] w (fun e w' => e = .returned (.int .i64 (szS ns 1048576)) ∧ Below w.heap.size w w'):=by
 have hsz:∀ w',Below w.heap.size w w' → Calls Tryz.prog 13 #[.agg #[.slice bp ns.length cap],.int .i64 1048576] w' (fun e w'' => e = .returned (.int .i64 (szS ns 1048576)) ∧ Below w'.heap.size w' w'') :=
  fun w' hb => sz_shape ns bp nb no cap 1048576 w' (hns.keep hb) (by omega)
 clear hns
 by_cases hneg:szS ns 1048576 < 0
 ·have hm:=szS_neg hneg
  rw [hm] at hsz ⊢
  clear hm hneg
  go_enter Tryz.func43,Tryz.ntmps43
  go_upto_region 1 with fail
  generalize hW:w.alloc (.cells #[.slice bp ns.length cap,F1 a,F1 b,F1 c,F1 d,F1 e,F1 f,F1 wd,.int .i64 nx,.int .i64 ny,F1 lx,F1 ly,F1 lz,F1 near,F1 most,.int .i64 n] 78) = W1 at *
  have W1b:Below w.heap.size w W1:=by subst hW;exact (by repeat' (first | exact Below.refl _ _ | exact Nat.le_refl _ | refine below_drewN ?_ _ | refine Below.alloc ?_ (by simp <;> omega) _ | refine Below.setCell ?_ (by simp <;> omega) _ | refine below_step ?_ (by assumption)))
  have hkept:Kept [(⟨w.heap.size,0,none⟩,.slice bp ns.length cap),(⟨w.heap.size,1,none⟩,F1 a),(⟨w.heap.size,2,none⟩,F1 b),(⟨w.heap.size,3,none⟩,F1 c),(⟨w.heap.size,4,none⟩,F1 d),(⟨w.heap.size,5,none⟩,F1 e),(⟨w.heap.size,6,none⟩,F1 f),(⟨w.heap.size,7,none⟩,F1 wd),(⟨w.heap.size,8,none⟩,.int .i64 nx),(⟨w.heap.size,9,none⟩,.int .i64 ny),(⟨w.heap.size,10,none⟩,F1 lx),(⟨w.heap.size,11,none⟩,F1 ly),(⟨w.heap.size,12,none⟩,F1 lz),(⟨w.heap.size,13,none⟩,F1 near),(⟨w.heap.size,14,none⟩,F1 most),(⟨w.heap.size,15,none⟩,.int .i64 n)] [] W1:=by
   subst hW;simp only [Kept,ka,kb,kc,kd,ke,kfa,kga];(first | (go_simp;done) | (simp [World.cell?,World.frozen?,World.alloc,Array.getElem?_push];done))
  clear hW
  have hK:=hkept;simp only [Kept,ka,kb,kc,kd,ke,kfa,kga] at hK
  go_wp2_with (go_at_call 13;refine (hsz _ W1b).mono ?_;rintro _ w5 ⟨rfl,hb1⟩;have W1b:=below_step W1b hb1)
  go_ret
  exact ⟨rfl,W1b⟩
 ·have hp:0 ≤ szS ns 1048576:=by omega
  generalize szS ns 1048576 = sz at *
  go_enter Tryz.func43,Tryz.ntmps43
  go_upto_region 1 with fail
  generalize hW:w.alloc (.cells #[.slice bp ns.length cap,F1 a,F1 b,F1 c,F1 d,F1 e,F1 f,F1 wd,.int .i64 nx,.int .i64 ny,F1 lx,F1 ly,F1 lz,F1 near,F1 most,.int .i64 n] 78) = W1 at *
  have W1b:Below w.heap.size w W1:=by subst hW;exact (by repeat' (first | exact Below.refl _ _ | exact Nat.le_refl _ | refine below_drewN ?_ _ | refine Below.alloc ?_ (by simp <;> omega) _ | refine Below.setCell ?_ (by simp <;> omega) _ | refine below_step ?_ (by assumption)))
  have hkept:Kept [(⟨w.heap.size,0,none⟩,.slice bp ns.length cap),(⟨w.heap.size,1,none⟩,F1 a),(⟨w.heap.size,2,none⟩,F1 b),(⟨w.heap.size,3,none⟩,F1 c),(⟨w.heap.size,4,none⟩,F1 d),(⟨w.heap.size,5,none⟩,F1 e),(⟨w.heap.size,6,none⟩,F1 f),(⟨w.heap.size,7,none⟩,F1 wd),(⟨w.heap.size,8,none⟩,.int .i64 nx),(⟨w.heap.size,9,none⟩,.int .i64 ny),(⟨w.heap.size,10,none⟩,F1 lx),(⟨w.heap.size,11,none⟩,F1 ly),(⟨w.heap.size,12,none⟩,F1 lz),(⟨w.heap.size,13,none⟩,F1 near),(⟨w.heap.size,14,none⟩,F1 most),(⟨w.heap.size,15,none⟩,.int .i64 n)] [] W1:=by
   subst hW;simp only [Kept,ka,kb,kc,kd,ke,kfa,kga];(first | (go_simp;done) | (simp [World.cell?,World.frozen?,World.alloc,Array.getElem?_push];done))
  clear hW
  have hK:=hkept;simp only [Kept,ka,kb,kc,kd,ke,kfa,kga] at hK
  go_wp2_with (go_at_call 13;refine (hsz _ W1b).mono ?_;rintro _ w5 ⟨rfl,hb1⟩;have W1b:=below_step W1b hb1)
  go_ret
  exact ⟨rfl,W1b⟩
end Go.Proofs.YtbiacfkiakddiaaGreat

namespace Go.Proofs.YtbiacfkiakddiaaGreat
open Go.RowKit Go.Fl
set_option maxRecDepth 100000 in
set_option maxHeartbeats 8000000 in
theorem walk_renderview (ns:List PN) (bp:Option Addr) (cap a b c d e f wd:Nat) (nx ny:Int) (lx ly lz near most:Nat) (st:Int) (w:World) (sz:Int) (hpos:0 ≤ sz) (bv:Bool) (L:List UInt8)
  (hsz:∀ w',Below w.heap.size w w' → Calls Tryz.prog 43 #[.agg #[.slice bp ns.length cap,F1 a,F1 b,F1 c,F1 d,F1 e,F1 f,F1 wd,.int .i64 nx,.int .i64 ny,F1 lx,F1 ly,F1 lz,F1 near,F1 most,.int .i64 st],.int .i64 1048576] w' (fun e w'' => e = .returned (.int .i64 sz) ∧ Below w'.heap.size w' w''))
  (hto:∀ w',Below w.heap.size w w' → Calls Tryz.prog 45 #[.agg #[.slice bp ns.length cap,F1 a,F1 b,F1 c,F1 d,F1 e,F1 f,F1 wd,.int .i64 nx,.int .i64 ny,F1 lx,F1 ly,F1 lz,F1 near,F1 most,.int .i64 st]] w' (RetVw ns a b c d e f wd nx ny lx ly lz near most st w'))
  (hspec:∀ G (w':World),(∀ i (h:i < ns.length),NodeNew ns[i] G (0 + i * 4) w') → Calls Tryz.prog 49 #[.agg #[.slice (some ⟨G,0,none⟩) ns.length ns.length,F1 a,F1 b,F1 c,F1 d,F1 e,F1 f,F1 wd,.int .i64 nx,.int .i64 ny,F1 lx,F1 ly,F1 lz,F1 near,F1 most,.int .i64 st]] w' (fun e' w'' => e' = .returned (.tuple #[.string ⟨L.toArray⟩,.bool bv]) ∧ Below w'.heap.size w' w''))
  (himpl:∀ G (w':World),(∀ i (h:i < ns.length),NodeNew ns[i] G (0 + i * 4) w') → Calls Tryz.prog 50 #[.agg #[.slice (some ⟨G,0,none⟩) ns.length ns.length,F1 a,F1 b,F1 c,F1 d,F1 e,F1 f,F1 wd,.int .i64 nx,.int .i64 ny,F1 lx,F1 ly,F1 lz,F1 near,F1 most,.int .i64 st]] w' (fun e' w'' => e' = .returned (.tuple #[.string ⟨L.toArray⟩,.bool bv]) ∧ Below w'.heap.size w' w''))
  (heq:∀ G H (w':World),(∀ i (h:i < ns.length),NodeNew ns[i] G (0 + i * 4) w') → (∀ i (h:i < ns.length),NodeNew ns[i] H (0 + i * 4) w') → Calls Tryz.prog 48 #[.agg #[.slice (some ⟨G,0,none⟩) ns.length ns.length,F1 a,F1 b,F1 c,F1 d,F1 e,F1 f,F1 wd,.int .i64 nx,.int .i64 ny,F1 lx,F1 ly,F1 lz,F1 near,F1 most,.int .i64 st],.agg #[.slice (some ⟨H,0,none⟩) ns.length ns.length,F1 a,F1 b,F1 c,F1 d,F1 e,F1 f,F1 wd,.int .i64 nx,.int .i64 ny,F1 lx,F1 ly,F1 lz,F1 near,F1 most,.int .i64 st]] w' (fun e w'' => e = .returned (.bool true) ∧ Below w'.heap.size w' w'')) :
  Calls Tryz.prog 9 #[.agg #[.slice bp ns.length cap,F1 a,F1 b,F1 c,F1 d,F1 e,F1 f,F1 wd,.int .i64 nx,.int .i64 ny,F1 lx,F1 ly,F1 lz,F1 near,F1 most,.int .i64 st]] w (fun e' w' => e' = .returned (.bool true) ∧ Below w.heap.size w w'):=by
 go_enter Tryz.func9,Tryz.ntmps9
 go_upto_region 2 with fail
 generalize hW:w.alloc (.cells #[.slice bp ns.length cap,F1 a,F1 b,F1 c,F1 d,F1 e,F1 f,F1 wd,.int .i64 nx,.int .i64 ny,F1 lx,F1 ly,F1 lz,F1 near,F1 most,.int .i64 st] 78) = W1 at *
 have W1b:Below w.heap.size w W1:=by subst hW;exact (by repeat' (first | exact Below.refl _ _ | exact Nat.le_refl _ | refine below_drewN ?_ _ | refine Below.alloc ?_ (by simp <;> omega) _ | refine Below.setCell ?_ (by simp <;> omega) _ | refine below_step ?_ (by assumption)))
 have hkept:Kept [(⟨w.heap.size,0,none⟩,.slice bp ns.length cap),(⟨w.heap.size,1,none⟩,F1 a),(⟨w.heap.size,2,none⟩,F1 b),(⟨w.heap.size,3,none⟩,F1 c),(⟨w.heap.size,4,none⟩,F1 d),(⟨w.heap.size,5,none⟩,F1 e),(⟨w.heap.size,6,none⟩,F1 f),(⟨w.heap.size,7,none⟩,F1 wd),(⟨w.heap.size,8,none⟩,.int .i64 nx),(⟨w.heap.size,9,none⟩,.int .i64 ny),(⟨w.heap.size,10,none⟩,F1 lx),(⟨w.heap.size,11,none⟩,F1 ly),(⟨w.heap.size,12,none⟩,F1 lz),(⟨w.heap.size,13,none⟩,F1 near),(⟨w.heap.size,14,none⟩,F1 most),(⟨w.heap.size,15,none⟩,.int .i64 st)] [] W1:=by
  subst hW;simp only [Kept,ka,kb,kc,kd,ke,kfa,kga];(first | (go_simp;done) | (simp [World.cell?,World.frozen?,World.alloc,Array.getElem?_push];done))
 clear hW
 have hK:=hkept;simp only [Kept,ka,kb,kc,kd,ke,kfa,kga] at hK
 go_upto_region 6 with (first
  | (go_at_call 43;refine (hsz _ W1b).mono ?_;rintro _ w2 ⟨rfl,hb1⟩;have W1b:=below_step W1b hb1;have hkept:=keepT hkept hb1 rfl;clear hK;have hK:=hkept;simp only [Kept,ka,kb,kc,kd,ke,kfa,kga] at hK)
  | (go_at_call 45;refine (hto _ W1b).mono ?_;rintro _ w3 ⟨G,rfl,hnewG,hG,hb1⟩;have W1b:=below_step W1b hb1;have hkept:=keepT hkept hb1 rfl;clear hK;have hK:=hkept;simp only [Kept,ka,kb,kc,kd,ke,kfa,kga] at hK)
  | (go_at_call 49;refine (hspec _ _ hnewG).mono ?_;rintro _ w4 ⟨rfl,hb1⟩;have W1b:=below_step W1b hb1;have hkept:=keepT hkept hb1 rfl;clear hK;have hK:=hkept;simp only [Kept,ka,kb,kc,kd,ke,kfa,kga] at hK))
 clear hnewG hG
 as_aux_lemma =>
  go_upto_region 7 with (go_at_call 45;refine (hto _ W1b).mono ?_;rintro _ w5 ⟨H,rfl,hnewH,hH,hb1⟩)
  have hb2:Below w5.heap.size w5 (w5.alloc (.cells #[.slice (some ⟨H,0,none⟩) ns.length ns.length,F1 a,F1 b,F1 c,F1 d,F1 e,F1 f,F1 wd,.int .i64 nx,.int .i64 ny,F1 lx,F1 ly,F1 lz,F1 near,F1 most,.int .i64 st] 86)):=(Below.refl _ _).alloc (Nat.le_refl _) _
  have hkept:=kept_app (keep (keep hkept hb1) hb2) (show Kept [(⟨w5.heap.size,0,none⟩,.slice (some ⟨H,0,none⟩) ns.length ns.length),(⟨w5.heap.size,1,none⟩,F1 a),(⟨w5.heap.size,2,none⟩,F1 b),(⟨w5.heap.size,3,none⟩,F1 c),(⟨w5.heap.size,4,none⟩,F1 d),(⟨w5.heap.size,5,none⟩,F1 e),(⟨w5.heap.size,6,none⟩,F1 f),(⟨w5.heap.size,7,none⟩,F1 wd),(⟨w5.heap.size,8,none⟩,.int .i64 nx),(⟨w5.heap.size,9,none⟩,.int .i64 ny),(⟨w5.heap.size,10,none⟩,F1 lx),(⟨w5.heap.size,11,none⟩,F1 ly),(⟨w5.heap.size,12,none⟩,F1 lz),(⟨w5.heap.size,13,none⟩,F1 near),(⟨w5.heap.size,14,none⟩,F1 most),(⟨w5.heap.size,15,none⟩,.int .i64 st)] [] (w5.alloc (.cells #[.slice (some ⟨H,0,none⟩) ns.length ns.length,F1 a,F1 b,F1 c,F1 d,F1 e,F1 f,F1 wd,.int .i64 nx,.int .i64 ny,F1 lx,F1 ly,F1 lz,F1 near,F1 most,.int .i64 st] 86)) by simp only [Kept,ka,kb,kc,kd,ke,kfa,kga];simp)
  have W1b:=below_step (below_step W1b hb1) hb2
  have hnewH:=fun i h => NodeNew.keep (hnewH i h) hb2
  clear hK hb1 hH
  generalize w5.alloc (.cells #[.slice (some ⟨H,0,none⟩) ns.length ns.length,F1 a,F1 b,F1 c,F1 d,F1 e,F1 f,F1 wd,.int .i64 nx,.int .i64 ny,F1 lx,F1 ly,F1 lz,F1 near,F1 most,.int .i64 st] 86) = w6 at *
  generalize w5.heap.size = gv at *
  clear hb2
  have hK:=hkept;simp only [Kept,ka,kb,kc,kd,ke,kfa,kga] at hK
  have hbb:(bv != bv) = false:=by simp
  go_upto_region 10 with (first
   | (go_at_call 50;refine (himpl _ _ hnewH).mono ?_;rintro _ w7 ⟨rfl,hb1⟩;have W1b:=below_step W1b hb1;have hnewH:=fun i h => NodeNew.keep (hnewH i h) hb1;have hkept:=keepT hkept hb1 rfl;clear hK;have hK:=hkept;simp only [Kept,ka,kb,kc,kd,ke,kfa,kga] at hK))
  as_aux_lemma =>
   clear hK himpl
   try clear hb1 hsz hspec
   refine Qg.wp_gd_all (by kernel_rfl) (by kernel_rfl) (PhiVw ns a b c d e f wd nx ny lx ly lz near most st) (GdW ns [] 37 (VwN ns)) [] (gdw_lasts _ _ _ VwN.keep) (gdw_start (by intro d hd;simp at hd;rcases hd with rfl;rfl)) ?_
   intro hC0
   repeat (first
     | (refine Qg.walk_step fun K hK => ?_;apply Qg.one_det hC0 (by intro d hd;cases hd;decide) rfl;(focus (intro w' hw';have HK:=keep hkept hw';simp only [Kept,ka,kb,kc,kd,ke,kfa,kga] at HK;go_simp;first | done | rfl));(focus (intro w' hw' hs;exact gdw_no (by decide) (by decide)));go_simp;refine hK _ ?_;clear hK K)
     | (refine Qg.walk_step fun K hK => ?_;apply Qg.one_call _ _ hC0 (by intro d hd;cases hd;decide) rfl;(focus (intro w' hw';go_simp;first | done | exact ⟨rfl,rfl⟩));(focus (apply Exists.intro;(constructor <;> first | exact (0:Nat) | exact undef)));(focus (intro w' hw' hs; go_at_call 45;(refine (hto _ (below_step W1b hw')).mono ?_);rintro _ wA ⟨G,rfl,hnew,hG,hb1⟩;exact ⟨_,rfl,PhiVw.view _ _,gdw_res (by decide) (VwN.mk hnew),below_step hw' hb1,hb1⟩));intro v hv;cases hv;go_simp;refine hK _ ?_;clear hK K)
     | (refine Qg.walk_step fun K hK => ?_;apply Qg.one_call _ _ hC0 (by intro d hd;cases hd;decide) rfl;(focus (intro w' hw';go_simp;first | done | exact ⟨rfl,rfl⟩));(focus (apply Exists.intro;(constructor <;> first | exact (0:Nat) | exact undef)));(focus (intro w' hw' hs; have hq:=(hs 37 (of_decide_eq_true (by kernel_rfl))).2 rfl;rcases hq with hq | hq;(focus (cases hq));go_at_call 48;refine (heq _ _ _ (fun i h => (hnewH i h).keep hw') (hq _ _ _ _ _ _ _ _ _ _ _ _ _ _ _ _ rfl)).mono ?_;rintro _ wA ⟨rfl,hb1⟩;exact ⟨_,rfl,PhiVw.eqv _,gdw_no (by decide) (by decide),below_step hw' hb1,hb1⟩));intro v hv;cases hv;go_simp;refine hK _ ?_;clear hK K))
   refine Qg.walk_nil fun w11 hw11 hE => ?_
   have W1b:=below_step W1b hw11
   clear hE hC0
   go_wp2_with fail
   go_ret
   exact ⟨rfl,W1b⟩

set_option maxRecDepth 100000 in
set_option maxHeartbeats 8000000 in
theorem law_renderview (ns:List PN) (bp:Option Addr) (nb no cap a b c d e f wd:Nat) (nx ny:Int) (lx ly lz near most:Nat) (st:Int) (w:World) (hns:NodesIn ns bp nb no w) :
  Calls Tryz.prog 9 #[.agg #[.slice bp ns.length cap,F1 a,F1 b,F1 c,F1 d,F1 e,F1 f,F1 wd,.int .i64 nx,.int .i64 ny,F1 lx,F1 ly,F1 lz,F1 near,F1 most,.int .i64 st]] w (fun e' w' => e' = .returned (.bool true) ∧ Below w.heap.size w w'):=by
 have hsz:∀ w',Below w.heap.size w w' → Calls Tryz.prog 43 #[.agg #[.slice bp ns.length cap,F1 a,F1 b,F1 c,F1 d,F1 e,F1 f,F1 wd,.int .i64 nx,.int .i64 ny,F1 lx,F1 ly,F1 lz,F1 near,F1 most,.int .i64 st],.int .i64 1048576] w' (fun e w'' => e = .returned (.int .i64 (szS ns 1048576)) ∧ Below w'.heap.size w' w'') :=
  fun w' hb => sz_view ns bp nb no cap a b c d e f wd nx ny lx ly lz near most st w' (hns.keep hb)
 by_cases hneg:szS ns 1048576 < 0
 ·have hm:=szS_neg hneg
  rw [hm] at hsz
  clear hm hneg hns
  go_enter Tryz.func9,Tryz.ntmps9
  go_upto_region 2 with fail
  generalize hW:w.alloc (.cells #[.slice bp ns.length cap,F1 a,F1 b,F1 c,F1 d,F1 e,F1 f,F1 wd,.int .i64 nx,.int .i64 ny,F1 lx,F1 ly,F1 lz,F1 near,F1 most,.int .i64 st] 78) = W1 at *
  have W1b:Below w.heap.size w W1:=by subst hW;exact (by repeat' (first | exact Below.refl _ _ | exact Nat.le_refl _ | refine below_drewN ?_ _ | refine Below.alloc ?_ (by simp <;> omega) _ | refine Below.setCell ?_ (by simp <;> omega) _ | refine below_step ?_ (by assumption)))
  have hkept:Kept [(⟨w.heap.size,0,none⟩,.slice bp ns.length cap),(⟨w.heap.size,1,none⟩,F1 a),(⟨w.heap.size,2,none⟩,F1 b),(⟨w.heap.size,3,none⟩,F1 c),(⟨w.heap.size,4,none⟩,F1 d),(⟨w.heap.size,5,none⟩,F1 e),(⟨w.heap.size,6,none⟩,F1 f),(⟨w.heap.size,7,none⟩,F1 wd),(⟨w.heap.size,8,none⟩,.int .i64 nx),(⟨w.heap.size,9,none⟩,.int .i64 ny),(⟨w.heap.size,10,none⟩,F1 lx),(⟨w.heap.size,11,none⟩,F1 ly),(⟨w.heap.size,12,none⟩,F1 lz),(⟨w.heap.size,13,none⟩,F1 near),(⟨w.heap.size,14,none⟩,F1 most),(⟨w.heap.size,15,none⟩,.int .i64 st)] [] W1:=by
   subst hW;simp only [Kept,ka,kb,kc,kd,ke,kfa,kga];(first | (go_simp;done) | (simp [World.cell?,World.frozen?,World.alloc,Array.getElem?_push];done))
  clear hW
  have hK:=hkept;simp only [Kept,ka,kb,kc,kd,ke,kfa,kga] at hK
  go_wp2_with (go_at_call 43;refine (hsz _ W1b).mono ?_;rintro _ w2 ⟨rfl,hb2⟩;have W1b:=below_step W1b hb2)
  go_ret
  exact ⟨rfl,W1b⟩
 obtain ⟨hsm,hnsm⟩:=szS_small (by omega) (by omega) hneg
 have hpos:0 ≤ szS ns 1048576:=by omega
 clear hneg
 generalize szS ns 1048576 = sz at *
 have hnum:∀ n ∈ ns,n.nums.length < 10000000:=fun n hn => by have:=hnsm n hn;omega
 have hl7:ns.length < 10000000:=by omega
 have hto:∀ w',Below w.heap.size w w' → Calls Tryz.prog 45 #[.agg #[.slice bp ns.length cap,F1 a,F1 b,F1 c,F1 d,F1 e,F1 f,F1 wd,.int .i64 nx,.int .i64 ny,F1 lx,F1 ly,F1 lz,F1 near,F1 most,.int .i64 st]] w' (RetVw ns a b c d e f wd nx ny lx ly lz near most st w'):=fun w' hb => to_view ns bp cap a b c d e f wd nx ny lx ly lz near most st w' (fun w'' hb' => to_shape ns hsm hnsm bp nb no cap w'' (hns.keep (below_step hb hb')))
 have hsp:=fun G w' hn => s_rview_any ns hnum G 0 ns.length a b c d e f wd nx ny lx ly lz near most st (some ⟨G,0,none⟩) w' (fun _ => rfl) hn hl7 (fun h => (valid_ok (by rw [← valid_same];exact h)).2)
 have him:=fun G w' hn => rview_any ns hnum G 0 ns.length a b c d e f wd nx ny lx ly lz near most st (some ⟨G,0,none⟩) w' (fun _ => rfl) hn hl7
 rw [valid_same] at hsp
 unfold RetPic at hsp him
 simp only [pic_same] at hsp
 generalize (viewOk (validF ns) (cv a b c) (cv d e f) (cn .f32 wd) nx ny (cv lx ly lz) (cn .f32 near) (cn .f32 most) st && tileOk nx ny 0 0 nx ny) = bv at *
 generalize (if bv = true then picB (fun x y => shadeF (topF ns) capF (fun F T mo => marchGo (topF ns) F T (slopeF ns) (cn .f32 near) mo st.toNat 1 0) (cv a b c) (wayP (cv a b c) (cv d e f) (cn .f32 wd) nx ny x y) (cv lx ly lz) (cn .f32 near) (cn .f32 most)) 0 0 nx.toNat ny.toNat else []) = L at *
 have hspec:∀ G (w':World),(∀ i (h:i < ns.length),NodeNew ns[i] G (0 + i * 4) w') → Calls Tryz.prog 49 #[.agg #[.slice (some ⟨G,0,none⟩) ns.length ns.length,F1 a,F1 b,F1 c,F1 d,F1 e,F1 f,F1 wd,.int .i64 nx,.int .i64 ny,F1 lx,F1 ly,F1 lz,F1 near,F1 most,.int .i64 st]] w' (fun e' w'' => e' = .returned (.tuple #[.string ⟨L.toArray⟩,.bool bv]) ∧ Below w'.heap.size w' w''):=fun G w' hn => hsp G w' (fun i h => (hn i h).into)
 have himpl:∀ G (w':World),(∀ i (h:i < ns.length),NodeNew ns[i] G (0 + i * 4) w') → Calls Tryz.prog 50 #[.agg #[.slice (some ⟨G,0,none⟩) ns.length ns.length,F1 a,F1 b,F1 c,F1 d,F1 e,F1 f,F1 wd,.int .i64 nx,.int .i64 ny,F1 lx,F1 ly,F1 lz,F1 near,F1 most,.int .i64 st]] w' (fun e' w'' => e' = .returned (.tuple #[.string ⟨L.toArray⟩,.bool bv]) ∧ Below w'.heap.size w' w''):=fun G w' hn => him G w' (fun i h => (hn i h).into)
 clear hsp him
 have heq:∀ G H (w':World),(∀ i (h:i < ns.length),NodeNew ns[i] G (0 + i * 4) w') → (∀ i (h:i < ns.length),NodeNew ns[i] H (0 + i * 4) w') → Calls Tryz.prog 48 #[.agg #[.slice (some ⟨G,0,none⟩) ns.length ns.length,F1 a,F1 b,F1 c,F1 d,F1 e,F1 f,F1 wd,.int .i64 nx,.int .i64 ny,F1 lx,F1 ly,F1 lz,F1 near,F1 most,.int .i64 st],.agg #[.slice (some ⟨H,0,none⟩) ns.length ns.length,F1 a,F1 b,F1 c,F1 d,F1 e,F1 f,F1 wd,.int .i64 nx,.int .i64 ny,F1 lx,F1 ly,F1 lz,F1 near,F1 most,.int .i64 st]] w' (fun e w'' => e = .returned (.bool true) ∧ Below w'.heap.size w' w'') :=
  fun G H w' h1 h2 => eq_view ns G H a b c d e f wd nx ny lx ly lz near most st w' (fun w'' hb => eq_shape ns hsm hnsm G H _ _ w'' (fun i h => (h1 i h).keep hb) (fun i h => (h2 i h).keep hb))
 exact walk_renderview ns bp cap a b c d e f wd nx ny lx ly lz near most st w sz hpos bv L hsz hto hspec himpl heq
end Go.Proofs.YtbiacfkiakddiaaGreat
