/-
 Lemmas: V6,V7.
-/
import Derived.Test.YtbiacfkiakddiaaGreatMbc
set_option linter.unusedVariables false
set_option linter.unusedSimpArgs false
namespace Go.Proofs.YtbiacfkiakddiaaGreat
open Go.RowKit Go.Fl
theorem way7f (u p q r s t x:Bool):u = true ∨ (u = false ∧ p = false) ∨ (u = false ∧ p = true ∧ q = false) ∨ (u = false ∧ p = true ∧ q = true ∧ r = false) ∨ (u = false ∧ p = true ∧ q = true ∧ r = true ∧ s = false) ∨ (u = false ∧ p = true ∧ q = true ∧ r = true ∧ s = true ∧ t = false) ∨ (u = false ∧ p = true ∧ q = true ∧ r = true ∧ s = true ∧ t = true ∧ x = false) ∨ (u = false ∧ p = true ∧ q = true ∧ r = true ∧ s = true ∧ t = true ∧ x = true):=by
 cases u <;> cases p <;> cases q <;> cases r <;> cases s <;> cases t <;> cases x <;> simp

theorem pick_eq2 (lo hi A C:Nat) (x:Nat × Nat) (s:Nat):foldPick (cn .f32 lo) (cn .f32 hi) A C x s = if (FloatKind.f32.format.order lo hi == some .eq) then sizeR x else if ((FloatKind.f32.format.order lo 3397386240 == some .gt || FloatKind.f32.format.order lo 3397386240 == some .eq) && (FloatKind.f32.format.order lo 1249902592 == some .lt || FloatKind.f32.format.order lo 1249902592 == some .eq) && (FloatKind.f32.format.order hi 3397386240 == some .gt || FloatKind.f32.format.order hi 3397386240 == some .eq) && (FloatKind.f32.format.order hi 1249902592 == some .lt || FloatKind.f32.format.order hi 1249902592 == some .eq) && (finB A && finB C)) then (0,B .mul 1082130432 s) else (0,infw):=by
 unfold foldPick foldFar
 rw [Fl.gek_c (by decide +kernel),lek_c (by decide +kernel),Fl.gek_c (by decide +kernel),lek_c (by decide +kernel),eqk_cn,eqk]

theorem upon_bin {P:Program} {o:Oper} {a:Act} {K:Act → World → Prop} {Q:Exit → Act → World → Prop} {w:World} (op:BinOp) (t:TypeId) (k:FloatKind) (u v:Nat) (hop:arith op = true)
  (h:∀ r n,cn k r = bin op k (cn k u) (cn k v) → Oper.upon P o a K Q (.ok (.value (.float k r)) (w.drewN n))):Oper.upon P o a K Q (((binOp op t (.float k u) (.float k v)).run P w).andThen fun a w' => Result.ok (Next.value a) w'):=by
 obtain ⟨r,n,hr,hc⟩:=run_bin (P:=P) w op t k u v hop
 rw [hr]
 exact h r n hc


set_option maxRecDepth 100000 in
set_option maxHeartbeats 1000000 in
theorem s_foldr_any (a b v:Nat) (w:World) :
  Calls Tryz.prog 195 #[RgV a b,F1 v] w (RetR (foldRS (cn .f32 a,cn .f32 b) (cn .f32 v)) w):=by
 go_enter Tryz.func195,Tryz.ntmps195
 go_upto_region 1 with fail
 generalize hW:(w.alloc (.cells #[F1 a,F1 b] 118)).alloc (.cells #[F1 0,F1 0] 118) = W1 at *
 have W1b:Below w.heap.size w W1:=by subst hW;exact (by repeat' (first | exact Below.refl _ _ | exact Nat.le_refl _ | refine below_drewN ?_ _ | refine Below.alloc ?_ (by simp <;> omega) _ | refine Below.setCell ?_ (by simp <;> omega) _ | refine below_step ?_ (by assumption)))
 have hkept:Kept [(⟨w.heap.size,0,none⟩,F1 a),(⟨w.heap.size,1,none⟩,F1 b),(⟨w.heap.size + 1,0,none⟩,F1 0),(⟨w.heap.size + 1,1,none⟩,F1 0)] [⟨w.heap.size + 1,0,none⟩,⟨w.heap.size + 1,1,none⟩] W1:=by
  subst hW;simp only [Kept,ka,kb,kc,kd,ke,kf,kg];(first | (go_simp;done) | (simp [World.cell?,World.frozen?,World.alloc,Array.getElem?_push];done))
 clear hW
 have hK:=hkept;simp only [Kept,ka,kb,kc,kd,ke,kf,kg] at hK
 go_upto_region 2 with (refine wp_bin rfl _ _ _ _ _ rfl _ _ _ rfl rfl rfl ?_;intro r n hr)
 generalize r = m at *
 generalize n = n1 at *
 have hm:cn .f32 m = B .mul 1073741824 (cn .f32 v):=hr
 clear hr
 go_upto_region 3 with (first | (refine wp_entry rfl 255 _ _ rfl rfl _ ext_rte _ (run_whole _ _ _ _) ?_;rintro _ n ⟨r1,rfl,hr1⟩) | (refine wp_bin rfl _ _ _ _ _ rfl _ _ _ rfl rfl rfl ?_;intro r n hr) | (refine wp_wid rfl _ _ _ rfl _ rfl ?_ ?_ fitsW_all ?_;exact some_f32;exact Tryz.underlying89;intro r n hr) | (refine wp_nar rfl _ _ _ rfl _ rfl ?_ ?_ ?_ ?_;exact some_f64;exact Tryz.underlying25;(simp only [*];exact fits_near _);intro r2 n hr2))
 have hlo:cn .f32 r2 = nearF (B .quo (cn .f32 a) (cn .f32 m)):=by simp only [nearF, *]
 generalize r2 = lo at *
 go_upto_region 4 with (first | (refine wp_entry rfl 255 _ _ rfl rfl _ ext_rte _ (run_whole _ _ _ _) ?_;rintro _ n ⟨r1,rfl,hr1⟩) | (refine wp_bin rfl _ _ _ _ _ rfl _ _ _ rfl rfl rfl ?_;intro r n hr) | (refine wp_wid rfl _ _ _ rfl _ rfl ?_ ?_ fitsW_all ?_;exact some_f32;exact Tryz.underlying89;intro r n hr) | (refine wp_nar rfl _ _ _ rfl _ rfl ?_ ?_ ?_ ?_;exact some_f64;exact Tryz.underlying25;(simp only [*];exact fits_near _);intro r2 n hr2))
 have hhi:cn .f32 r2 = nearF (B .quo (cn .f32 b) (cn .f32 m)):=by simp only [nearF, *]
 generalize r2 = hi at *
 clear hr hr1 hr2
 have e0:foldRS (cn .f32 a,cn .f32 b) (cn .f32 v) = foldPick (cn .f32 lo) (cn .f32 hi) (B .mul (cn .f32 m) (cn .f32 lo)) (B .mul (cn .f32 m) (cn .f32 hi)) (B .sub (cn .f32 a) (B .mul (cn .f32 m) (cn .f32 lo)),B .sub (cn .f32 b) (B .mul (cn .f32 m) (cn .f32 lo))) (cn .f32 v):=by unfold foldRS foldF;simp only;rw [← hm,← hlo,← hhi]
 obtain ⟨U,hU⟩:∃ U,Hid (foldRS (cn .f32 a,cn .f32 b) (cn .f32 v) = U):=⟨_,rfl⟩
 have hUo:=hU.out
 rw [e0,pick_eq2] at hUo
 obtain ⟨FA,hFA⟩:∃ FA,Hid (eqk .f32 (B .sub (B .mul (cn .f32 m) (cn .f32 lo)) (B .mul (cn .f32 m) (cn .f32 lo))) 0 = FA):=⟨_,rfl⟩
 obtain ⟨FB,hFB⟩:∃ FB,Hid (eqk .f32 (B .sub (B .mul (cn .f32 m) (cn .f32 hi)) (B .mul (cn .f32 m) (cn .f32 hi))) 0 = FB):=⟨_,rfl⟩
 rw [show finB (B .mul (cn .f32 m) (cn .f32 lo)) = FA from hFA.out,show finB (B .mul (cn .f32 m) (cn .f32 hi)) = FB from hFB.out] at hUo
 clear e0 hlo hhi
 rcases way7f (FloatKind.f32.format.order lo hi == some .eq) (FloatKind.f32.format.order lo 3397386240 == some .gt || FloatKind.f32.format.order lo 3397386240 == some .eq) (FloatKind.f32.format.order lo 1249902592 == some .lt || FloatKind.f32.format.order lo 1249902592 == some .eq) (FloatKind.f32.format.order hi 3397386240 == some .gt || FloatKind.f32.format.order hi 3397386240 == some .eq) (FloatKind.f32.format.order hi 1249902592 == some .lt || FloatKind.f32.format.order hi 1249902592 == some .eq) FA FB with h1 | ⟨h1,h2⟩ | ⟨h1,h2,h3⟩ | ⟨h1,h2,h3,h4⟩ | ⟨h1,h2,h3,h4,h5⟩ | ⟨h1,h2,h3,h4,h5,h6⟩ | ⟨h1,h2,h3,h4,h5,h6,h7⟩ | ⟨h1,h2,h3,h4,h5,h6,h7⟩
 ·rw [h1,if_pos rfl] at hUo
  subst hUo
  go_upto_region 6 with (first | (refine wp_bin rfl _ _ _ _ _ rfl _ _ _ rfl rfl rfl ?_;intro r n hr) | (go_at_call 188;refine (s_one_any _ _).mono ?_;rintro _ w8 ⟨l2,u2,rfl,e2,hb1⟩;have W8b:=below_step (below_drewN W1b _) hb1;have hkept:=keepT hkept hb1 rfl;clear hK;have hK:=hkept;simp only [Kept,ka,kb,kc,kd,ke,kf,kg] at hK))
  have hbA:Below w8.heap.size w8 (w8.alloc (.cells #[F1 l2,F1 u2] 118)):=(Below.refl _ _).alloc (Nat.le_refl _) _
  have hkept:=kept_app (keep hkept hbA) (show Kept [(⟨w8.heap.size,0,none⟩,F1 l2),(⟨w8.heap.size,1,none⟩,F1 u2)] [] (w8.alloc (.cells #[F1 l2,F1 u2] 118)) by simp only [Kept,ka,kb,kc,kd,ke,kf,kg];simp)
  have W9b:=below_step W8b hbA
  generalize w8.alloc (.cells #[F1 l2,F1 u2] 118) = W9 at *
  clear hK
  have hK:=hkept;simp only [Kept,ka,kb,kc,kd,ke,kf,kg] at hK
  go_wp2_with (first | (go_at_call 187;refine (s_rless_any _ _ _ _ _).mono ?_;rintro _ w5 ⟨l3,u3,rfl,e3,hb1⟩;have W10b:=below_step W9b hb1;have hkept:=keepT hkept hb1 rfl;clear hK;have hK:=hkept;simp only [Kept,ka,kb,kc,kd,ke,kf,kg] at hK) | (go_at_call 194;refine (s_sizer_any _ _ _).mono ?_;rintro _ w7 ⟨l4,u4,rfl,e4,hb1⟩;have W11b:=below_step W10b hb1;have hkept:=keepT hkept hb1 rfl;clear hK;have hK:=hkept;simp only [Kept,ka,kb,kc,kd,ke,kf,kg] at hK))
  have e5:sizeR (lessR (cn .f32 a,cn .f32 b) (cn .f32 l2,cn .f32 u2)) = foldRS (cn .f32 a,cn .f32 b) (cn .f32 v):=by rw [hU.out,e2,hr];rfl
  exact bodyPost_ret (v:=RgV l4 u4) (by simp [results,Tryz.results195,go_sem,hK,World.cell?_setCell_other,World.cell?_setCell_same'];first | done | exact ⟨rfl,rfl⟩) rfl ⟨_,_,rfl,by rw [e4,e3,e5],bel2 W11b (by omega) ..⟩
 all_goals
  simp only [*,Bool.and_true,Bool.and_false,Bool.false_and,Bool.true_and,Bool.false_eq_true,if_true,if_false] at hUo
  subst hUo
  try (rw [‹FA = _›] at hFA)
  try (rw [‹FB = _›] at hFB)
  try clear h6
  try clear h7
  go_wp2_with (first | (refine wp_bin rfl _ _ _ _ _ rfl _ _ _ rfl rfl rfl ?_;intro r n hr) | (refine upon_bin _ _ _ _ _ rfl ?_;intro r n hr) | (go_at_call 149;refine (s_fin_any _ _).mono ?_;rintro _ w8 ⟨rfl,hb1⟩;have W1b:=below_step (below_drewN W1b _) hb1;have hkept:=keepT hkept hb1 rfl;clear hK;have hK:=hkept;simp only [Kept,ka,kb,kc,kd,ke,kf,kg] at hK;first | rw [hr,hFA.out] | rw [hr,hFB.out]) | (go_at_call 126;refine (minf_pos _).mono ?_;rintro _ w9 ⟨r1,rfl,hr1,hb1⟩;have W1b:Below w.heap.size w w9:=(by first | exact below_step W1b hb1 | exact below_step (below_drewN W1b _) hb1);have hkept:=keepT hkept hb1 rfl;clear hK;have hK:=hkept;simp only [Kept,ka,kb,kc,kd,ke,kf,kg] at hK) | (refine wp_nar rfl _ _ _ rfl _ rfl ?_ ?_ ?_ ?_;exact some_f64;exact Tryz.underlying25;(rw [hr1];exact fits_pinf);intro r2 n hr2))
  first
   | exact bodyPost_ret (v:=RgV 0 r2) (by simp [results,Tryz.results195,go_sem,hK,World.cell?_setCell_other,World.cell?_setCell_same'];first | done | exact ⟨rfl,rfl⟩) rfl ⟨_,_,rfl,(pr (cn_zero _) (hr2.trans (by rw [hr1];decide +kernel))).trans hU.out.symm,bel2 (below_drewN W1b _) (by omega) ..⟩
   | exact bodyPost_ret (v:=RgV 0 r) (by simp [results,Tryz.results195,go_sem,hK,World.cell?_setCell_other,World.cell?_setCell_same'];first | done | exact ⟨rfl,rfl⟩) rfl ⟨_,_,rfl,(pr (cn_zero _) (hr.trans (by rfl))).trans hU.out.symm,bel2 (below_drewN W1b _) (by omega) ..⟩
end Go.Proofs.YtbiacfkiakddiaaGreat

namespace Go.Proofs.YtbiacfkiakddiaaGreat
open Go.RowKit Go.Fl
def bothR (g:Nat → Nat) (r:Nat × Nat):Nat × Nat:=(g r.1,g r.2)

inductive PhiB (id:FuncId) (g:Nat → Nat) (ra:Addr):FuncId → Array Value → Value → Prop
 | call (x r:Nat) (h:cn .f32 r = g (cn .f32 x)):PhiB id g ra id #[F1 x,.pointer (some ra)] (F1 r)

set_option maxRecDepth 100000 in
set_option maxHeartbeats 1000000 in
theorem both_div (g:Nat → Nat) (ra:Addr) (a b:Nat) (w:World)
  (hcall:∀ x w',Below w.heap.size w w' → Calls Tryz.prog 210 #[F1 x,.pointer (some ra)] w' (Ret .f32 (g (cn .f32 x)) w')) :
  Calls Tryz.prog 209 #[RgV a b,.func (.func 210) #[] #[.pointer (some ra)]] w (RetR (bothR g (cn .f32 a,cn .f32 b)) w):=by
 go_enter Tryz.func209,Tryz.ntmps209
 go_upto_region 1 with fail
 generalize hW:(w.alloc (.cells #[F1 a,F1 b] 118)).alloc (.cells #[F1 0,F1 0] 118) = W1 at *
 have W1b:Below w.heap.size w W1:=by subst hW;exact (by repeat' (first | exact Below.refl _ _ | exact Nat.le_refl _ | refine below_drewN ?_ _ | refine Below.alloc ?_ (by simp <;> omega) _ | refine Below.setCell ?_ (by simp <;> omega) _ | refine below_step ?_ (by assumption)))
 have hkept:Kept [(⟨w.heap.size,0,none⟩,F1 a),(⟨w.heap.size,1,none⟩,F1 b),(⟨w.heap.size + 1,0,none⟩,F1 0),(⟨w.heap.size + 1,1,none⟩,F1 0)] [⟨w.heap.size + 1,0,none⟩,⟨w.heap.size + 1,1,none⟩] W1:=by
  subst hW;simp only [Kept,ka,kb,kc,kd,ke,kf,kg];(first | (go_simp;done) | (simp [World.cell?,World.frozen?,World.alloc,Array.getElem?_push];done))
 clear hW
 have hK:=hkept;simp only [Kept,ka,kb,kc,kd,ke,kf,kg] at hK
 refine Qr.wp_below 9 (by kernel_rfl) (by kernel_rfl) (PhiB 210 g ra) ?_
 repeat (first | (refine Qr.walk_plain rfl fun K hK => ?_;apply Qr.one_det;(focus (intro w' hw';have HK:=keep hkept hw';simp only [Kept,ka,kb,kc,kd,ke,kf,kg] at HK;go_simp;first | done | rfl));go_simp;refine hK _ ?_;clear hK K) | (refine Qr.walk_plain rfl fun K hK => ?_;apply Qr.one_call;(focus (intro w' hw';go_simp;first | done | exact ⟨rfl,rfl⟩));(focus (intro w' hw';refine (hcall _ _ (below_step W1b hw')).mono ?_;rintro _ w2 ⟨r1,rfl,hr1,hb1⟩;exact ⟨_,rfl,.call _ _ hr1,below_step hw' (by assumption),by assumption⟩));intro v hv;cases hv;go_simp;refine hK _ ?_;clear hK K))
 rename_i r1 hr1 r2 hr2
 refine Qr.walk_nil fun w6 hw6 => ?_
 have hkept:=keep hkept hw6
 have W6b:=below_step W1b hw6
 clear hK
 have hK:=hkept
 simp only [Kept,ka,kb,kc,kd,ke,kf,kg] at hK
 go_wp2_with fail
 exact bodyPost_ret (v:=RgV r1 r2) (by simp [results,Tryz.results209,go_sem,hK,World.cell?_setCell_other,World.cell?_setCell_same'];first | done | exact ⟨rfl,rfl⟩) rfl ⟨_,_,rfl,pr hr1 hr2,bel2 W6b (by omega) ..⟩

set_option maxRecDepth 100000 in
set_option maxHeartbeats 1000000 in
theorem both_short (g:Nat → Nat) (ra:Addr) (a b:Nat) (w:World)
  (hcall:∀ x w',Below w.heap.size w w' → Calls Tryz.prog 218 #[F1 x,.pointer (some ra)] w' (Ret .f32 (g (cn .f32 x)) w')) :
  Calls Tryz.prog 209 #[RgV a b,.func (.func 218) #[] #[.pointer (some ra)]] w (RetR (bothR g (cn .f32 a,cn .f32 b)) w):=by
 go_enter Tryz.func209,Tryz.ntmps209
 go_upto_region 1 with fail
 generalize hW:(w.alloc (.cells #[F1 a,F1 b] 118)).alloc (.cells #[F1 0,F1 0] 118) = W1 at *
 have W1b:Below w.heap.size w W1:=by subst hW;exact (by repeat' (first | exact Below.refl _ _ | exact Nat.le_refl _ | refine below_drewN ?_ _ | refine Below.alloc ?_ (by simp <;> omega) _ | refine Below.setCell ?_ (by simp <;> omega) _ | refine below_step ?_ (by assumption)))
 have hkept:Kept [(⟨w.heap.size,0,none⟩,F1 a),(⟨w.heap.size,1,none⟩,F1 b),(⟨w.heap.size + 1,0,none⟩,F1 0),(⟨w.heap.size + 1,1,none⟩,F1 0)] [⟨w.heap.size + 1,0,none⟩,⟨w.heap.size + 1,1,none⟩] W1:=by
  subst hW;simp only [Kept,ka,kb,kc,kd,ke,kf,kg];(first | (go_simp;done) | (simp [World.cell?,World.frozen?,World.alloc,Array.getElem?_push];done))
 clear hW
 have hK:=hkept;simp only [Kept,ka,kb,kc,kd,ke,kf,kg] at hK
 refine Qr.wp_below 9 (by kernel_rfl) (by kernel_rfl) (PhiB 218 g ra) ?_
 repeat (first | (refine Qr.walk_plain rfl fun K hK => ?_;apply Qr.one_det;(focus (intro w' hw';have HK:=keep hkept hw';simp only [Kept,ka,kb,kc,kd,ke,kf,kg] at HK;go_simp;first | done | rfl));go_simp;refine hK _ ?_;clear hK K) | (refine Qr.walk_plain rfl fun K hK => ?_;apply Qr.one_call;(focus (intro w' hw';go_simp;first | done | exact ⟨rfl,rfl⟩));(focus (intro w' hw';refine (hcall _ _ (below_step W1b hw')).mono ?_;rintro _ w2 ⟨r1,rfl,hr1,hb1⟩;exact ⟨_,rfl,.call _ _ hr1,below_step hw' (by assumption),by assumption⟩));intro v hv;cases hv;go_simp;refine hK _ ?_;clear hK K))
 rename_i r1 hr1 r2 hr2
 refine Qr.walk_nil fun w6 hw6 => ?_
 have hkept:=keep hkept hw6
 have W6b:=below_step W1b hw6
 clear hK
 have hK:=hkept
 simp only [Kept,ka,kb,kc,kd,ke,kf,kg] at hK
 go_wp2_with fail
 exact bodyPost_ret (v:=RgV r1 r2) (by simp [results,Tryz.results209,go_sem,hK,World.cell?_setCell_other,World.cell?_setCell_same'];first | done | exact ⟨rfl,rfl⟩) rfl ⟨_,_,rfl,pr hr1 hr2,bel2 W6b (by omega) ..⟩

set_option maxRecDepth 100000 in
set_option maxHeartbeats 1000000 in
theorem both_bulge (g:Nat → Nat) (ra:Addr) (a b:Nat) (w:World)
  (hcall:∀ x w',Below w.heap.size w w' → Calls Tryz.prog 223 #[F1 x,.pointer (some ra)] w' (Ret .f32 (g (cn .f32 x)) w')) :
  Calls Tryz.prog 209 #[RgV a b,.func (.func 223) #[] #[.pointer (some ra)]] w (RetR (bothR g (cn .f32 a,cn .f32 b)) w):=by
 go_enter Tryz.func209,Tryz.ntmps209
 go_upto_region 1 with fail
 generalize hW:(w.alloc (.cells #[F1 a,F1 b] 118)).alloc (.cells #[F1 0,F1 0] 118) = W1 at *
 have W1b:Below w.heap.size w W1:=by subst hW;exact (by repeat' (first | exact Below.refl _ _ | exact Nat.le_refl _ | refine below_drewN ?_ _ | refine Below.alloc ?_ (by simp <;> omega) _ | refine Below.setCell ?_ (by simp <;> omega) _ | refine below_step ?_ (by assumption)))
 have hkept:Kept [(⟨w.heap.size,0,none⟩,F1 a),(⟨w.heap.size,1,none⟩,F1 b),(⟨w.heap.size + 1,0,none⟩,F1 0),(⟨w.heap.size + 1,1,none⟩,F1 0)] [⟨w.heap.size + 1,0,none⟩,⟨w.heap.size + 1,1,none⟩] W1:=by
  subst hW;simp only [Kept,ka,kb,kc,kd,ke,kf,kg];(first | (go_simp;done) | (simp [World.cell?,World.frozen?,World.alloc,Array.getElem?_push];done))
 clear hW
 have hK:=hkept;simp only [Kept,ka,kb,kc,kd,ke,kf,kg] at hK
 refine Qr.wp_below 9 (by kernel_rfl) (by kernel_rfl) (PhiB 223 g ra) ?_
 repeat (first | (refine Qr.walk_plain rfl fun K hK => ?_;apply Qr.one_det;(focus (intro w' hw';have HK:=keep hkept hw';simp only [Kept,ka,kb,kc,kd,ke,kf,kg] at HK;go_simp;first | done | rfl));go_simp;refine hK _ ?_;clear hK K) | (refine Qr.walk_plain rfl fun K hK => ?_;apply Qr.one_call;(focus (intro w' hw';go_simp;first | done | exact ⟨rfl,rfl⟩));(focus (intro w' hw';refine (hcall _ _ (below_step W1b hw')).mono ?_;rintro _ w2 ⟨r1,rfl,hr1,hb1⟩;exact ⟨_,rfl,.call _ _ hr1,below_step hw' (by assumption),by assumption⟩));intro v hv;cases hv;go_simp;refine hK _ ?_;clear hK K))
 rename_i r1 hr1 r2 hr2
 refine Qr.walk_nil fun w6 hw6 => ?_
 have hkept:=keep hkept hw6
 have W6b:=below_step W1b hw6
 clear hK
 have hK:=hkept
 simp only [Kept,ka,kb,kc,kd,ke,kf,kg] at hK
 go_wp2_with fail
 exact bodyPost_ret (v:=RgV r1 r2) (by simp [results,Tryz.results209,go_sem,hK,World.cell?_setCell_other,World.cell?_setCell_same'];first | done | exact ⟨rfl,rfl⟩) rfl ⟨_,_,rfl,pr hr1 hr2,bel2 W6b (by omega) ..⟩

set_option maxHeartbeats 1000000 in
theorem cl_div (x by_ rb ro:Nat) (w:World) (h:w.cell? ⟨rb,ro,none⟩ = some (F1 by_)) :
  Calls Tryz.prog 210 #[F1 x,.pointer (some ⟨rb,ro,none⟩)] w (Ret .f32 (B .quo (cn .f32 x) (cn .f32 by_)) w):=by
 go_enter Tryz.func210,Tryz.ntmps210
 go_wp2_with (refine wp_bin rfl _ _ _ _ _ rfl _ _ _ rfl rfl rfl ?_;intro r n hr)
 go_ret
 exact ⟨_,rfl,hr,(by repeat' (first | exact Below.refl _ _ | exact Nat.le_refl _ | refine below_drewN ?_ _ | refine Below.alloc ?_ (by simp <;> omega) _ | refine Below.setCell ?_ (by simp <;> omega) _ | refine below_step ?_ (by assumption)))⟩

set_option maxHeartbeats 1000000 in
theorem cl_short (x h nb no l cap rb ro:Nat) (w:World) (h1:w.cell? ⟨rb,ro,none⟩ = some (.slice (some ⟨nb,no,none⟩) (l + 1) cap)) (h2:w.cell? ⟨nb,no,none⟩ = some (F1 h)) :
  Calls Tryz.prog 218 #[F1 x,.pointer (some ⟨rb,ro,none⟩)] w (Ret .f32 (shortF (cn .f32 x) (cn .f32 h)) w):=by
 go_enter Tryz.func218,Tryz.ntmps218
 have h3:(0:Int) < (l:Int) + 1:=by omega
 go_wp2_with (go_at_call 219;refine (short_any _ _ _).mono ?_;rintro _ w2 ⟨r1,rfl,hr1,hb1⟩)
 go_ret
 exact ⟨_,rfl,hr1,(by repeat' (first | exact Below.refl _ _ | exact Nat.le_refl _ | refine below_drewN ?_ _ | refine Below.alloc ?_ (by simp <;> omega) _ | refine Below.setCell ?_ (by simp <;> omega) _ | refine below_step ?_ (by assumption)))⟩

set_option maxHeartbeats 1000000 in
theorem cl_bulge (x k rb ro:Nat) (w:World) (h:w.cell? ⟨rb,ro,none⟩ = some (F1 k)) :
  Calls Tryz.prog 223 #[F1 x,.pointer (some ⟨rb,ro,none⟩)] w (Ret .f32 (bulgeF (cn .f32 x) (cn .f32 k)) w):=by
 go_enter Tryz.func223,Tryz.ntmps223
 go_wp2_with (go_at_call 224;refine (bulge_any _ _ _).mono ?_;rintro _ w2 ⟨r1,rfl,hr1,hb1⟩)
 go_ret
 exact ⟨_,rfl,hr1,(by repeat' (first | exact Below.refl _ _ | exact Nat.le_refl _ | refine below_drewN ?_ _ | refine Below.alloc ?_ (by simp <;> omega) _ | refine Below.setCell ?_ (by simp <;> omega) _ | refine below_step ?_ (by assumption)))⟩
end Go.Proofs.YtbiacfkiakddiaaGreat
