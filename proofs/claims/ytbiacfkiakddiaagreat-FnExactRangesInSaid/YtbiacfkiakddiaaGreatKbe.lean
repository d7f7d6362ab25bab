/-
 Lemmas: V5,V6.
-/
import Derived.Test.YtbiacfkiakddiaaGreatKbd
set_option linter.unusedVariables false
set_option linter.unusedSimpArgs false
namespace Go.Proofs.YtbiacfkiakddiaaGreat
open Go.RowKit Go.Fl
def foldFar (lo hi a b:Nat):Bool:=gek .f32 lo 3397386240 && lek .f32 lo 1249902592 && gek .f32 hi 3397386240 && lek .f32 hi 1249902592 && (finB a && finB b)
def foldPick (lo hi a b:Nat) (x:Nat × Nat) (s:Nat):Nat × Nat:=if eqk .f32 lo hi then sizeR x else if foldFar lo hi a b then (0,B .mul 1082130432 s) else (0,infw)
def foldRF (r:Nat × Nat) (s:Nat):Nat × Nat:=foldPick (nearF (B .quo r.1 (B .mul 1073741824 s))) (nearF (B .quo r.2 (B .mul 1073741824 s))) (foldF r.1 s) (foldF r.2 s) (B .sub r.1 (foldF r.1 s),B .sub r.2 (foldF r.2 s)) s
def foldRS (r:Nat × Nat) (s:Nat):Nat × Nat:=foldPick (nearF (B .quo r.1 (B .mul 1073741824 s))) (nearF (B .quo r.2 (B .mul 1073741824 s))) (foldF r.1 s) (foldF r.2 s) (B .sub r.1 (foldF r.1 s),B .sub r.2 (foldF r.1 s)) s

theorem near_lo {a v m q r:Nat} (h1:cn .f32 m = bin .mul .f32 (cn .f32 1073741824) (cn .f32 v)) (h2:cn .f32 q = bin .quo .f32 (cn .f32 a) (cn .f32 m)) (h3:cn .f32 r = nearF (cn .f32 q)):cn .f32 r = nearF (B .quo (cn .f32 a) (B .mul 1073741824 (cn .f32 v))):=by
 rw [h3,h2,h1]
 rfl
theorem lek_c {k:FloatKind} {x c:Nat} (hc:cn k c = c):lek k (cn k x) c = (k.format.order x c == some .lt || k.format.order x c == some .eq):=by unfold lek;rw [ord_c k x hc]
theorem pick_eq (lo hi fa fb:Nat) (x:Nat × Nat) (s:Nat):foldPick (cn .f32 lo) (cn .f32 hi) (cn .f32 fa) (cn .f32 fb) x s = if (FloatKind.f32.format.order lo hi == some .eq) then sizeR x else if ((FloatKind.f32.format.order lo 3397386240 == some .gt || FloatKind.f32.format.order lo 3397386240 == some .eq) && (FloatKind.f32.format.order lo 1249902592 == some .lt || FloatKind.f32.format.order lo 1249902592 == some .eq) && (FloatKind.f32.format.order hi 3397386240 == some .gt || FloatKind.f32.format.order hi 3397386240 == some .eq) && (FloatKind.f32.format.order hi 1249902592 == some .lt || FloatKind.f32.format.order hi 1249902592 == some .eq) && (finB (cn .f32 fa) && finB (cn .f32 fb))) then (0,B .mul 1082130432 s) else (0,infw):=by
 unfold foldPick foldFar
 rw [Fl.gek_c (by decide +kernel),lek_c (by decide +kernel),Fl.gek_c (by decide +kernel),lek_c (by decide +kernel),eqk_cn,eqk]
theorem way6 (u p q r s t:Bool):u = true ∨ (u = false ∧ p = false) ∨ (u = false ∧ p = true ∧ q = false) ∨ (u = false ∧ p = true ∧ q = true ∧ r = false) ∨ (u = false ∧ p = true ∧ q = true ∧ r = true ∧ s = false) ∨ (u = false ∧ p = true ∧ q = true ∧ r = true ∧ s = true ∧ t = false) ∨ (u = false ∧ p = true ∧ q = true ∧ r = true ∧ s = true ∧ t = true):=by
 cases u <;> cases p <;> cases q <;> cases r <;> cases s <;> cases t <;> simp

inductive PhiFo:FuncId → Array Value → Value → Prop
 | near (a r:Nat) (h:cn .f32 r = nearF (cn .f32 a)):PhiFo 261 #[F1 a] (F1 r)
 | fold (a b r:Nat) (h:cn .f32 r = foldF (cn .f32 a) (cn .f32 b)):PhiFo 262 #[F1 a,F1 b] (F1 r)


set_option maxRecDepth 100000 in
set_option maxHeartbeats 1000000 in
theorem foldr_any (a b v:Nat) (w:World) :
  Calls Tryz.prog 216 #[RgV a b,F1 v] w (RetR (foldRF (cn .f32 a,cn .f32 b) (cn .f32 v)) w):=by
 go_enter Tryz.func216,Tryz.ntmps216
 go_upto_region 1 with fail
 have W1b:Below w.heap.size w ((w.alloc (.cells #[.float .f32 a,.float .f32 b] 118)).alloc (.cells #[.float .f32 0,.float .f32 0] 118)):=(by repeat' (first | exact Below.refl _ _ | exact Nat.le_refl _ | refine below_drewN ?_ _ | refine Below.alloc ?_ (by first | (simp;done) | (simp;omega)) _ | refine Below.setCell ?_ (by first | (simp;done) | (simp;omega)) _ | refine below_step ?_ (by assumption)))
 
 have hkept:Kept [(⟨w.heap.size,0,none⟩,.float .f32 a),(⟨w.heap.size,1,none⟩,.float .f32 b),(⟨w.heap.size + 1,0,none⟩,.float .f32 0),(⟨w.heap.size + 1,1,none⟩,.float .f32 0)] [⟨w.heap.size + 1,0,none⟩,⟨w.heap.size + 1,1,none⟩] ((w.alloc (.cells #[.float .f32 a,.float .f32 b] 118)).alloc (.cells #[.float .f32 0,.float .f32 0] 118)):=by
  simp only [Kept,ka,kb,kc,kd,ke,and_true,true_and];(first | (go_simp;done) | (simp [World.cell?,World.frozen?,World.alloc,Array.getElem?_push];done))
 generalize (w.alloc (.cells #[.float .f32 a,.float .f32 b] 118)).alloc (.cells #[.float .f32 0,.float .f32 0] 118) = W1 at *
 have hK:=hkept;simp only [Kept,ka,kb,kc,kd,ke,and_true,true_and] at hK
 refine Qr.wp_below_all (by kernel_rfl) (by kernel_rfl) PhiFo ?_
 repeat (first | (refine Qr.walk_plain rfl fun K hK => ?_;refine one_bin _ _ _ _ _ rfl _ _ _ rfl rfl rfl (fun r hr => ?_);go_simp;refine hK _ ?_;clear hK K) | (refine Qr.walk_plain rfl fun K hK => ?_;apply Qr.one_det;(focus (intro w' hw';have HK:=keep hkept hw';simp only [Kept,ka,kb,kc,kd,ke,and_true,true_and] at HK;go_simp;first | done | rfl));go_simp;refine hK _ ?_;clear hK K) | (refine Qr.walk_plain rfl fun K hK => ?_;apply Qr.one_call;(focus (intro w' hw';go_simp;first | done | exact ⟨rfl,rfl⟩));(focus (intro w' hw'; go_at_call 261;refine (near_any _ _).mono ?_;rintro _ w2 ⟨r1,rfl,hr1,hb1⟩ ;exact ⟨_,rfl,by constructor <;> assumption,below_step hw' (by assumption),by assumption⟩));intro v hv;cases hv;go_simp;refine hK _ ?_;clear hK K) | (refine Qr.walk_plain rfl fun K hK => ?_;apply Qr.one_call;(focus (intro w' hw';go_simp;first | done | exact ⟨rfl,rfl⟩));(focus (intro w' hw'; go_at_call 262;refine (fold_any _ _ _).mono ?_;rintro _ w2 ⟨r1,rfl,hr1,hb1⟩ ;exact ⟨_,rfl,by constructor <;> assumption,below_step hw' (by assumption),by assumption⟩));intro v hv;cases hv;go_simp;refine hK _ ?_;clear hK K))
 rename_i m1 hm1 q1 hq1 lo hlo m2 hm2 hi hhi
 have hlo:=near_lo hm1 hq1 hlo
 have hhi:=near_lo hm2 hr hhi
 clear hm1 hq1 hm2 hr
 refine Qr.walk_nil fun w6 hw6 => ?_
 have hkept:=keep hkept hw6
 have W6b:=below_step W1b hw6
 clear hK
 have hK:=hkept
 simp only [Kept,ka,kb,kc,kd,ke,and_true,true_and] at hK
 go_upto_region 2 with fail
 refine Qr.wp_below_all (by kernel_rfl) (by kernel_rfl) PhiFo ?_
 repeat (first | (refine Qr.walk_plain rfl fun K hK => ?_;refine one_bin _ _ _ _ _ rfl _ _ _ rfl rfl rfl (fun r hr => ?_);go_simp;refine hK _ ?_;clear hK K) | (refine Qr.walk_plain rfl fun K hK => ?_;apply Qr.one_det;(focus (intro w' hw';have HK:=keep hkept hw';simp only [Kept,ka,kb,kc,kd,ke,and_true,true_and] at HK;go_simp;first | done | rfl));go_simp;refine hK _ ?_;clear hK K) | (refine Qr.walk_plain rfl fun K hK => ?_;apply Qr.one_call;(focus (intro w' hw';go_simp;first | done | exact ⟨rfl,rfl⟩));(focus (intro w' hw'; go_at_call 261;refine (near_any _ _).mono ?_;rintro _ w2 ⟨r1,rfl,hr1,hb1⟩ ;exact ⟨_,rfl,by constructor <;> assumption,below_step hw' (by assumption),by assumption⟩));intro v hv;cases hv;go_simp;refine hK _ ?_;clear hK K) | (refine Qr.walk_plain rfl fun K hK => ?_;apply Qr.one_call;(focus (intro w' hw';go_simp;first | done | exact ⟨rfl,rfl⟩));(focus (intro w' hw'; go_at_call 262;refine (fold_any _ _ _).mono ?_;rintro _ w2 ⟨r1,rfl,hr1,hb1⟩ ;exact ⟨_,rfl,by constructor <;> assumption,below_step hw' (by assumption),by assumption⟩));intro v hv;cases hv;go_simp;refine hK _ ?_;clear hK K))
 rename_i fa hfa fb hfb
 refine Qr.walk_nil fun w7 hw7 => ?_
 have hkept:=keep hkept hw7
 have W7b:=below_step W6b hw7
 clear hK
 have hK:=hkept
 simp only [Kept,ka,kb,kc,kd,ke,and_true,true_and] at hK
 have e0:foldRF (cn .f32 a,cn .f32 b) (cn .f32 v) = foldPick (cn .f32 lo) (cn .f32 hi) (cn .f32 fa) (cn .f32 fb) (B .sub (cn .f32 a) (cn .f32 fa),B .sub (cn .f32 b) (cn .f32 fb)) (cn .f32 v):=by rw [hlo,hhi,hfa,hfb];rfl
 obtain ⟨U,hU⟩:∃ U,Hid (foldRF (cn .f32 a,cn .f32 b) (cn .f32 v) = U):=⟨_,rfl⟩
 have hUo:=hU.out
 rw [e0,pick_eq] at hUo
 clear e0 hlo hhi hfa hfb W6b hw6 hw7
 have hv:(!([fa,fb]:List Nat).any (fun x => !finP x)) = (finB (cn .f32 fa) && finB (cn .f32 fb)):=by
  unfold finB
  simp only [List.any_cons,List.any_nil,finP,Bool.or_false,Bool.not_or,Bool.not_not]
 generalize (finB (cn .f32 fa) && finB (cn .f32 fb)) = FB at *
 rcases way6 (FloatKind.f32.format.order lo hi == some .eq) (FloatKind.f32.format.order lo 3397386240 == some .gt || FloatKind.f32.format.order lo 3397386240 == some .eq) (FloatKind.f32.format.order lo 1249902592 == some .lt || FloatKind.f32.format.order lo 1249902592 == some .eq) (FloatKind.f32.format.order hi 3397386240 == some .gt || FloatKind.f32.format.order hi 3397386240 == some .eq) (FloatKind.f32.format.order hi 1249902592 == some .lt || FloatKind.f32.format.order hi 1249902592 == some .eq) FB with h1 | ⟨h1,h2⟩ | ⟨h1,h2,h3⟩ | ⟨h1,h2,h3,h4⟩ | ⟨h1,h2,h3,h4,h5⟩ | ⟨h1,h2,h3,h4,h5,h6⟩ | ⟨h1,h2,h3,h4,h5,h6⟩
 ·rw [h1,if_pos rfl] at hUo
  subst hUo
  go_wp2_with (first | (refine wp_bin rfl _ _ _ _ _ rfl _ _ _ rfl rfl rfl ?_;intro r n hr) | (go_at_call 215;refine (sizer_any _ _ _).mono ?_;rintro _ w8 ⟨l2,u2,rfl,e2,hb1⟩;have W8b:=below_step (below_drewN W7b _) hb1;have hkept:=keepT hkept hb1 rfl;clear hK;have hK:=hkept;simp only [Kept,ka,kb,kc,kd,ke,and_true,true_and] at hK))
  rename_i c1 n1 hc1
  exact bodyPost_ret (v:=RgV l2 u2) (by simp [results,Tryz.results216,go_sem,hK,World.cell?_setCell_other,World.cell?_setCell_same'];first | done | exact ⟨rfl,rfl⟩) rfl ⟨_,_,rfl,(e2.trans (congrArg sizeR (pr hc1 hr))).trans hU.out.symm,bel2 W8b (by omega) ..⟩
 all_goals
  simp only [*,Bool.and_true,Bool.and_false,Bool.false_and,Bool.true_and,Bool.false_eq_true,if_true,if_false] at hUo
  subst hUo
  try rw [‹FB = _›] at hv
  try clear h6
  go_wp2_with (first | (refine wp_bin rfl _ _ _ _ _ rfl _ _ _ rfl rfl rfl ?_;intro r n hr) | (go_at_call 204;refine (finite_any [fa,fb] (some ⟨_,0,none⟩) _ 0 2 _ (fun _ => rfl) ?_ (by simp)).mono ?_;(focus (intro i hi;have h3:i = 0 ∨ i = 1:=(by simp at hi;omega);rcases h3 with rfl | rfl <;> simp));rintro _ w8 ⟨rfl,hb1⟩;have W7b:=below_step (W7b.alloc W7b.size _) hb1;have hkept:=keepT (keep hkept ((Below.refl _ _).alloc (Nat.le_refl _) _)) hb1 rfl;clear hK;have hK:=hkept;simp only [Kept,ka,kb,kc,kd,ke,and_true,true_and] at hK;rw [hv]) | (go_at_call 225;refine (inf_any _).mono ?_;rintro _ w9 ⟨r1,rfl,hr1,hb1⟩;have W7b:=below_step W7b hb1;have hkept:=keepT hkept hb1 rfl;clear hK;have hK:=hkept;simp only [Kept,ka,kb,kc,kd,ke,and_true,true_and] at hK))
  first
   | exact bodyPost_ret (v:=RgV 0 r1) (by simp [results,Tryz.results216,go_sem,hK,World.cell?_setCell_other,World.cell?_setCell_same'];first | done | exact ⟨rfl,rfl⟩) rfl ⟨_,_,rfl,(pr (cn_zero _) hr1).trans hU.out.symm,bel2 W7b (by omega) ..⟩
   | exact bodyPost_ret (v:=RgV 0 r) (by simp [results,Tryz.results216,go_sem,hK,World.cell?_setCell_other,World.cell?_setCell_same'];first | done | exact ⟨rfl,rfl⟩) rfl ⟨_,_,rfl,(pr (cn_zero _) (hr.trans (by rfl))).trans hU.out.symm,bel2 (below_drewN W7b _) (by omega) ..⟩
end Go.Proofs.YtbiacfkiakddiaaGreat

namespace Go.Proofs.YtbiacfkiakddiaaGreat
open Go.RowKit Go.Fl
theorem way7f (u p q r s t x:Bool):u = true ∨ (u = false ∧ p = false) ∨ (u = false ∧ p = true ∧ q = false) ∨ (u = false ∧ p = true ∧ q = true ∧ r = false) ∨ (u = false ∧ p = true ∧ q = true ∧ r = true ∧ s = false) ∨ (u = false ∧ p = true ∧ q = true ∧ r = true ∧ s = true ∧ t = false) ∨ (u = false ∧ p = true ∧ q = true ∧ r = true ∧ s = true ∧ t = true ∧ x = false) ∨ (u = false ∧ p = true ∧ q = true ∧ r = true ∧ s = true ∧ t = true ∧ x = true):=by
 cases u <;> cases p <;> cases q <;> cases r <;> cases s <;> cases t <;> cases x <;> simp

theorem pick_eq2 (lo hi A C:Nat) (x:Nat × Nat) (s:Nat):foldPick (cn .f32 lo) (cn .f32 hi) A C x s = if (FloatKind.f32.format.order lo hi == some .eq) then sizeR x else if ((FloatKind.f32.format.order lo 3397386240 == some .gt || FloatKind.f32.format.order lo 3397386240 == some .eq) && (FloatKind.f32.format.order lo 1249902592 == some .lt || FloatKind.f32.format.order lo 1249902592 == some .eq) && (FloatKind.f32.format.order hi 3397386240 == some .gt || FloatKind.f32.format.order hi 3397386240 == some .eq) && (FloatKind.f32.format.order hi 1249902592 == some .lt || FloatKind.f32.format.order hi 1249902592 == some .eq) && (finB A && finB C)) then (0,B .mul 1082130432 s) else (0,infw):=by
 unfold foldPick foldFar
 rw [Fl.gek_c (by decide +kernel),lek_c (by decide +kernel),Fl.gek_c (by decide +kernel),lek_c (by decide +kernel),eqk_cn,eqk]

theorem upon_bin {P:Program} {o:Oper} {a:Act} {K:Act → World → Prop} {Q:Exit → Act → World → Prop} {w:World} (op:BinOp) (t:TypeId) (k:FloatKind) (u v:Nat) (hop:arith op = true)
  (h:∀ r n,cn k r = bin op k (cn k u) (cn k v) → Oper.upon P o a K Q (.ok (.value (.float k r)) (w.drewN n))):Oper.upon P o a K Q (((binOp op t (.float k u) (.float k v)).run P w).andThen fun a w' => Result.ok (Next.value a) w'):=by
 obtain ⟨r,n,hr,hc⟩:=run_bin (P:=P) w op t k u v hop
 rw [hr]
 exact h r n hc


set_option maxRecDepth 100000 in
set_option maxHeartbeats 1000000 in
theorem s_foldr_any (a b v:Nat) (w:World) :
  Calls Tryz.prog 195 #[RgV a b,F1 v] w (RetR (foldRS (cn .f32 a,cn .f32 b) (cn .f32 v)) w):=by
 go_enter Tryz.func195,Tryz.ntmps195
 go_upto_region 1 with fail
 have W1b:Below w.heap.size w ((w.alloc (.cells #[.float .f32 a,.float .f32 b] 118)).alloc (.cells #[.float .f32 0,.float .f32 0] 118)):=(by repeat' (first | exact Below.refl _ _ | exact Nat.le_refl _ | refine below_drewN ?_ _ | refine Below.alloc ?_ (by first | (simp;done) | (simp;omega)) _ | refine Below.setCell ?_ (by first | (simp;done) | (simp;omega)) _ | refine below_step ?_ (by assumption)))
 
 have hkept:Kept [(⟨w.heap.size,0,none⟩,.float .f32 a),(⟨w.heap.size,1,none⟩,.float .f32 b),(⟨w.heap.size + 1,0,none⟩,.float .f32 0),(⟨w.heap.size + 1,1,none⟩,.float .f32 0)] [⟨w.heap.size + 1,0,none⟩,⟨w.heap.size + 1,1,none⟩] ((w.alloc (.cells #[.float .f32 a,.float .f32 b] 118)).alloc (.cells #[.float .f32 0,.float .f32 0] 118)):=by
  simp only [Kept,ka,kb,kc,kd,ke,and_true,true_and];(first | (go_simp;done) | (simp [World.cell?,World.frozen?,World.alloc,Array.getElem?_push];done))
 generalize (w.alloc (.cells #[.float .f32 a,.float .f32 b] 118)).alloc (.cells #[.float .f32 0,.float .f32 0] 118) = W1 at *
 have hK:=hkept;simp only [Kept,ka,kb,kc,kd,ke,and_true,true_and] at hK
 go_upto_region 2 with (refine wp_bin rfl _ _ _ _ _ rfl _ _ _ rfl rfl rfl ?_;intro r n hr)
 generalize r = m at *
 generalize n = n1 at *
 have hm:cn .f32 m = B .mul 1073741824 (cn .f32 v):=hr
 clear hr
 go_upto_region 3 with (first | (refine wp_entry rfl 255 _ _ rfl rfl _ ext_rte _ (run_whole _ _ _ _) ?_;rintro _ n ⟨r1,rfl,hr1⟩) | (refine wp_bin rfl _ _ _ _ _ rfl _ _ _ rfl rfl rfl ?_;intro r n hr) | (refine wp_wid rfl _ _ _ rfl _ rfl ?_ ?_ fitsW_all ?_;exact some_f32;exact Tryz.underlying89;intro r n hr) | (refine wp_nar rfl _ _ _ rfl _ rfl ?_ ?_ ?_ ?_;exact some_f64;exact Tryz.underlying25;(simp only [*];exact fits_near _);intro r2 n hr2))
 have hlo:cn .f32 r2 = nearF (B .quo (cn .f32 a) (cn .f32 m)):=by simp only [nearF, *]
 generalize r2 = lo at *
 go_upto_region 4 with (first | (refine wp_entry rfl 255 _ _ rfl rfl _ ext_rte _ (run_whole _ _ _ _) ?_;rintro _ n ⟨r1,rfl,hr1⟩) | (refine wp_bin rfl _ _ _ _ _ rfl _ _ _ rfl rfl rfl ?_;intro r n hr) | (refine wp_wid rfl _ _ _ rfl _ rfl ?_ ?_ fitsW_all ?_;exact some_f32;exact Tryz.underlying89;intro r n hr) | (refine wp_nar rfl _ _ _ rfl _ rfl ?_ ?_ ?_ ?_;exact some_f64;exact Tryz.underlying25;(simp only [*];exact fits_near _);intro r2 n hr2))
 have hhi:cn .f32 r2 = nearF (B .quo (cn .f32 b) (cn .f32 m)):=by simp only [nearF, *]
 generalize r2 = hi at *
 clear hr hr1 hr2
 have e0:foldRS (cn .f32 a,cn .f32 b) (cn .f32 v) = foldPick (cn .f32 lo) (cn .f32 hi) (B .mul (cn .f32 m) (cn .f32 lo)) (B .mul (cn .f32 m) (cn .f32 hi)) (B .sub (cn .f32 a) (B .mul (cn .f32 m) (cn .f32 lo)),B .sub (cn .f32 b) (B .mul (cn .f32 m) (cn .f32 lo))) (cn .f32 v):=by unfold foldRS foldF;simp only;rw [← hm,← hlo,← hhi]
 obtain ⟨U,hU⟩:∃ U,Hid (foldRS (cn .f32 a,cn .f32 b) (cn .f32 v) = U):=⟨_,rfl⟩
 have hUo:=hU.out
 rw [e0,pick_eq2] at hUo
 obtain ⟨FA,hFA⟩:∃ FA,Hid (eqk .f32 (B .sub (B .mul (cn .f32 m) (cn .f32 lo)) (B .mul (cn .f32 m) (cn .f32 lo))) 0 = FA):=⟨_,rfl⟩
 obtain ⟨FB,hFB⟩:∃ FB,Hid (eqk .f32 (B .sub (B .mul (cn .f32 m) (cn .f32 hi)) (B .mul (cn .f32 m) (cn .f32 hi))) 0 = FB):=⟨_,rfl⟩
 rw [show finB (B .mul (cn .f32 m) (cn .f32 lo)) = FA from hFA.out,show finB (B .mul (cn .f32 m) (cn .f32 hi)) = FB from hFB.out] at hUo
 clear e0 hlo hhi
 rcases way7f (FloatKind.f32.format.order lo hi == some .eq) (FloatKind.f32.format.order lo 3397386240 == some .gt || FloatKind.f32.format.order lo 3397386240 == some .eq) (FloatKind.f32.format.order lo 1249902592 == some .lt || FloatKind.f32.format.order lo 1249902592 == some .eq) (FloatKind.f32.format.order hi 3397386240 == some .gt || FloatKind.f32.format.order hi 3397386240 == some .eq) (FloatKind.f32.format.order hi 1249902592 == some .lt || FloatKind.f32.format.order hi 1249902592 == some .eq) FA FB with h1 | ⟨h1,h2⟩ | ⟨h1,h2,h3⟩ | ⟨h1,h2,h3,h4⟩ | ⟨h1,h2,h3,h4,h5⟩ | ⟨h1,h2,h3,h4,h5,h6⟩ | ⟨h1,h2,h3,h4,h5,h6,h7⟩ | ⟨h1,h2,h3,h4,h5,h6,h7⟩
 ·rw [h1,if_pos rfl] at hUo
  subst hUo
  go_upto_region 6 with (first | (refine wp_bin rfl _ _ _ _ _ rfl _ _ _ rfl rfl rfl ?_;intro r n hr) | (go_at_call 188;refine (s_one_any _ _).mono ?_;rintro _ w8 ⟨l2,u2,rfl,e2,hb1⟩;have W8b:=below_step (below_drewN W1b _) hb1;have hkept:=keepT hkept hb1 rfl;clear hK;have hK:=hkept;simp only [Kept,ka,kb,kc,kd,ke,and_true,true_and] at hK))
  have hbA:Below w8.heap.size w8 (w8.alloc (.cells #[F1 l2,F1 u2] 118)):=(Below.refl _ _).alloc (Nat.le_refl _) _
  have hkept:=kept_app (keep hkept hbA) (show Kept [(⟨w8.heap.size,0,none⟩,F1 l2),(⟨w8.heap.size,1,none⟩,F1 u2)] [] (w8.alloc (.cells #[F1 l2,F1 u2] 118)) by simp only [Kept,ka,kb,kc,kd,ke,and_true,true_and];simp)
  have W9b:=below_step W8b hbA
  generalize w8.alloc (.cells #[F1 l2,F1 u2] 118) = W9 at *
  clear hK
  have hK:=hkept;simp only [Kept,ka,kb,kc,kd,ke,and_true,true_and] at hK
  go_wp2_with (first | (go_at_call 187;refine (s_rless_any _ _ _ _ _).mono ?_;rintro _ w5 ⟨l3,u3,rfl,e3,hb1⟩;have W10b:=below_step W9b hb1;have hkept:=keepT hkept hb1 rfl;clear hK;have hK:=hkept;simp only [Kept,ka,kb,kc,kd,ke,and_true,true_and] at hK) | (go_at_call 194;refine (s_sizer_any _ _ _).mono ?_;rintro _ w7 ⟨l4,u4,rfl,e4,hb1⟩;have W11b:=below_step W10b hb1;have hkept:=keepT hkept hb1 rfl;clear hK;have hK:=hkept;simp only [Kept,ka,kb,kc,kd,ke,and_true,true_and] at hK))
  have e5:sizeR (lessR (cn .f32 a,cn .f32 b) (cn .f32 l2,cn .f32 u2)) = foldRS (cn .f32 a,cn .f32 b) (cn .f32 v):=by rw [hU.out,e2,hr];rfl
  exact bodyPost_ret (v:=RgV l4 u4) (by simp [results,Tryz.results195,go_sem,hK,World.cell?_setCell_other,World.cell?_setCell_same'];first | done | exact ⟨rfl,rfl⟩) rfl ⟨_,_,rfl,by rw [e4,e3,e5],bel2 W11b (by omega) ..⟩
 all_goals
  simp only [*,Bool.and_true,Bool.and_false,Bool.false_and,Bool.true_and,Bool.false_eq_true,if_true,if_false] at hUo
  subst hUo
  try (rw [‹FA = _›] at hFA)
  try (rw [‹FB = _›] at hFB)
  try clear h6
  try clear h7
  go_wp2_with (first | (refine wp_bin rfl _ _ _ _ _ rfl _ _ _ rfl rfl rfl ?_;intro r n hr) | (refine upon_bin _ _ _ _ _ rfl ?_;intro r n hr) | (go_at_call 149;refine (s_fin_any _ _).mono ?_;rintro _ w8 ⟨rfl,hb1⟩;have W1b:=below_step (below_drewN W1b _) hb1;have hkept:=keepT hkept hb1 rfl;clear hK;have hK:=hkept;simp only [Kept,ka,kb,kc,kd,ke,and_true,true_and] at hK;first | rw [hr,hFA.out] | rw [hr,hFB.out]) | (go_at_call 126;refine (minf_pos _).mono ?_;rintro _ w9 ⟨r1,rfl,hr1,hb1⟩;have W1b:Below w.heap.size w w9:=(by first | exact below_step W1b hb1 | exact below_step (below_drewN W1b _) hb1);have hkept:=keepT hkept hb1 rfl;clear hK;have hK:=hkept;simp only [Kept,ka,kb,kc,kd,ke,and_true,true_and] at hK) | (refine wp_nar rfl _ _ _ rfl _ rfl ?_ ?_ ?_ ?_;exact some_f64;exact Tryz.underlying25;(rw [hr1];exact fits_pinf);intro r2 n hr2))
  first
   | exact bodyPost_ret (v:=RgV 0 r2) (by simp [results,Tryz.results195,go_sem,hK,World.cell?_setCell_other,World.cell?_setCell_same'];first | done | exact ⟨rfl,rfl⟩) rfl ⟨_,_,rfl,(pr (cn_zero _) (hr2.trans (by rw [hr1];decide +kernel))).trans hU.out.symm,bel2 (below_drewN W1b _) (by omega) ..⟩
   | exact bodyPost_ret (v:=RgV 0 r) (by simp [results,Tryz.results195,go_sem,hK,World.cell?_setCell_other,World.cell?_setCell_same'];first | done | exact ⟨rfl,rfl⟩) rfl ⟨_,_,rfl,(pr (cn_zero _) (hr.trans (by rfl))).trans hU.out.symm,bel2 (below_drewN W1b _) (by omega) ..⟩
end Go.Proofs.YtbiacfkiakddiaaGreat
