/-
 Lemmas: S9,S10,Wi.
-/
import Derived.Test.YtbiacfkiakddiaaGreatJah
import Derived.Test.YtbiacfkiakddiaaGreatJak
set_option linter.unusedVariables false
set_option linter.unusedSimpArgs false
namespace Go.Proofs.YtbiacfkiakddiaaGreat
open Go.RowKit Go.Fl
def sineX (c:Nat):Nat:=if eqk .f32 (B .sub c c) 0 then (if gek .f64 (absW (wid c)) 4841369599423283200 then 0 else sinW (wid c)) else nanw .f64

set_option maxHeartbeats 400000 in
theorem s_sinew_nan (a c:Nat) (w:World) (ha:cn .f64 a = wid c) (hf:eqk .f32 (B .sub c c) 0 = false) :
  Calls Tryz.prog 254 #[.float .f64 a] w (Ret .f64 (sineX c) w):=by
 have hD:eqk .f64 (D .sub (wid c) (wid c)) 0 = false:=by rw [fin_wid];exact hf
 have HD:=Lib.hid hD
 have HF:=Lib.hid hf
 clear hD hf
 have HST:Hid (∀ r,cn .f64 r = bin .sub .f64 (cn .f64 a) (cn .f64 a) → (FloatKind.f64.format.order r 0 != some .eq) = true):=fun r hr => by
  have h1:=HD.out
  rw [← ha,← show cn .f64 r = D .sub (cn .f64 a) (cn .f64 a) from hr,eqk,ord_r0] at h1
  rw [bne,h1];rfl
 have HA:=Lib.hid ha
 clear ha
 go_enter Tryz.func254,Tryz.ntmps254
 go_wp2_with (first | ((refine wp_bin rfl _ _ _ _ _ rfl _ _ _ rfl rfl rfl ?_;intro r n hr);have he:=HST.out _ hr) | (go_at_call 258;refine (nan_any _).mono ?_;rintro _ w1 ⟨r1,rfl,hr1,hb1⟩))
 go_ret
 exact ⟨_,rfl,by rw [hr1];simp only [sineX,HF.out];rfl,(by repeat' (first | exact Below.refl _ _ | exact Nat.le_refl _ | refine below_drewN ?_ _ | refine Below.alloc ?_ (by first | (simp;done) | (simp;omega)) _ | refine Below.setCell ?_ (by first | (simp;done) | (simp;omega)) _ | refine below_step ?_ (by assumption)))⟩

set_option maxRecDepth 100000 in
set_option maxHeartbeats 2000000 in
theorem s_sinew_fin (c:Nat) (w:World) (hf:eqk .f32 (B .sub c c) 0 = true) :
  Calls Tryz.prog 254 #[.float .f64 (wid c)] w (Ret .f64 (sineX c) w):=by
 obtain ⟨s,m,e,hx⟩:=fin_num hf
 obtain ⟨m1,e1,hy,-⟩:=wid_num hx
 have hlt:=wid_lt c
 have hge:=ge_abs hlt hy
 have hcn:cn .f64 (wid c) = wid c:=cn_of_not (fin_not hf)
 have hti:gek .f64 (absW (wid c)) 4841369599423283200 = false → ∃ n,floatToIntVal .f64 (wid c) .i64 = some n ∧ D .sub (wid c) (floatOfInt .f64 n) = sin1 (wid c):=trunc_int hlt hy
 have hD:eqk .f64 (D .sub (wid c) (wid c)) 0 = true:=by rw [fin_wid];exact hf
 have HD:=Lib.hid hD
 have HF:=Lib.hid hf
 clear hD hf hx hy hlt s m e m1 e1
 have HX:Hid (∀ v,(gek .f64 (absW (wid c)) 4841369599423283200 = true → v = 0) → (gek .f64 (absW (wid c)) 4841369599423283200 = false → v = sinW (wid c)) → v = sineX c):=fun v h1 h2 => by
  unfold sineX
  rw [HF.out,if_pos rfl]
  by_cases h:gek .f64 (absW (wid c)) 4841369599423283200 = true
  ·rw [if_pos h];exact h1 h
  ·rw [if_neg h];exact h2 (by simpa using h)
 generalize sineX c = sx at *
 generalize wid c = y at *
 have hstart:∀ r,cn .f64 r = bin .sub .f64 (cn .f64 y) (cn .f64 y) → (FloatKind.f64.format.order r 0 != some .eq) = false:=fun r hr => by
  have h1:=HD.out
  rw [hcn] at hr
  rw [← show cn .f64 r = D .sub y y from hr,eqk,ord_r0] at h1
  rw [bne,h1];rfl
 cases hG:gek .f64 (absW y) 4841369599423283200
 ·obtain ⟨nn,hnn,hs1⟩:=hti hG
  have HG:=Lib.hid hG
  rw [hG,Bool.or_eq_false_iff] at hge
  obtain ⟨hg1,hg2⟩:=hge
  have HN:=Lib.hid hnn
  have HS1:=Lib.hid hs1
  have HCN:=Lib.hid hcn
  clear hG hti hnn hs1 hcn
  have HST:=Lib.hid hstart
  clear hstart
  go_enter Tryz.func254,Tryz.ntmps254
  go_upto_if 26 with (first | ((refine wp_bin rfl _ _ _ _ _ rfl _ _ _ rfl rfl rfl ?_;intro r n hr);have he:=HST.out _ hr;clear HST) | (refine wp_op rfl (.int .i64 nn) _ (exec_convert _ _ _ _ _ rfl _ _ _ (run_convert_float_int _ _ _ _ _ _ _ some_f64 Tryz.underlying2 HN.out)) ?_) | (refine wp_bin rfl _ _ _ _ _ rfl _ _ _ rfl rfl rfl ?_;intro r n hr))
  have hq1:cn .f64 r = sin1 y:=by
   rw [hr,HCN.out,cn_ofInt];exact HS1.out
  have hw1:Below w.heap.size w (w.drewN 0):=(by repeat' (first | exact Below.refl _ _ | exact Nat.le_refl _ | refine below_drewN ?_ _ | refine Below.alloc ?_ (by first | (simp;done) | (simp;omega)) _ | refine Below.setCell ?_ (by first | (simp;done) | (simp;omega)) _ | refine below_step ?_ (by assumption)))
  clear hr he hg1 hg2
  go_cut [3] (fun s3 wx => (∃ q,s3 = .float .f64 q ∧ cn .f64 q = sin2 y) ∧ Below w.heap.size w wx)
  case first =>
   go_wp2_with (refine wp_bin rfl _ _ _ _ _ rfl _ _ _ rfl rfl rfl ?_;intro r n hr)
   ·go_meet
    case rel =>
     have he:=ltk_of' ‹(FloatKind.f64.format.order _ 0 == some .lt) = true›
     simp only [*] at he
     exact ⟨⟨_,rfl,by simp only [sin2,he,cn_c1,Bool.not_true,Bool.not_false,Bool.false_eq_true,if_true,if_false, *]⟩,(by repeat' (first | exact Below.refl _ _ | exact Nat.le_refl _ | refine below_drewN ?_ _ | refine Below.alloc ?_ (by first | (simp;done) | (simp;omega)) _ | refine Below.setCell ?_ (by first | (simp;done) | (simp;omega)) _ | refine below_step ?_ (by assumption)))⟩
   ·go_meet
    case rel =>
     have he:=ltk_of' ‹(FloatKind.f64.format.order _ 0 == some .lt) = false›
     simp only [*] at he
     exact ⟨⟨_,rfl,by simp only [sin2,he,Bool.not_true,Bool.not_false,Bool.false_eq_true,if_true,if_false, *]⟩,(by repeat' (first | exact Below.refl _ _ | exact Nat.le_refl _ | refine below_drewN ?_ _ | refine Below.alloc ?_ (by first | (simp;done) | (simp;omega)) _ | refine Below.setCell ?_ (by first | (simp;done) | (simp;omega)) _ | refine below_step ?_ (by assumption)))⟩
  case rest =>
   clear hw1 hq1
   obtain ⟨⟨q2,rfl,hq2⟩,hw2⟩:=hcut
   have hT:(FloatKind.f64.format.order q2 4602678819172646912 == some .gt || FloatKind.f64.format.order q2 4602678819172646912 == some .eq) = sinT y:=by
    unfold sinT;rw [← hq2,gek_c cn_c2]
   have HT:Hid ((FloatKind.f64.format.order q2 4602678819172646912 == some .gt || FloatKind.f64.format.order q2 4602678819172646912 == some .eq) = sinT y):=hT
   clear hT
   go_upto_if 31 with fail
   rw [HT.out]
   go_cut [3,4] (fun s3 s5 wx => (∃ q,s3 = .float .f64 q ∧ cn .f64 q = sin3 y) ∧ s5 = .bool (sinT y) ∧ Below w.heap.size w wx)
   case first =>
    cases hT:sinT y
    all_goals
     have HT2:=Lib.hid hT
     clear hT
     go_wp2_with (refine wp_bin rfl _ _ _ _ _ rfl _ _ _ rfl rfl rfl ?_;intro r n hr)
     go_meet
     case rel => exact ⟨⟨_,rfl,by simp only [sin3,HT2.out,cn_c2,Bool.not_true,Bool.not_false,Bool.false_eq_true,if_true,if_false, *]⟩,by rw [HT2.out],(by repeat' (first | exact Below.refl _ _ | exact Nat.le_refl _ | refine below_drewN ?_ _ | refine Below.alloc ?_ (by first | (simp;done) | (simp;omega)) _ | refine Below.setCell ?_ (by first | (simp;done) | (simp;omega)) _ | refine below_step ?_ (by assumption)))⟩
   case rest =>
    clear hw2
    obtain ⟨⟨q3,rfl,hq3⟩,rfl,hw3⟩:=hcut
    go_upto_if 35 with fail
    go_cut [3] (fun s3 wx => (∃ q,s3 = .float .f64 q ∧ cn .f64 q = sin4 y) ∧ Below w.heap.size w wx)
    case first =>
     go_wp2_with (refine wp_bin rfl _ _ _ _ _ rfl _ _ _ rfl rfl rfl ?_;intro r n hr)
     ·go_meet
      case rel =>
       have he:=gtk_c cn_c3 ‹(FloatKind.f64.format.order _ 4598175219545276416 == some .gt) = true›
       simp only [*] at he
       exact ⟨⟨_,rfl,by simp only [sin4,he,cn_c2,Bool.not_true,Bool.not_false,Bool.false_eq_true,if_true,if_false, *]⟩,(by repeat' (first | exact Below.refl _ _ | exact Nat.le_refl _ | refine below_drewN ?_ _ | refine Below.alloc ?_ (by first | (simp;done) | (simp;omega)) _ | refine Below.setCell ?_ (by first | (simp;done) | (simp;omega)) _ | refine below_step ?_ (by assumption)))⟩
     ·go_meet
      case rel =>
       have he:=gtk_c cn_c3 ‹(FloatKind.f64.format.order _ 4598175219545276416 == some .gt) = false›
       simp only [*] at he
       exact ⟨⟨_,rfl,by simp only [sin4,he,cn_c2,Bool.not_true,Bool.not_false,Bool.false_eq_true,if_true,if_false, *]⟩,(by repeat' (first | exact Below.refl _ _ | exact Nat.le_refl _ | refine below_drewN ?_ _ | refine Below.alloc ?_ (by first | (simp;done) | (simp;omega)) _ | refine Below.setCell ?_ (by first | (simp;done) | (simp;omega)) _ | refine below_step ?_ (by assumption)))⟩
    case rest =>
     clear hw3
     obtain ⟨⟨q4,rfl,hq4⟩,hw4⟩:=hcut
     go_wp2_with (refine wp_bin rfl _ _ _ _ _ rfl _ _ _ rfl rfl rfl ?_;intro r n hr)
     go_loopw [7,8] (fun p k wr => ∃ n:Nat,∃ pw,n ≤ 8 ∧ k = .int .i64 (8 - (n:Int)) ∧ p = .float .f64 pw ∧ cn .f64 pw = polyF (D .mul (sinZ y) (sinZ y)) n ∧ Below w.heap.size w wr) (fun _ k _ => (intOf k).toNat)
     case atStart => exact ⟨0,_,by omega,rfl,rfl,by rw [cn_c1];rfl,(by repeat' (first | exact Below.refl _ _ | exact Nat.le_refl _ | refine below_drewN ?_ _ | refine Below.alloc ?_ (by first | (simp;done) | (simp;omega)) _ | refine Below.setCell ?_ (by first | (simp;done) | (simp;omega)) _ | refine below_step ?_ (by assumption)))⟩
     case round =>
      obtain ⟨m,pw,hm,rfl,rfl,hp,hwr⟩:=hrel
      by_cases hlt:m < 8
      ·go_wp2_with (refine wp_bin rfl _ _ _ _ _ rfl _ _ _ rfl rfl rfl ?_;intro r n hr)
       refine ⟨⟨m + 1,_,by omega,by congr 1;omega,rfl,?_,by exact below_drewN hwr _⟩,by simp [intOf];omega⟩
       have hw6:=wrap_fac m hlt
       simp only [polyF,facN,sinZ,cn_c1,cn_c4,cn_ofInt,D,hw6, *]
      ·obtain rfl:m = 8:=by omega
       rw [show ((8:Int) - ((8:Nat):Int)) = 0 from rfl]
       go_upto_if 59 with (refine wp_bin rfl _ _ _ _ _ rfl _ _ _ rfl rfl rfl ?_;intro r n hr)
       cases hT:sinT y
       ·have HT2:Hid (sinT y = false):=hT
        clear hT
        go_wp2_with (refine wp_bin rfl _ _ _ _ _ rfl _ _ _ rfl rfl rfl ?_;intro r n hr)
        go_ret
        exact ⟨_,rfl,HX.out _ (fun h => by rw [HG.out] at h;cases h) (fun _ => by simp only [sinW,HT2.out,sinO,sinZ,cn_c4,D,Bool.false_eq_true,if_false, *]),(by repeat' (first | exact Below.refl _ _ | exact Nat.le_refl _ | refine below_drewN ?_ _ | refine Below.alloc ?_ (by first | (simp;done) | (simp;omega)) _ | refine Below.setCell ?_ (by first | (simp;done) | (simp;omega)) _ | refine below_step ?_ (by assumption)))⟩
       ·have HT2:Hid (sinT y = true):=hT
        clear hT
        go_wp2_with (refine wp_bin rfl _ _ _ _ _ rfl _ _ _ rfl rfl rfl ?_;intro r n hr)
        go_ret
        exact ⟨_,rfl,HX.out _ (fun h => by rw [HG.out] at h;cases h) (fun _ => by simp only [sinW,HT2.out,sinO,sinZ,cn_c4,D,Bool.false_eq_true,if_false,if_true,← negc_cn, *]),(by repeat' (first | exact Below.refl _ _ | exact Nat.le_refl _ | refine below_drewN ?_ _ | refine Below.alloc ?_ (by first | (simp;done) | (simp;omega)) _ | refine Below.setCell ?_ (by first | (simp;done) | (simp;omega)) _ | refine below_step ?_ (by assumption)))⟩
 ·have HG:=Lib.hid hG
  have HST:=Lib.hid hstart
  cases hg1:(FloatKind.f64.format.order y 4841369599423283200 == some .gt || FloatKind.f64.format.order y 4841369599423283200 == some .eq)
  ·have hg2:(FloatKind.f64.format.order y 14064741636278059008 == some .lt || FloatKind.f64.format.order y 14064741636278059008 == some .eq) = true:=by rw [hg1,hG,Bool.false_or] at hge;exact hge
   clear hG hti hstart hge hcn
   go_enter Tryz.func254,Tryz.ntmps254
   go_wp2_with (first | ((refine wp_bin rfl _ _ _ _ _ rfl _ _ _ rfl rfl rfl ?_;intro r n hr);have he:=HST.out _ hr;clear HST) | (refine wp_bin rfl _ _ _ _ _ rfl _ _ _ rfl rfl rfl ?_;intro r n hr))
   go_ret
   exact ⟨_,rfl,by rw [cn_zero];exact HX.out _ (fun _ => rfl) (fun h => by rw [HG.out] at h;cases h),(by repeat' (first | exact Below.refl _ _ | exact Nat.le_refl _ | refine below_drewN ?_ _ | refine Below.alloc ?_ (by first | (simp;done) | (simp;omega)) _ | refine Below.setCell ?_ (by first | (simp;done) | (simp;omega)) _ | refine below_step ?_ (by assumption)))⟩
  ·clear hG hti hstart hge hcn
   go_enter Tryz.func254,Tryz.ntmps254
   go_wp2_with (first | ((refine wp_bin rfl _ _ _ _ _ rfl _ _ _ rfl rfl rfl ?_;intro r n hr);have he:=HST.out _ hr;clear HST) | (refine wp_bin rfl _ _ _ _ _ rfl _ _ _ rfl rfl rfl ?_;intro r n hr))
   go_ret
   exact ⟨_,rfl,by rw [cn_zero];exact HX.out _ (fun _ => rfl) (fun h => by rw [HG.out] at h;cases h),(by repeat' (first | exact Below.refl _ _ | exact Nat.le_refl _ | refine below_drewN ?_ _ | refine Below.alloc ?_ (by first | (simp;done) | (simp;omega)) _ | refine Below.setCell ?_ (by first | (simp;done) | (simp;omega)) _ | refine below_step ?_ (by assumption)))⟩

theorem s_sinew_any (a c:Nat) (w:World) (ha:cn .f64 a = wid c):Calls Tryz.prog 254 #[.float .f64 a] w (Ret .f64 (sineX c) w):=by
 cases hf:eqk .f32 (B .sub c c) 0
 ·exact s_sinew_nan a c w ha hf
 ·have h1:cn .f64 a = a:=cn_of_not (by rw [← isNaN_cn,ha];exact fin_not hf)
  rw [h1] at ha
  subst ha
  exact s_sinew_fin c w hf

theorem fits_x (c:Nat):fits (sineX c):=by
 unfold sineX
 by_cases h:eqk .f32 (B .sub c c) 0 = true
 ·rw [if_pos h]
  split
  ·have h0:FloatKind.f64.decode 0 = .number false 0 (-1074):=by decide +kernel
   exact fits_le (b:=0) h0 (by omega) (by omega) (by unfold Ft.val;omega) (by omega)
  ·exact fits_sin c h
 ·rw [if_neg h];exact fits_nan

theorem nar_x (c:Nat):nar (sineX c) = sineF c:=by
 unfold sineX sineF
 split
 ·split
  ·decide +kernel
  ·rfl
 ·exact nar_nan

set_option maxHeartbeats 400000 in
theorem s_sine_any (a:Nat) (w:World):Calls Tryz.prog 189 #[.float .f32 a] w (Ret .f32 (sineF (cn .f32 a)) w):=by
 go_enter Tryz.func189,Tryz.ntmps189
 go_wp2_with (first
  | (go_at_call 254;refine (s_sinew_any _ (cn .f32 a) _ hr).mono ?_;rintro _ w1 ⟨r1,rfl,hr1,hb1⟩)
  | (go_at_call 253;refine (s_narrow_any _ _ (by rw [hr1];exact fits_x _)).mono ?_;rintro _ w2 ⟨r2,rfl,hr2,hb2⟩)
  | (refine wp_wid rfl _ _ _ rfl _ rfl ?_ ?_ fitsW_all ?_;exact some_f32;exact Tryz.underlying89;intro r n hr))
 go_ret
 exact ⟨_,rfl,by rw [hr2,hr1,nar_x],(by repeat' (first | exact Below.refl _ _ | exact Nat.le_refl _ | refine below_drewN ?_ _ | refine Below.alloc ?_ (by first | (simp;done) | (simp;omega)) _ | refine Below.setCell ?_ (by first | (simp;done) | (simp;omega)) _ | refine below_step ?_ (by assumption)))⟩
end Go.Proofs.YtbiacfkiakddiaaGreat

namespace Go.Proofs.YtbiacfkiakddiaaGreat
open Go.RowKit Go.Fl
theorem n20:((2:Int) = 0) = False:=by decide
theorem n21:((2:Int) = 1) = False:=by decide
theorem n10:((1:Int) = 0) = False:=by decide
theorem n01:((0:Int) = 1) = False:=by decide

set_option maxRecDepth 100000 in
set_option maxHeartbeats 1000000 in
theorem s_turned_0 (x y z t:Nat) (w:World) :
  Calls Tryz.prog 275 #[V3 x y z,.int .i64 0,F1 t] w (RetV (cn .f32 x) (turn1 (cn .f32 t) (cn .f32 y) (cn .f32 z)) (turn2 (cn .f32 t) (cn .f32 y) (cn .f32 z)) w):=by
 go_enter Tryz.func275,Tryz.ntmps275
 go_upto_region 1 with (fail)
 have Wb:Below w.heap.size w ((w.alloc (.cells #[.float .f32 x,.float .f32 y,.float .f32 z] 38)).alloc (.cells #[.float .f32 0,.float .f32 0,.float .f32 0] 38)):=(by repeat' (first | exact Below.refl _ _ | exact Nat.le_refl _ | refine below_drewN ?_ _ | refine Below.alloc ?_ (by first | (simp;done) | (simp;omega)) _ | refine Below.setCell ?_ (by first | (simp;done) | (simp;omega)) _ | refine below_step ?_ (by assumption)))

 have hkept:Kept [(⟨w.heap.size,0,none⟩,.float .f32 x),(⟨w.heap.size,1,none⟩,.float .f32 y),(⟨w.heap.size,2,none⟩,.float .f32 z),(⟨w.heap.size + 1,0,none⟩,.float .f32 0),(⟨w.heap.size + 1,1,none⟩,.float .f32 0),(⟨w.heap.size + 1,2,none⟩,.float .f32 0)] [⟨w.heap.size + 1,0,none⟩,⟨w.heap.size + 1,1,none⟩,⟨w.heap.size + 1,2,none⟩] ((w.alloc (.cells #[.float .f32 x,.float .f32 y,.float .f32 z] 38)).alloc (.cells #[.float .f32 0,.float .f32 0,.float .f32 0] 38)):=by
  simp only [Kept,ka,kb,kc,kd,ke,and_true,true_and];simp
 generalize (w.alloc (.cells #[.float .f32 x,.float .f32 y,.float .f32 z] 38)).alloc (.cells #[.float .f32 0,.float .f32 0,.float .f32 0] 38) = W1 at Wb hkept ⊢
 have hK:=hkept
 simp only [Kept,ka,kb,kc,kd,ke,and_true,true_and] at hK
 go_wp2_with (first
  | (go_at_call 189;refine (s_sine_any _ _).mono ?_;rintro _ w1 ⟨r1,rfl,hr1,hb1⟩;(first | have hkept:=keep hkept hb1 | have hkept:=keep (kept_drewN hkept _) hb1 | have hkept:=keep (kept_drewN (kept_drewN hkept _) _) hb1 | have hkept:=keep (kept_drewN (kept_drewN (kept_drewN hkept _) _) _) hb1);clear hK;have hK:=hkept;simp only [Kept,ka,kb,kc,kd,ke,and_true,true_and] at hK)
  | (go_at_call 142;refine (s_pick_any _ _ _ _ _).mono ?_;rintro _ w1 ⟨rfl,hb1⟩;(first | have hkept:=keep hkept hb1 | have hkept:=keep (kept_drewN hkept _) hb1 | have hkept:=keep (kept_drewN (kept_drewN hkept _) _) hb1 | have hkept:=keep (kept_drewN (kept_drewN (kept_drewN hkept _) _) _) hb1);clear hK;have hK:=hkept;simp only [Kept,ka,kb,kc,kd,ke,and_true,true_and] at hK)
  | (go_at_call 143;refine (s_set_any _ _ _ _ _ _).mono ?_;rintro _ w1 ⟨rfl,hb1⟩;(first | have hkept:=keep hkept hb1 | have hkept:=keep (kept_drewN hkept _) hb1 | have hkept:=keep (kept_drewN (kept_drewN hkept _) _) hb1 | have hkept:=keep (kept_drewN (kept_drewN (kept_drewN hkept _) _) _) hb1);clear hK;have hK:=hkept;simp only [Kept,ka,kb,kc,kd,ke,and_true,true_and] at hK)
  | (refine wp_bin rfl _ _ _ _ _ rfl _ _ _ rfl rfl rfl ?_;intro r n hr))
 exact bodyPost_ret (v:=.agg #[.float .f32 _,.float .f32 _,.float .f32 _]) (by simp [results,Tryz.results275,go_sem,hK];exact ⟨rfl,rfl,rfl⟩) rfl ⟨_,_,_,rfl,by simp only [setX,setY,setZ,pickF,n20,n21,n10,n01,if_true,if_false,turn1,turn2,cn_c6, *];done,by simp only [setX,setY,setZ,pickF,n20,n21,n10,n01,if_true,if_false,turn1,turn2,cn_c6, *];done,by simp only [setX,setY,setZ,pickF,n20,n21,n10,n01,if_true,if_false,turn1,turn2,cn_c6, *];done,(by repeat' (first | exact Below.refl _ _ | exact Nat.le_refl _ | refine below_drewN ?_ _ | refine Below.alloc ?_ (by first | (simp;done) | (simp;omega)) _ | refine Below.setCell ?_ (by first | (simp;done) | (simp;omega)) _ | refine below_step ?_ (by assumption)))⟩

set_option maxRecDepth 100000 in
set_option maxHeartbeats 1000000 in
theorem s_turned_1 (x y z t:Nat) (w:World) :
  Calls Tryz.prog 275 #[V3 x y z,.int .i64 1,F1 t] w (RetV (turn2 (cn .f32 t) (cn .f32 z) (cn .f32 x)) (cn .f32 y) (turn1 (cn .f32 t) (cn .f32 z) (cn .f32 x)) w):=by
 go_enter Tryz.func275,Tryz.ntmps275
 go_upto_region 1 with (fail)
 have Wb:Below w.heap.size w ((w.alloc (.cells #[.float .f32 x,.float .f32 y,.float .f32 z] 38)).alloc (.cells #[.float .f32 0,.float .f32 0,.float .f32 0] 38)):=(by repeat' (first | exact Below.refl _ _ | exact Nat.le_refl _ | refine below_drewN ?_ _ | refine Below.alloc ?_ (by first | (simp;done) | (simp;omega)) _ | refine Below.setCell ?_ (by first | (simp;done) | (simp;omega)) _ | refine below_step ?_ (by assumption)))

 have hkept:Kept [(⟨w.heap.size,0,none⟩,.float .f32 x),(⟨w.heap.size,1,none⟩,.float .f32 y),(⟨w.heap.size,2,none⟩,.float .f32 z),(⟨w.heap.size + 1,0,none⟩,.float .f32 0),(⟨w.heap.size + 1,1,none⟩,.float .f32 0),(⟨w.heap.size + 1,2,none⟩,.float .f32 0)] [⟨w.heap.size + 1,0,none⟩,⟨w.heap.size + 1,1,none⟩,⟨w.heap.size + 1,2,none⟩] ((w.alloc (.cells #[.float .f32 x,.float .f32 y,.float .f32 z] 38)).alloc (.cells #[.float .f32 0,.float .f32 0,.float .f32 0] 38)):=by
  simp only [Kept,ka,kb,kc,kd,ke,and_true,true_and];simp
 generalize (w.alloc (.cells #[.float .f32 x,.float .f32 y,.float .f32 z] 38)).alloc (.cells #[.float .f32 0,.float .f32 0,.float .f32 0] 38) = W1 at Wb hkept ⊢
 have hK:=hkept
 simp only [Kept,ka,kb,kc,kd,ke,and_true,true_and] at hK
 go_wp2_with (first
  | (go_at_call 189;refine (s_sine_any _ _).mono ?_;rintro _ w1 ⟨r1,rfl,hr1,hb1⟩;(first | have hkept:=keep hkept hb1 | have hkept:=keep (kept_drewN hkept _) hb1 | have hkept:=keep (kept_drewN (kept_drewN hkept _) _) hb1 | have hkept:=keep (kept_drewN (kept_drewN (kept_drewN hkept _) _) _) hb1);clear hK;have hK:=hkept;simp only [Kept,ka,kb,kc,kd,ke,and_true,true_and] at hK)
  | (go_at_call 142;refine (s_pick_any _ _ _ _ _).mono ?_;rintro _ w1 ⟨rfl,hb1⟩;(first | have hkept:=keep hkept hb1 | have hkept:=keep (kept_drewN hkept _) hb1 | have hkept:=keep (kept_drewN (kept_drewN hkept _) _) hb1 | have hkept:=keep (kept_drewN (kept_drewN (kept_drewN hkept _) _) _) hb1);clear hK;have hK:=hkept;simp only [Kept,ka,kb,kc,kd,ke,and_true,true_and] at hK)
  | (go_at_call 143;refine (s_set_any _ _ _ _ _ _).mono ?_;rintro _ w1 ⟨rfl,hb1⟩;(first | have hkept:=keep hkept hb1 | have hkept:=keep (kept_drewN hkept _) hb1 | have hkept:=keep (kept_drewN (kept_drewN hkept _) _) hb1 | have hkept:=keep (kept_drewN (kept_drewN (kept_drewN hkept _) _) _) hb1);clear hK;have hK:=hkept;simp only [Kept,ka,kb,kc,kd,ke,and_true,true_and] at hK)
  | (refine wp_bin rfl _ _ _ _ _ rfl _ _ _ rfl rfl rfl ?_;intro r n hr))
 exact bodyPost_ret (v:=.agg #[.float .f32 _,.float .f32 _,.float .f32 _]) (by simp [results,Tryz.results275,go_sem,hK];exact ⟨rfl,rfl,rfl⟩) rfl ⟨_,_,_,rfl,by simp only [setX,setY,setZ,pickF,n20,n21,n10,n01,if_true,if_false,turn1,turn2,cn_c6, *];done,by simp only [setX,setY,setZ,pickF,n20,n21,n10,n01,if_true,if_false,turn1,turn2,cn_c6, *];done,by simp only [setX,setY,setZ,pickF,n20,n21,n10,n01,if_true,if_false,turn1,turn2,cn_c6, *];done,(by repeat' (first | exact Below.refl _ _ | exact Nat.le_refl _ | refine below_drewN ?_ _ | refine Below.alloc ?_ (by first | (simp;done) | (simp;omega)) _ | refine Below.setCell ?_ (by first | (simp;done) | (simp;omega)) _ | refine below_step ?_ (by assumption)))⟩

set_option maxRecDepth 100000 in
set_option maxHeartbeats 1000000 in
theorem s_turned_2 (x y z t:Nat) (w:World) :
  Calls Tryz.prog 275 #[V3 x y z,.int .i64 2,F1 t] w (RetV (turn1 (cn .f32 t) (cn .f32 x) (cn .f32 y)) (turn2 (cn .f32 t) (cn .f32 x) (cn .f32 y)) (cn .f32 z) w):=by
 go_enter Tryz.func275,Tryz.ntmps275
 go_upto_region 1 with (fail)
 have Wb:Below w.heap.size w ((w.alloc (.cells #[.float .f32 x,.float .f32 y,.float .f32 z] 38)).alloc (.cells #[.float .f32 0,.float .f32 0,.float .f32 0] 38)):=(by repeat' (first | exact Below.refl _ _ | exact Nat.le_refl _ | refine below_drewN ?_ _ | refine Below.alloc ?_ (by first | (simp;done) | (simp;omega)) _ | refine Below.setCell ?_ (by first | (simp;done) | (simp;omega)) _ | refine below_step ?_ (by assumption)))

 have hkept:Kept [(⟨w.heap.size,0,none⟩,.float .f32 x),(⟨w.heap.size,1,none⟩,.float .f32 y),(⟨w.heap.size,2,none⟩,.float .f32 z),(⟨w.heap.size + 1,0,none⟩,.float .f32 0),(⟨w.heap.size + 1,1,none⟩,.float .f32 0),(⟨w.heap.size + 1,2,none⟩,.float .f32 0)] [⟨w.heap.size + 1,0,none⟩,⟨w.heap.size + 1,1,none⟩,⟨w.heap.size + 1,2,none⟩] ((w.alloc (.cells #[.float .f32 x,.float .f32 y,.float .f32 z] 38)).alloc (.cells #[.float .f32 0,.float .f32 0,.float .f32 0] 38)):=by
  simp only [Kept,ka,kb,kc,kd,ke,and_true,true_and];simp
 generalize (w.alloc (.cells #[.float .f32 x,.float .f32 y,.float .f32 z] 38)).alloc (.cells #[.float .f32 0,.float .f32 0,.float .f32 0] 38) = W1 at Wb hkept ⊢
 have hK:=hkept
 simp only [Kept,ka,kb,kc,kd,ke,and_true,true_and] at hK
 go_wp2_with (first
  | (go_at_call 189;refine (s_sine_any _ _).mono ?_;rintro _ w1 ⟨r1,rfl,hr1,hb1⟩;(first | have hkept:=keep hkept hb1 | have hkept:=keep (kept_drewN hkept _) hb1 | have hkept:=keep (kept_drewN (kept_drewN hkept _) _) hb1 | have hkept:=keep (kept_drewN (kept_drewN (kept_drewN hkept _) _) _) hb1);clear hK;have hK:=hkept;simp only [Kept,ka,kb,kc,kd,ke,and_true,true_and] at hK)
  | (go_at_call 142;refine (s_pick_any _ _ _ _ _).mono ?_;rintro _ w1 ⟨rfl,hb1⟩;(first | have hkept:=keep hkept hb1 | have hkept:=keep (kept_drewN hkept _) hb1 | have hkept:=keep (kept_drewN (kept_drewN hkept _) _) hb1 | have hkept:=keep (kept_drewN (kept_drewN (kept_drewN hkept _) _) _) hb1);clear hK;have hK:=hkept;simp only [Kept,ka,kb,kc,kd,ke,and_true,true_and] at hK)
  | (go_at_call 143;refine (s_set_any _ _ _ _ _ _).mono ?_;rintro _ w1 ⟨rfl,hb1⟩;(first | have hkept:=keep hkept hb1 | have hkept:=keep (kept_drewN hkept _) hb1 | have hkept:=keep (kept_drewN (kept_drewN hkept _) _) hb1 | have hkept:=keep (kept_drewN (kept_drewN (kept_drewN hkept _) _) _) hb1);clear hK;have hK:=hkept;simp only [Kept,ka,kb,kc,kd,ke,and_true,true_and] at hK)
  | (refine wp_bin rfl _ _ _ _ _ rfl _ _ _ rfl rfl rfl ?_;intro r n hr))
 exact bodyPost_ret (v:=.agg #[.float .f32 _,.float .f32 _,.float .f32 _]) (by simp [results,Tryz.results275,go_sem,hK];exact ⟨rfl,rfl,rfl⟩) rfl ⟨_,_,_,rfl,by simp only [setX,setY,setZ,pickF,n20,n21,n10,n01,if_true,if_false,turn1,turn2,cn_c6, *];done,by simp only [setX,setY,setZ,pickF,n20,n21,n10,n01,if_true,if_false,turn1,turn2,cn_c6, *];done,by simp only [setX,setY,setZ,pickF,n20,n21,n10,n01,if_true,if_false,turn1,turn2,cn_c6, *];done,(by repeat' (first | exact Below.refl _ _ | exact Nat.le_refl _ | refine below_drewN ?_ _ | refine Below.alloc ?_ (by first | (simp;done) | (simp;omega)) _ | refine Below.setCell ?_ (by first | (simp;done) | (simp;omega)) _ | refine below_step ?_ (by assumption)))⟩
end Go.Proofs.YtbiacfkiakddiaaGreat

namespace Go.Proofs.YtbiacfkiakddiaaGreat
open Go.RowKit Go.Fl
theorem validc_any (a:Nat) (w:World) :
  Calls Tryz.prog 131 #[I64 a] w (fun e w' => e = .returned (.bool (a != 1)) ∧ Below w.heap.size w w'):=by
 go_enter Tryz.func131,Tryz.ntmps131
 by_cases h:a = 1
 ·subst h
  go_wp2_with fail
  go_ret
  exact ⟨rfl,Below.refl _ _⟩
 ·have h2:(a != 1) = true:=by simpa using h
  have h3:(((a:Int)) != 1) = true:=by simp;omega
  rw [h2]
  go_wp2_with fail
  go_ret
  exact ⟨rfl,Below.refl _ _⟩

set_option maxRecDepth 100000 in
set_option maxHeartbeats 1000000 in
theorem index_int (p:Nat → Bool) (xs:List Nat) (bp:Option Addr) (bv ov cap:Nat) (w:World) (h1:xs ≠ [] → bp = some ⟨bv,ov,none⟩) (h2:∀ i (h:i < xs.length),w.cell? ⟨bv,ov + i,none⟩ = some (I64 xs[i])) (hl:xs.length < 10000000)
  (hcall:∀ (x:Nat) w',Below w.heap.size w w' → Calls Tryz.prog 131 #[I64 x] w' (fun e w'' => e = .returned (.bool (p x)) ∧ Below w'.heap.size w' w'')) :
  Calls Tryz.prog 207 #[.slice bp xs.length cap,.func (.func 131) #[] #[]] w (fun e w' => ∃ r:Int,e = .returned (.int .i64 r) ∧ decide (0 ≤ r) = xs.any p ∧ Below w.heap.size w w'):=by
 go_enter Tryz.func207,Tryz.ntmps207
 go_wp2_with fail
 go_loopw [8] (fun i wr => ∃ m:Nat,m ≤ xs.length ∧ i = .int .i64 (m:Int) ∧ (xs.take m).any p = false ∧ Below w.heap.size w wr) (fun i _ => xs.length - (intOf i).toNat)
 case atStart => exact ⟨0,by omega,rfl,rfl,(by repeat' (first | exact Below.refl _ _ | exact Nat.le_refl _ | refine below_drewN ?_ _ | refine Below.alloc ?_ (by first | (simp;done) | (simp;omega)) _ | refine Below.setCell ?_ (by first | (simp;done) | (simp;omega)) _ | refine below_step ?_ (by assumption)))⟩
 case round =>
  obtain ⟨m,hm,rfl,hany,hwr⟩:=hrel
  by_cases hlt:m < xs.length
  ·have hne:xs ≠ []:=by intro h;rw [h] at hlt;simp at hlt
   have hc:=h2 m hlt
   have hlt':(m:Int) < (xs.length:Int):=by omega
   have h0:(0:Int) ≤ (m:Int):=by omega
   have hc':wr.cell? ⟨bv,ov + m,none⟩ = some (I64 xs[m]):=by rw [lift hwr _ (by rw [hc];rfl)];exact hc
   have hbp:=h1 hne
   subst hbp
   clear h1 h2 hc
   go_wp2_with fail
   refine (hcall _ _ hwr).mono ?_
   rintro _ w2 ⟨rfl,hb2⟩
   have hwr2:=below_step hwr hb2
   cases hp:p xs[m]
   ·go_wp2_with fail
    refine ⟨⟨m + 1,by omega,by simp,any_take_succ p xs m hlt hany hp,hwr2⟩,by simp [intOf];omega⟩
   ·go_wp2_with fail
    go_ret
    refine ⟨_,rfl,?_,hwr2⟩
    rw [show xs.any p = true from List.any_eq_true.2 ⟨xs[m],List.getElem_mem _,hp⟩]
    simp
  ·obtain rfl:m = xs.length:=by omega
   go_wp2_with fail
   go_ret
   exact ⟨_,rfl,by rw [List.take_length] at hany;rw [hany];rfl,hwr⟩
set_option maxRecDepth 100000 in
set_option maxHeartbeats 1000000 in
theorem contains_int (p:Nat → Bool) (xs:List Nat) (bp:Option Addr) (bv ov cap:Nat) (w:World) (h1:xs ≠ [] → bp = some ⟨bv,ov,none⟩) (h2:∀ i (h:i < xs.length),w.cell? ⟨bv,ov + i,none⟩ = some (I64 xs[i])) (hl:xs.length < 10000000)
  (hcall:∀ (x:Nat) w',Below w.heap.size w w' → Calls Tryz.prog 131 #[I64 x] w' (fun e w'' => e = .returned (.bool (p x)) ∧ Below w'.heap.size w' w'')) :
  Calls Tryz.prog 130 #[.slice bp xs.length cap,.func (.func 131) #[] #[]] w (fun e w' => e = .returned (.bool (xs.any p)) ∧ Below w.heap.size w w'):=by
 have hi:=index_int p xs bp bv ov cap w h1 h2 hl hcall
 clear h1 h2 hcall
 go_enter Tryz.func130,Tryz.ntmps130
 go_wp2_with fail
 refine hi.mono ?_
 rintro _ w2 ⟨r,rfl,hr,hb2⟩
 cases ha:xs.any p
 ·rw [ha] at hr
  have hr':r < 0:=by simpa using hr
  go_wp2_with fail
  go_ret
  exact ⟨by rw [ha];rfl,hb2⟩
 ·rw [ha] at hr
  have hr':0 ≤ r:=by simpa using hr
  go_wp2_with fail
  go_ret
  exact ⟨by rw [ha];rfl,hb2⟩

end Go.Proofs.YtbiacfkiakddiaaGreat
