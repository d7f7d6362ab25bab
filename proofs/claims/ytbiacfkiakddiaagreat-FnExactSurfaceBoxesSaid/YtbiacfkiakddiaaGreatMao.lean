/-
 Lemmas: S9,W2,Wi.
-/
import Derived.Test.YtbiacfkiakddiaaGreatMak
import Derived.Test.YtbiacfkiakddiaaGreatMan
set_option linter.unusedVariables false
set_option linter.unusedSimpArgs false
namespace Go.Proofs.YtbiacfkiakddiaaGreat
open Go.RowKit Go.Fl
def sineX (c:Nat):Nat:=if eqk .f32 (B .sub c c) 0 then (if gek .f64 (absW (wid c)) 4841369599423283200 then 0 else sinW (wid c)) else nanw .f64

set_option maxHeartbeats 400000 in
theorem s_sinew_nan (a c:Nat) (w:World) (ha:cn .f64 a = wid c) (hf:eqk .f32 (B .sub c c) 0 = false) :
  Calls Tryz.prog 254 #[.float .f64 a] w (Ret .f64 (sineX c) w):=by
 have hD:eqk .f64 (D .sub (wid c) (wid c)) 0 = false:=by rw [fin_wid];exact hf
 have HD:=Lib.hid hD
 have HF:=Lib.hid hf
 clear hD hf
 have HST:Hid (∀ r,cn .f64 r = bin .sub .f64 (cn .f64 a) (cn .f64 a) → (FloatKind.f64.format.order r 0 != some .eq) = true):=fun r hr => by
  have h1:=HD.out
  rw [← ha,← show cn .f64 r = D .sub (cn .f64 a) (cn .f64 a) from hr,eqk,ord_r0] at h1
  rw [bne,h1];rfl
 have HA:=Lib.hid ha
 clear ha
 go_enter Tryz.func254,Tryz.ntmps254
 go_wp2_with (first | ((refine wp_bin rfl _ _ _ _ _ rfl _ _ _ rfl rfl rfl ?_;intro r n hr);have he:=HST.out _ hr) | (go_at_call 258;refine (nan_any _).mono ?_;rintro _ w1 ⟨r1,rfl,hr1,hb1⟩))
 go_ret
 exact ⟨_,rfl,by rw [hr1];simp only [sineX,HF.out];rfl,(by repeat' (first | exact Below.refl _ _ | exact Nat.le_refl _ | refine below_drewN ?_ _ | refine Below.alloc ?_ (by simp <;> omega) _ | refine Below.setCell ?_ (by simp <;> omega) _ | refine below_step ?_ (by assumption)))⟩

set_option maxRecDepth 100000 in
set_option maxHeartbeats 2000000 in
theorem s_sinew_fin (c:Nat) (w:World) (hf:eqk .f32 (B .sub c c) 0 = true) :
  Calls Tryz.prog 254 #[.float .f64 (wid c)] w (Ret .f64 (sineX c) w):=by
 obtain ⟨s,m,e,hx⟩:=fin_num hf
 obtain ⟨m1,e1,hy,-⟩:=wid_num hx
 have hlt:=wid_lt c
 have hge:=ge_abs hlt hy
 have hcn:cn .f64 (wid c) = wid c:=cn_of_not (fin_not hf)
 have hti:gek .f64 (absW (wid c)) 4841369599423283200 = false → ∃ n,floatToIntVal .f64 (wid c) .i64 = some n ∧ D .sub (wid c) (floatOfInt .f64 n) = sin1 (wid c):=trunc_int hlt hy
 have hD:eqk .f64 (D .sub (wid c) (wid c)) 0 = true:=by rw [fin_wid];exact hf
 have HD:=Lib.hid hD
 have HF:=Lib.hid hf
 clear hD hf hx hy hlt s m e m1 e1
 have HX:Hid (∀ v,(gek .f64 (absW (wid c)) 4841369599423283200 = true → v = 0) → (gek .f64 (absW (wid c)) 4841369599423283200 = false → v = sinW (wid c)) → v = sineX c):=fun v h1 h2 => by
  unfold sineX
  rw [HF.out,if_pos rfl]
  by_cases h:gek .f64 (absW (wid c)) 4841369599423283200 = true
  ·rw [if_pos h];exact h1 h
  ·rw [if_neg h];exact h2 (by simpa using h)
 generalize sineX c = sx at *
 generalize wid c = y at *
 have hstart:∀ r,cn .f64 r = bin .sub .f64 (cn .f64 y) (cn .f64 y) → (FloatKind.f64.format.order r 0 != some .eq) = false:=fun r hr => by
  have h1:=HD.out
  rw [hcn] at hr
  rw [← show cn .f64 r = D .sub y y from hr,eqk,ord_r0] at h1
  rw [bne,h1];rfl
 cases hG:gek .f64 (absW y) 4841369599423283200
 ·obtain ⟨nn,hnn,hs1⟩:=hti hG
  have HG:=Lib.hid hG
  rw [hG,Bool.or_eq_false_iff] at hge
  obtain ⟨hg1,hg2⟩:=hge
  have HN:=Lib.hid hnn
  have HS1:=Lib.hid hs1
  have HCN:=Lib.hid hcn
  clear hG hti hnn hs1 hcn
  have HST:=Lib.hid hstart
  clear hstart
  go_enter Tryz.func254,Tryz.ntmps254
  go_upto_if 26 with (first | ((refine wp_bin rfl _ _ _ _ _ rfl _ _ _ rfl rfl rfl ?_;intro r n hr);have he:=HST.out _ hr;clear HST) | (refine wp_op rfl (.int .i64 nn) _ (exec_convert _ _ _ _ _ rfl _ _ _ (run_convert_float_int _ _ _ _ _ _ _ some_f64 Tryz.underlying2 HN.out)) ?_) | (refine wp_bin rfl _ _ _ _ _ rfl _ _ _ rfl rfl rfl ?_;intro r n hr))
  have hq1:cn .f64 r = sin1 y:=by
   rw [hr,HCN.out,cn_ofInt];exact HS1.out
  have hw1:Below w.heap.size w (w.drewN 0):=(by repeat' (first | exact Below.refl _ _ | exact Nat.le_refl _ | refine below_drewN ?_ _ | refine Below.alloc ?_ (by simp <;> omega) _ | refine Below.setCell ?_ (by simp <;> omega) _ | refine below_step ?_ (by assumption)))
  clear hr he hg1 hg2
  go_cut [3] (fun s3 wx => (∃ q,s3 = .float .f64 q ∧ cn .f64 q = sin2 y) ∧ Below w.heap.size w wx)
  case first =>
   go_wp2_with (refine wp_bin rfl _ _ _ _ _ rfl _ _ _ rfl rfl rfl ?_;intro r n hr)
   ·go_meet
    case rel =>
     have he:=ltk_of' ‹(FloatKind.f64.format.order _ 0 == some .lt) = true›
     simp only [*] at he
     exact ⟨⟨_,rfl,by simp only [sin2,he,cn_c1,Bool.not_true,Bool.not_false,Bool.false_eq_true,if_true,if_false, *]⟩,(by repeat' (first | exact Below.refl _ _ | exact Nat.le_refl _ | refine below_drewN ?_ _ | refine Below.alloc ?_ (by simp <;> omega) _ | refine Below.setCell ?_ (by simp <;> omega) _ | refine below_step ?_ (by assumption)))⟩
   ·go_meet
    case rel =>
     have he:=ltk_of' ‹(FloatKind.f64.format.order _ 0 == some .lt) = false›
     simp only [*] at he
     exact ⟨⟨_,rfl,by simp only [sin2,he,Bool.not_true,Bool.not_false,Bool.false_eq_true,if_true,if_false, *]⟩,(by repeat' (first | exact Below.refl _ _ | exact Nat.le_refl _ | refine below_drewN ?_ _ | refine Below.alloc ?_ (by simp <;> omega) _ | refine Below.setCell ?_ (by simp <;> omega) _ | refine below_step ?_ (by assumption)))⟩
  case rest =>
   clear hw1 hq1
   obtain ⟨⟨q2,rfl,hq2⟩,hw2⟩:=hcut
   have hT:(FloatKind.f64.format.order q2 4602678819172646912 == some .gt || FloatKind.f64.format.order q2 4602678819172646912 == some .eq) = sinT y:=by
    unfold sinT;rw [← hq2,gek_c cn_c2]
   have HT:Hid ((FloatKind.f64.format.order q2 4602678819172646912 == some .gt || FloatKind.f64.format.order q2 4602678819172646912 == some .eq) = sinT y):=hT
   clear hT
   go_upto_if 31 with fail
   rw [HT.out]
   go_cut [3,4] (fun s3 s5 wx => (∃ q,s3 = .float .f64 q ∧ cn .f64 q = sin3 y) ∧ s5 = .bool (sinT y) ∧ Below w.heap.size w wx)
   case first =>
    cases hT:sinT y
    all_goals
     have HT2:=Lib.hid hT
     clear hT
     go_wp2_with (refine wp_bin rfl _ _ _ _ _ rfl _ _ _ rfl rfl rfl ?_;intro r n hr)
     go_meet
     case rel => exact ⟨⟨_,rfl,by simp only [sin3,HT2.out,cn_c2,Bool.not_true,Bool.not_false,Bool.false_eq_true,if_true,if_false, *]⟩,by rw [HT2.out],(by repeat' (first | exact Below.refl _ _ | exact Nat.le_refl _ | refine below_drewN ?_ _ | refine Below.alloc ?_ (by simp <;> omega) _ | refine Below.setCell ?_ (by simp <;> omega) _ | refine below_step ?_ (by assumption)))⟩
   case rest =>
    clear hw2
    obtain ⟨⟨q3,rfl,hq3⟩,rfl,hw3⟩:=hcut
    go_upto_if 35 with fail
    go_cut [3] (fun s3 wx => (∃ q,s3 = .float .f64 q ∧ cn .f64 q = sin4 y) ∧ Below w.heap.size w wx)
    case first =>
     go_wp2_with (refine wp_bin rfl _ _ _ _ _ rfl _ _ _ rfl rfl rfl ?_;intro r n hr)
     ·go_meet
      case rel =>
       have he:=gtk_c cn_c3 ‹(FloatKind.f64.format.order _ 4598175219545276416 == some .gt) = true›
       simp only [*] at he
       exact ⟨⟨_,rfl,by simp only [sin4,he,cn_c2,Bool.not_true,Bool.not_false,Bool.false_eq_true,if_true,if_false, *]⟩,(by repeat' (first | exact Below.refl _ _ | exact Nat.le_refl _ | refine below_drewN ?_ _ | refine Below.alloc ?_ (by simp <;> omega) _ | refine Below.setCell ?_ (by simp <;> omega) _ | refine below_step ?_ (by assumption)))⟩
     ·go_meet
      case rel =>
       have he:=gtk_c cn_c3 ‹(FloatKind.f64.format.order _ 4598175219545276416 == some .gt) = false›
       simp only [*] at he
       exact ⟨⟨_,rfl,by simp only [sin4,he,cn_c2,Bool.not_true,Bool.not_false,Bool.false_eq_true,if_true,if_false, *]⟩,(by repeat' (first | exact Below.refl _ _ | exact Nat.le_refl _ | refine below_drewN ?_ _ | refine Below.alloc ?_ (by simp <;> omega) _ | refine Below.setCell ?_ (by simp <;> omega) _ | refine below_step ?_ (by assumption)))⟩
    case rest =>
     clear hw3
     obtain ⟨⟨q4,rfl,hq4⟩,hw4⟩:=hcut
     go_wp2_with (refine wp_bin rfl _ _ _ _ _ rfl _ _ _ rfl rfl rfl ?_;intro r n hr)
     go_loopw [7,8] (fun p k wr => ∃ n:Nat,∃ pw,n ≤ 8 ∧ k = .int .i64 (8 - (n:Int)) ∧ p = .float .f64 pw ∧ cn .f64 pw = polyF (D .mul (sinZ y) (sinZ y)) n ∧ Below w.heap.size w wr) (fun _ k _ => (intOf k).toNat)
     case atStart => exact ⟨0,_,by omega,rfl,rfl,by rw [cn_c1];rfl,(by repeat' (first | exact Below.refl _ _ | exact Nat.le_refl _ | refine below_drewN ?_ _ | refine Below.alloc ?_ (by simp <;> omega) _ | refine Below.setCell ?_ (by simp <;> omega) _ | refine below_step ?_ (by assumption)))⟩
     case round =>
      obtain ⟨m,pw,hm,rfl,rfl,hp,hwr⟩:=hrel
      by_cases hlt:m < 8
      ·go_wp2_with (refine wp_bin rfl _ _ _ _ _ rfl _ _ _ rfl rfl rfl ?_;intro r n hr)
       refine ⟨⟨m + 1,_,by omega,by congr 1;omega,rfl,?_,by exact below_drewN hwr _⟩,by simp [intOf];omega⟩
       have hw6:=wrap_fac m hlt
       simp only [polyF,facN,sinZ,cn_c1,cn_c4,cn_ofInt,D,hw6, *]
      ·obtain rfl:m = 8:=by omega
       rw [show ((8:Int) - ((8:Nat):Int)) = 0 from rfl]
       go_upto_if 59 with (refine wp_bin rfl _ _ _ _ _ rfl _ _ _ rfl rfl rfl ?_;intro r n hr)
       cases hT:sinT y
       ·have HT2:Hid (sinT y = false):=hT
        clear hT
        go_wp2_with (refine wp_bin rfl _ _ _ _ _ rfl _ _ _ rfl rfl rfl ?_;intro r n hr)
        go_ret
        exact ⟨_,rfl,HX.out _ (fun h => by rw [HG.out] at h;cases h) (fun _ => by simp only [sinW,HT2.out,sinO,sinZ,cn_c4,D,Bool.false_eq_true,if_false, *]),(by repeat' (first | exact Below.refl _ _ | exact Nat.le_refl _ | refine below_drewN ?_ _ | refine Below.alloc ?_ (by simp <;> omega) _ | refine Below.setCell ?_ (by simp <;> omega) _ | refine below_step ?_ (by assumption)))⟩
       ·have HT2:Hid (sinT y = true):=hT
        clear hT
        go_wp2_with (refine wp_bin rfl _ _ _ _ _ rfl _ _ _ rfl rfl rfl ?_;intro r n hr)
        go_ret
        exact ⟨_,rfl,HX.out _ (fun h => by rw [HG.out] at h;cases h) (fun _ => by simp only [sinW,HT2.out,sinO,sinZ,cn_c4,D,Bool.false_eq_true,if_false,if_true,← negc_cn, *]),(by repeat' (first | exact Below.refl _ _ | exact Nat.le_refl _ | refine below_drewN ?_ _ | refine Below.alloc ?_ (by simp <;> omega) _ | refine Below.setCell ?_ (by simp <;> omega) _ | refine below_step ?_ (by assumption)))⟩
 ·have HG:=Lib.hid hG
  have HST:=Lib.hid hstart
  cases hg1:(FloatKind.f64.format.order y 4841369599423283200 == some .gt || FloatKind.f64.format.order y 4841369599423283200 == some .eq)
  ·have hg2:(FloatKind.f64.format.order y 14064741636278059008 == some .lt || FloatKind.f64.format.order y 14064741636278059008 == some .eq) = true:=by rw [hg1,hG,Bool.false_or] at hge;exact hge
   clear hG hti hstart hge hcn
   go_enter Tryz.func254,Tryz.ntmps254
   go_wp2_with (first | ((refine wp_bin rfl _ _ _ _ _ rfl _ _ _ rfl rfl rfl ?_;intro r n hr);have he:=HST.out _ hr;clear HST) | (refine wp_bin rfl _ _ _ _ _ rfl _ _ _ rfl rfl rfl ?_;intro r n hr))
   go_ret
   exact ⟨_,rfl,by rw [cn_zero];exact HX.out _ (fun _ => rfl) (fun h => by rw [HG.out] at h;cases h),(by repeat' (first | exact Below.refl _ _ | exact Nat.le_refl _ | refine below_drewN ?_ _ | refine Below.alloc ?_ (by simp <;> omega) _ | refine Below.setCell ?_ (by simp <;> omega) _ | refine below_step ?_ (by assumption)))⟩
  ·clear hG hti hstart hge hcn
   go_enter Tryz.func254,Tryz.ntmps254
   go_wp2_with (first | ((refine wp_bin rfl _ _ _ _ _ rfl _ _ _ rfl rfl rfl ?_;intro r n hr);have he:=HST.out _ hr;clear HST) | (refine wp_bin rfl _ _ _ _ _ rfl _ _ _ rfl rfl rfl ?_;intro r n hr))
   go_ret
   exact ⟨_,rfl,by rw [cn_zero];exact HX.out _ (fun _ => rfl) (fun h => by rw [HG.out] at h;cases h),(by repeat' (first | exact Below.refl _ _ | exact Nat.le_refl _ | refine below_drewN ?_ _ | refine Below.alloc ?_ (by simp <;> omega) _ | refine Below.setCell ?_ (by simp <;> omega) _ | refine below_step ?_ (by assumption)))⟩

theorem s_sinew_any (a c:Nat) (w:World) (ha:cn .f64 a = wid c):Calls Tryz.prog 254 #[.float .f64 a] w (Ret .f64 (sineX c) w):=by
 cases hf:eqk .f32 (B .sub c c) 0
 ·exact s_sinew_nan a c w ha hf
 ·have h1:cn .f64 a = a:=cn_of_not (by rw [← isNaN_cn,ha];exact fin_not hf)
  rw [h1] at ha
  subst ha
  exact s_sinew_fin c w hf

theorem fits_x (c:Nat):fits (sineX c):=by
 unfold sineX
 by_cases h:eqk .f32 (B .sub c c) 0 = true
 ·rw [if_pos h]
  split
  ·have h0:FloatKind.f64.decode 0 = .number false 0 (-1074):=by decide +kernel
   exact fits_le (b:=0) h0 (by omega) (by omega) (by unfold Ft.val;omega) (by omega)
  ·exact fits_sin c h
 ·rw [if_neg h];exact fits_nan

theorem nar_x (c:Nat):nar (sineX c) = sineF c:=by
 unfold sineX sineF
 split
 ·split
  ·decide +kernel
  ·rfl
 ·exact nar_nan

set_option maxHeartbeats 400000 in
theorem s_sine_any (a:Nat) (w:World):Calls Tryz.prog 189 #[.float .f32 a] w (Ret .f32 (sineF (cn .f32 a)) w):=by
 go_enter Tryz.func189,Tryz.ntmps189
 go_wp2_with (first
  | (go_at_call 254;refine (s_sinew_any _ (cn .f32 a) _ hr).mono ?_;rintro _ w1 ⟨r1,rfl,hr1,hb1⟩)
  | (go_at_call 253;refine (s_narrow_any _ _ (by rw [hr1];exact fits_x _)).mono ?_;rintro _ w2 ⟨r2,rfl,hr2,hb2⟩)
  | (refine wp_wid rfl _ _ _ rfl _ rfl ?_ ?_ fitsW_all ?_;exact some_f32;exact Tryz.underlying89;intro r n hr))
 go_ret
 exact ⟨_,rfl,by rw [hr2,hr1,nar_x],(by repeat' (first | exact Below.refl _ _ | exact Nat.le_refl _ | refine below_drewN ?_ _ | refine Below.alloc ?_ (by simp <;> omega) _ | refine Below.setCell ?_ (by simp <;> omega) _ | refine below_step ?_ (by assumption)))⟩
end Go.Proofs.YtbiacfkiakddiaaGreat

namespace Go.Proofs.YtbiacfkiakddiaaGreat
open Go.RowKit Go.Fl
set_option maxRecDepth 100000 in
set_option maxHeartbeats 1000000 in
theorem leaf_ball (b o bv ov cap r0 x y z:Nat) (w:World) (hk:w.cell? ⟨b,o,none⟩ = some (.int .i64 0))
  (hs:w.cell? ⟨b,o + 3,none⟩ = some (.slice (some ⟨bv,ov,none⟩) 1 cap)) (h0:w.cell? ⟨bv,ov,none⟩ = some (F1 r0)) :
  Calls Tryz.prog 217 #[.pointer (some ⟨b,o,none⟩),V3 x y z] w (Ret .f32 (ballF (cn .f32 x) (cn .f32 y) (cn .f32 z) (cn .f32 r0)) w):=by
 have hb:b < w.heap.size:=some_lt (a:=⟨b,o,none⟩) (by rw [hk];rfl)
 have hbv:bv < w.heap.size:=some_lt (a:=⟨bv,ov,none⟩) (by rw [h0];rfl)
 go_enter Tryz.func217,Tryz.ntmps217
 go_wp2_with fail
 refine Qr.wp_below 6 (by kernel_rfl) (by kernel_rfl) PhiF ?_
 repeat (first | (refine Qr.walk_plain rfl fun K hK => ?_;refine one_bin _ _ _ _ _ rfl _ _ _ rfl rfl rfl (fun r hr => ?_);go_simp;refine hK _ ?_;clear hK K) | (refine Qr.walk_plain rfl fun K hK => ?_;apply Qr.one_det;(focus (intro w' hw';have HL:=lift hw';go_simp;first | done | rfl));go_simp;refine hK _ ?_;clear hK K) | (refine Qr.walk_plain rfl fun K hK => ?_;apply Qr.one_call;(focus (intro w' hw';go_simp;first | done | exact ⟨rfl,rfl⟩));(focus (intro w' hw'; go_at_call 250;refine (long_any _ _ _ _).mono ?_;rintro _ w2 ⟨r1,rfl,hr1,hb1⟩ ;exact ⟨_,rfl,by constructor <;> assumption,below_step hw' (by assumption),by assumption⟩));intro v hv;cases hv;go_simp;refine hK _ ?_;clear hK K) | (refine Qr.walk_plain rfl fun K hK => ?_;apply Qr.one_call;(focus (intro w' hw';go_simp;first | done | exact ⟨rfl,rfl⟩));(focus (intro w' hw'; go_at_call 176;refine (inner_any _ _ _ _ _ _ _).mono ?_;rintro _ w2 ⟨r1,rfl,hr1,hb1⟩ ;exact ⟨_,rfl,by constructor <;> assumption,below_step hw' (by assumption),by assumption⟩));intro v hv;cases hv;go_simp;refine hK _ ?_;clear hK K) | (refine Qr.walk_plain rfl fun K hK => ?_;apply Qr.one_call;(focus (intro w' hw';go_simp;first | done | exact ⟨rfl,rfl⟩));(focus (intro w' hw'; go_at_call 90;refine (size_any _ _).mono ?_;rintro _ w2 ⟨r1,rfl,hr1,hb1⟩ ;exact ⟨_,rfl,by constructor <;> assumption,below_step hw' (by assumption),by assumption⟩));intro v hv;cases hv;go_simp;refine hK _ ?_;clear hK K) | (refine Qr.walk_plain rfl fun K hK => ?_;apply Qr.one_call;(focus (intro w' hw';go_simp;first | done | exact ⟨rfl,rfl⟩));(focus (intro w' hw'; go_at_call 221;refine (lesser_any _ _ _).mono ?_;rintro _ w2 ⟨r1,rfl,hr1,hb1⟩ ;exact ⟨_,rfl,by constructor <;> assumption,below_step hw' (by assumption),by assumption⟩));intro v hv;cases hv;go_simp;refine hK _ ?_;clear hK K) | (refine Qr.walk_plain rfl fun K hK => ?_;apply Qr.one_call;(focus (intro w' hw';go_simp;first | done | exact ⟨rfl,rfl⟩));(focus (intro w' hw'; go_at_call 222;refine (greater_any _ _ _).mono ?_;rintro _ w2 ⟨r1,rfl,hr1,hb1⟩ ;exact ⟨_,rfl,by constructor <;> assumption,below_step hw' (by assumption),by assumption⟩));intro v hv;cases hv;go_simp;refine hK _ ?_;clear hK K) | (refine Qr.walk_plain rfl fun K hK => ?_;apply Qr.one_call;(focus (intro w' hw';go_simp;first | done | exact ⟨rfl,rfl⟩));(focus (intro w' hw'; go_at_call 219;refine (short_any _ _ _).mono ?_;rintro _ w2 ⟨r1,rfl,hr1,hb1⟩ ;exact ⟨_,rfl,by constructor <;> assumption,below_step hw' (by assumption),by assumption⟩));intro v hv;cases hv;go_simp;refine hK _ ?_;clear hK K) | (refine Qr.walk_plain rfl fun K hK => ?_;apply Qr.one_call;(focus (intro w' hw';go_simp;first | done | exact ⟨rfl,rfl⟩));(focus (intro w' hw'; go_at_call 224;refine (bulge_any _ _ _).mono ?_;rintro _ w2 ⟨r1,rfl,hr1,hb1⟩ ;exact ⟨_,rfl,by constructor <;> assumption,below_step hw' (by assumption),by assumption⟩));intro v hv;cases hv;go_simp;refine hK _ ?_;clear hK K) | (refine Qr.walk_plain rfl fun K hK => ?_;apply Qr.one_call;(focus (intro w' hw';go_simp;first | done | exact ⟨rfl,rfl⟩));(focus (intro w' hw'; go_at_call 262;refine (fold_any _ _ _).mono ?_;rintro _ w2 ⟨r1,rfl,hr1,hb1⟩ ;exact ⟨_,rfl,by constructor <;> assumption,below_step hw' (by assumption),by assumption⟩));intro v hv;cases hv;go_simp;refine hK _ ?_;clear hK K) | (refine Qr.walk_plain rfl fun K hK => ?_;apply Qr.one_call;(focus (intro w' hw';go_simp;first | done | exact ⟨rfl,rfl⟩));(focus (intro w' hw'; go_at_call 211;refine (sine_any _ _).mono ?_;rintro _ w2 ⟨r1,rfl,hr1,hb1⟩ ;exact ⟨_,rfl,by constructor <;> assumption,below_step hw' (by assumption),by assumption⟩));intro v hv;cases hv;go_simp;refine hK _ ?_;clear hK K) | (refine Qr.walk_plain rfl fun K hK => ?_;apply Qr.one_call;(focus (intro w' hw';go_simp;first | done | exact ⟨rfl,rfl⟩));(focus (intro w' hw'; go_at_call 133;refine (coords_any _ _ _ _).mono ?_;rintro _ w2 ⟨rfl,hb1⟩ ;exact ⟨_,rfl,by constructor <;> assumption,below_step hw' (by assumption),by assumption⟩));intro v hv;cases hv;go_simp;refine hK _ ?_;clear hK K) | (refine Qr.walk_plain rfl fun K hK => ?_;apply Qr.one_call;(focus (intro w' hw';go_simp;first | done | exact ⟨rfl,rfl⟩));(focus (intro w' hw'; go_at_call 227;refine (vector_any _ _ _ _).mono ?_;rintro _ w2 ⟨rfl,hb1⟩ ;exact ⟨_,rfl,by constructor <;> assumption,below_step hw' (by assumption),by assumption⟩));intro v hv;cases hv;go_simp;refine hK _ ?_;clear hK K) | (refine Qr.walk_plain rfl fun K hK => ?_;apply Qr.one_call;(focus (intro w' hw';go_simp;first | done | exact ⟨rfl,rfl⟩));(focus (intro w' hw'; go_at_call 178;refine (less_any _ _ _ _ _ _ _).mono ?_;rintro _ w2 ⟨x1,y1,z1,rfl,hx1,hy1,hz1,hb1⟩ ;exact ⟨_,rfl,by constructor <;> assumption,below_step hw' (by assumption),by assumption⟩));intro v hv;cases hv;go_simp;refine hK _ ?_;clear hK K))
 refine Qr.walk_nil fun w3 hw3 => ?_
 go_wp2_with fail
 go_ret
 exact ⟨_,rfl,by simp only [ballF,cn_zero, *],(by repeat' (first | exact Below.refl _ _ | exact Nat.le_refl _ | refine below_drewN ?_ _ | refine Below.alloc ?_ (by simp <;> omega) _ | refine Below.setCell ?_ (by simp <;> omega) _ | refine below_step ?_ (by assumption)))⟩

set_option maxRecDepth 100000 in
set_option maxHeartbeats 1000000 in
theorem leaf_box (b o bv ov cap r0 r1 r2 x y z:Nat) (w:World) (hk:w.cell? ⟨b,o,none⟩ = some (.int .i64 1))
  (hs:w.cell? ⟨b,o + 3,none⟩ = some (.slice (some ⟨bv,ov,none⟩) 3 cap)) (h0:w.cell? ⟨bv,ov,none⟩ = some (F1 r0)) (h1:w.cell? ⟨bv,ov + 1,none⟩ = some (F1 r1)) (h2:w.cell? ⟨bv,ov + 2,none⟩ = some (F1 r2)) :
  Calls Tryz.prog 217 #[.pointer (some ⟨b,o,none⟩),V3 x y z] w (Ret .f32 (boxF (cn .f32 x) (cn .f32 y) (cn .f32 z) (cn .f32 r0) (cn .f32 r1) (cn .f32 r2)) w):=by
 have hb:b < w.heap.size:=some_lt (a:=⟨b,o,none⟩) (by rw [hk];rfl)
 have hbv:bv < w.heap.size:=some_lt (a:=⟨bv,ov,none⟩) (by rw [h0];rfl)
 go_enter Tryz.func217,Tryz.ntmps217
 go_wp2_with fail
 refine Qr.wp_below_all (by kernel_rfl) (by kernel_rfl) PhiF ?_
 repeat (first | (refine Qr.walk_plain rfl fun K hK => ?_;refine one_bin _ _ _ _ _ rfl _ _ _ rfl rfl rfl (fun r hr => ?_);go_simp;refine hK _ ?_;clear hK K) | (refine Qr.walk_plain rfl fun K hK => ?_;apply Qr.one_det;(focus (intro w' hw';have HL:=lift hw';go_simp;first | done | rfl));go_simp;refine hK _ ?_;clear hK K) | (refine Qr.walk_plain rfl fun K hK => ?_;apply Qr.one_call;(focus (intro w' hw';go_simp;first | done | exact ⟨rfl,rfl⟩));(focus (intro w' hw'; go_at_call 250;refine (long_any _ _ _ _).mono ?_;rintro _ w2 ⟨r1,rfl,hr1,hb1⟩ ;exact ⟨_,rfl,by constructor <;> assumption,below_step hw' (by assumption),by assumption⟩));intro v hv;cases hv;go_simp;refine hK _ ?_;clear hK K) | (refine Qr.walk_plain rfl fun K hK => ?_;apply Qr.one_call;(focus (intro w' hw';go_simp;first | done | exact ⟨rfl,rfl⟩));(focus (intro w' hw'; go_at_call 176;refine (inner_any _ _ _ _ _ _ _).mono ?_;rintro _ w2 ⟨r1,rfl,hr1,hb1⟩ ;exact ⟨_,rfl,by constructor <;> assumption,below_step hw' (by assumption),by assumption⟩));intro v hv;cases hv;go_simp;refine hK _ ?_;clear hK K) | (refine Qr.walk_plain rfl fun K hK => ?_;apply Qr.one_call;(focus (intro w' hw';go_simp;first | done | exact ⟨rfl,rfl⟩));(focus (intro w' hw'; go_at_call 90;refine (size_any _ _).mono ?_;rintro _ w2 ⟨r1,rfl,hr1,hb1⟩ ;exact ⟨_,rfl,by constructor <;> assumption,below_step hw' (by assumption),by assumption⟩));intro v hv;cases hv;go_simp;refine hK _ ?_;clear hK K) | (refine Qr.walk_plain rfl fun K hK => ?_;apply Qr.one_call;(focus (intro w' hw';go_simp;first | done | exact ⟨rfl,rfl⟩));(focus (intro w' hw'; go_at_call 221;refine (lesser_any _ _ _).mono ?_;rintro _ w2 ⟨r1,rfl,hr1,hb1⟩ ;exact ⟨_,rfl,by constructor <;> assumption,below_step hw' (by assumption),by assumption⟩));intro v hv;cases hv;go_simp;refine hK _ ?_;clear hK K) | (refine Qr.walk_plain rfl fun K hK => ?_;apply Qr.one_call;(focus (intro w' hw';go_simp;first | done | exact ⟨rfl,rfl⟩));(focus (intro w' hw'; go_at_call 222;refine (greater_any _ _ _).mono ?_;rintro _ w2 ⟨r1,rfl,hr1,hb1⟩ ;exact ⟨_,rfl,by constructor <;> assumption,below_step hw' (by assumption),by assumption⟩));intro v hv;cases hv;go_simp;refine hK _ ?_;clear hK K) | (refine Qr.walk_plain rfl fun K hK => ?_;apply Qr.one_call;(focus (intro w' hw';go_simp;first | done | exact ⟨rfl,rfl⟩));(focus (intro w' hw'; go_at_call 219;refine (short_any _ _ _).mono ?_;rintro _ w2 ⟨r1,rfl,hr1,hb1⟩ ;exact ⟨_,rfl,by constructor <;> assumption,below_step hw' (by assumption),by assumption⟩));intro v hv;cases hv;go_simp;refine hK _ ?_;clear hK K) | (refine Qr.walk_plain rfl fun K hK => ?_;apply Qr.one_call;(focus (intro w' hw';go_simp;first | done | exact ⟨rfl,rfl⟩));(focus (intro w' hw'; go_at_call 224;refine (bulge_any _ _ _).mono ?_;rintro _ w2 ⟨r1,rfl,hr1,hb1⟩ ;exact ⟨_,rfl,by constructor <;> assumption,below_step hw' (by assumption),by assumption⟩));intro v hv;cases hv;go_simp;refine hK _ ?_;clear hK K) | (refine Qr.walk_plain rfl fun K hK => ?_;apply Qr.one_call;(focus (intro w' hw';go_simp;first | done | exact ⟨rfl,rfl⟩));(focus (intro w' hw'; go_at_call 262;refine (fold_any _ _ _).mono ?_;rintro _ w2 ⟨r1,rfl,hr1,hb1⟩ ;exact ⟨_,rfl,by constructor <;> assumption,below_step hw' (by assumption),by assumption⟩));intro v hv;cases hv;go_simp;refine hK _ ?_;clear hK K) | (refine Qr.walk_plain rfl fun K hK => ?_;apply Qr.one_call;(focus (intro w' hw';go_simp;first | done | exact ⟨rfl,rfl⟩));(focus (intro w' hw'; go_at_call 211;refine (sine_any _ _).mono ?_;rintro _ w2 ⟨r1,rfl,hr1,hb1⟩ ;exact ⟨_,rfl,by constructor <;> assumption,below_step hw' (by assumption),by assumption⟩));intro v hv;cases hv;go_simp;refine hK _ ?_;clear hK K) | (refine Qr.walk_plain rfl fun K hK => ?_;apply Qr.one_call;(focus (intro w' hw';go_simp;first | done | exact ⟨rfl,rfl⟩));(focus (intro w' hw'; go_at_call 133;refine (coords_any _ _ _ _).mono ?_;rintro _ w2 ⟨rfl,hb1⟩ ;exact ⟨_,rfl,by constructor <;> assumption,below_step hw' (by assumption),by assumption⟩));intro v hv;cases hv;go_simp;refine hK _ ?_;clear hK K) | (refine Qr.walk_plain rfl fun K hK => ?_;apply Qr.one_call;(focus (intro w' hw';go_simp;first | done | exact ⟨rfl,rfl⟩));(focus (intro w' hw'; go_at_call 227;refine (vector_any _ _ _ _).mono ?_;rintro _ w2 ⟨rfl,hb1⟩ ;exact ⟨_,rfl,by constructor <;> assumption,below_step hw' (by assumption),by assumption⟩));intro v hv;cases hv;go_simp;refine hK _ ?_;clear hK K) | (refine Qr.walk_plain rfl fun K hK => ?_;apply Qr.one_call;(focus (intro w' hw';go_simp;first | done | exact ⟨rfl,rfl⟩));(focus (intro w' hw'; go_at_call 178;refine (less_any _ _ _ _ _ _ _).mono ?_;rintro _ w2 ⟨x1,y1,z1,rfl,hx1,hy1,hz1,hb1⟩ ;exact ⟨_,rfl,by constructor <;> assumption,below_step hw' (by assumption),by assumption⟩));intro v hv;cases hv;go_simp;refine hK _ ?_;clear hK K))
 refine Qr.walk_nil fun w3 hw3 => ?_
 go_wp2_with (first | (go_at_call 250;refine (long_any _ _ _ _).mono ?_;rintro _ w2 ⟨r1,rfl,hr1,hb1⟩;have HL:=lift hb1;have HF:=liftF hb1) | (go_at_call 176;refine (inner_any _ _ _ _ _ _ _).mono ?_;rintro _ w2 ⟨r1,rfl,hr1,hb1⟩;have HL:=lift hb1;have HF:=liftF hb1) | (go_at_call 90;refine (size_any _ _).mono ?_;rintro _ w2 ⟨r1,rfl,hr1,hb1⟩;have HL:=lift hb1;have HF:=liftF hb1) | (go_at_call 221;refine (lesser_any _ _ _).mono ?_;rintro _ w2 ⟨r1,rfl,hr1,hb1⟩;have HL:=lift hb1;have HF:=liftF hb1) | (go_at_call 222;refine (greater_any _ _ _).mono ?_;rintro _ w2 ⟨r1,rfl,hr1,hb1⟩;have HL:=lift hb1;have HF:=liftF hb1) | (go_at_call 219;refine (short_any _ _ _).mono ?_;rintro _ w2 ⟨r1,rfl,hr1,hb1⟩;have HL:=lift hb1;have HF:=liftF hb1) | (go_at_call 224;refine (bulge_any _ _ _).mono ?_;rintro _ w2 ⟨r1,rfl,hr1,hb1⟩;have HL:=lift hb1;have HF:=liftF hb1) | (go_at_call 262;refine (fold_any _ _ _).mono ?_;rintro _ w2 ⟨r1,rfl,hr1,hb1⟩;have HL:=lift hb1;have HF:=liftF hb1) | (go_at_call 211;refine (sine_any _ _).mono ?_;rintro _ w2 ⟨r1,rfl,hr1,hb1⟩;have HL:=lift hb1;have HF:=liftF hb1) | (go_at_call 133;refine (coords_any _ _ _ _).mono ?_;rintro _ w2 ⟨rfl,hb1⟩;have HL:=lift hb1;have HF:=liftF hb1) | (go_at_call 227;refine (vector_any _ _ _ _).mono ?_;rintro _ w2 ⟨rfl,hb1⟩;have HL:=lift hb1;have HF:=liftF hb1) | (refine wp_bin rfl _ _ _ _ _ rfl _ _ _ rfl rfl rfl ?_;intro r n hr))
 go_ret
 exact ⟨_,rfl,by simp only [boxF,cn_zero, *],(by repeat' (first | exact Below.refl _ _ | exact Nat.le_refl _ | refine below_drewN ?_ _ | refine Below.alloc ?_ (by simp <;> omega) _ | refine Below.setCell ?_ (by simp <;> omega) _ | refine below_step ?_ (by assumption)))⟩

end Go.Proofs.YtbiacfkiakddiaaGreat

namespace Go.Proofs.YtbiacfkiakddiaaGreat
open Go.RowKit Go.Fl
theorem validc_any (a:Nat) (w:World) :
  Calls Tryz.prog 131 #[I64 a] w (fun e w' => e = .returned (.bool (a != 1)) ∧ Below w.heap.size w w'):=by
 go_enter Tryz.func131,Tryz.ntmps131
 by_cases h:a = 1
 ·subst h
  go_wp2_with fail
  go_ret
  exact ⟨rfl,Below.refl _ _⟩
 ·have h2:(a != 1) = true:=by simpa using h
  have h3:(((a:Int)) != 1) = true:=by simp;omega
  rw [h2]
  go_wp2_with fail
  go_ret
  exact ⟨rfl,Below.refl _ _⟩

set_option maxRecDepth 100000 in
set_option maxHeartbeats 1000000 in
theorem index_int (p:Nat → Bool) (xs:List Nat) (bp:Option Addr) (bv ov cap:Nat) (w:World) (h1:xs ≠ [] → bp = some ⟨bv,ov,none⟩) (h2:∀ i (h:i < xs.length),w.cell? ⟨bv,ov + i,none⟩ = some (I64 xs[i])) (hl:xs.length < 10000000)
  (hcall:∀ (x:Nat) w',Below w.heap.size w w' → Calls Tryz.prog 131 #[I64 x] w' (fun e w'' => e = .returned (.bool (p x)) ∧ Below w'.heap.size w' w'')) :
  Calls Tryz.prog 207 #[.slice bp xs.length cap,.func (.func 131) #[] #[]] w (fun e w' => ∃ r:Int,e = .returned (.int .i64 r) ∧ decide (0 ≤ r) = xs.any p ∧ Below w.heap.size w w'):=by
 go_enter Tryz.func207,Tryz.ntmps207
 go_wp2_with fail
 go_loopw [8] (fun i wr => ∃ m:Nat,m ≤ xs.length ∧ i = .int .i64 (m:Int) ∧ (xs.take m).any p = false ∧ Below w.heap.size w wr) (fun i _ => xs.length - (intOf i).toNat)
 case atStart => exact ⟨0,by omega,rfl,rfl,(by repeat' (first | exact Below.refl _ _ | exact Nat.le_refl _ | refine below_drewN ?_ _ | refine Below.alloc ?_ (by simp <;> omega) _ | refine Below.setCell ?_ (by simp <;> omega) _ | refine below_step ?_ (by assumption)))⟩
 case round =>
  obtain ⟨m,hm,rfl,hany,hwr⟩:=hrel
  by_cases hlt:m < xs.length
  ·have hne:xs ≠ []:=by intro h;rw [h] at hlt;simp at hlt
   have hc:=h2 m hlt
   have hlt':(m:Int) < (xs.length:Int):=by omega
   have h0:(0:Int) ≤ (m:Int):=by omega
   have hc':wr.cell? ⟨bv,ov + m,none⟩ = some (I64 xs[m]):=by rw [lift hwr _ (by rw [hc];rfl)];exact hc
   have hbp:=h1 hne
   subst hbp
   clear h1 h2 hc
   go_wp2_with fail
   refine (hcall _ _ hwr).mono ?_
   rintro _ w2 ⟨rfl,hb2⟩
   have hwr2:=below_step hwr hb2
   cases hp:p xs[m]
   ·go_wp2_with fail
    refine ⟨⟨m + 1,by omega,by simp,any_take_succ p xs m hlt hany hp,hwr2⟩,by simp [intOf];omega⟩
   ·go_wp2_with fail
    go_ret
    refine ⟨_,rfl,?_,hwr2⟩
    rw [show xs.any p = true from List.any_eq_true.2 ⟨xs[m],List.getElem_mem _,hp⟩]
    simp
  ·obtain rfl:m = xs.length:=by omega
   go_wp2_with fail
   go_ret
   exact ⟨_,rfl,by rw [List.take_length] at hany;rw [hany];rfl,hwr⟩
set_option maxRecDepth 100000 in
set_option maxHeartbeats 1000000 in
theorem contains_int (p:Nat → Bool) (xs:List Nat) (bp:Option Addr) (bv ov cap:Nat) (w:World) (h1:xs ≠ [] → bp = some ⟨bv,ov,none⟩) (h2:∀ i (h:i < xs.length),w.cell? ⟨bv,ov + i,none⟩ = some (I64 xs[i])) (hl:xs.length < 10000000)
  (hcall:∀ (x:Nat) w',Below w.heap.size w w' → Calls Tryz.prog 131 #[I64 x] w' (fun e w'' => e = .returned (.bool (p x)) ∧ Below w'.heap.size w' w'')) :
  Calls Tryz.prog 130 #[.slice bp xs.length cap,.func (.func 131) #[] #[]] w (fun e w' => e = .returned (.bool (xs.any p)) ∧ Below w.heap.size w w'):=by
 have hi:=index_int p xs bp bv ov cap w h1 h2 hl hcall
 clear h1 h2 hcall
 go_enter Tryz.func130,Tryz.ntmps130
 go_wp2_with fail
 refine hi.mono ?_
 rintro _ w2 ⟨r,rfl,hr,hb2⟩
 cases ha:xs.any p
 ·rw [ha] at hr
  have hr':r < 0:=by simpa using hr
  go_wp2_with fail
  go_ret
  exact ⟨by rw [ha];rfl,hb2⟩
 ·rw [ha] at hr
  have hr':0 ≤ r:=by simpa using hr
  go_wp2_with fail
  go_ret
  exact ⟨by rw [ha];rfl,hb2⟩

end Go.Proofs.YtbiacfkiakddiaaGreat
