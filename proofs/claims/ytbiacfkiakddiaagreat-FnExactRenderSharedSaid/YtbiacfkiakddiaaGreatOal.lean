/-
 Lemmas: W4,S9.
-/
import Derived.Test.YtbiacfkiakddiaaGreatOaj
set_option linter.unusedVariables false
set_option linter.unusedSimpArgs false
namespace Go.Proofs.YtbiacfkiakddiaaGreat
open Go.RowKit Go.Fl
theorem run_bits {P:Program} (w:World) (x:Nat):∃ v n,(Extern.MathFloatBits.float64bits #[.float .f64 x]).run P w = .ok v (w.drewN n) ∧ v = .int .u64 x:=⟨_,0,rfl,rfl⟩
theorem run_frombits {P:Program} (w:World) (n:Int):∃ v m,(Extern.MathFloatBits.float64frombits #[.int .u64 n]).run P w = .ok v (w.drewN m) ∧ v = .float .f64 n.toNat:=⟨_,0,rfl,rfl⟩

set_option maxHeartbeats 400000 in
theorem abs_any (a:Nat) (w:World):Calls Tryz.prog 259 #[.float .f64 a] w (fun e w' => e = .returned (.float .f64 (absW a)) ∧ Below w.heap.size w w'):=by
 go_enter Tryz.func259,Tryz.ntmps259
 go_wp2_with (first
  | (refine wp_entry rfl 272 _ _ rfl rfl _ ext_bits _ (run_bits _ _) ?_;rintro _ n rfl)
  | (refine wp_entry rfl 202 _ _ rfl rfl _ ext_frombits _ (run_frombits _ _) ?_;rintro _ n rfl))
 go_ret
 exact ⟨rfl,(by repeat' (first | exact Below.refl _ _ | exact Nat.le_refl _ | refine below_drewN ?_ _ | refine Below.alloc ?_ (by simp <;> omega) _ | refine Below.setCell ?_ (by simp <;> omega) _ | refine below_step ?_ (by assumption)))⟩

set_option maxHeartbeats 400000 in
theorem nan_any (w:World):Calls Tryz.prog 258 #[] w (Ret .f64 (nanw .f64) w):=by
 go_enter Tryz.func258,Tryz.ntmps258
 go_wp2_with (first
  | (refine wp_entry rfl 202 _ _ rfl rfl _ ext_frombits _ (run_frombits _ _) ?_;rintro _ n rfl))
 go_ret
 exact ⟨_,rfl,by decide +kernel,(by repeat' (first | exact Below.refl _ _ | exact Nat.le_refl _ | refine below_drewN ?_ _ | refine Below.alloc ?_ (by simp <;> omega) _ | refine Below.setCell ?_ (by simp <;> omega) _ | refine below_step ?_ (by assumption)))⟩

set_option maxHeartbeats 400000 in
theorem trunc_any (a:Nat) (w:World):Calls Tryz.prog 260 #[.float .f64 a] w (Ret .f64 (whole .zero (cn .f64 a)) w):=by
 go_enter Tryz.func260,Tryz.ntmps260
 go_wp2_with (refine wp_entry rfl 273 _ _ rfl rfl _ ext_trunc _ (run_whole _ _ _ _) ?_;rintro _ n ⟨r1,rfl,hr1⟩)
 go_ret
 exact ⟨_,rfl,hr1,(by repeat' (first | exact Below.refl _ _ | exact Nat.le_refl _ | refine below_drewN ?_ _ | refine Below.alloc ?_ (by simp <;> omega) _ | refine Below.setCell ?_ (by simp <;> omega) _ | refine below_step ?_ (by assumption)))⟩

set_option maxHeartbeats 1000000 in
theorem sine_nan (a:Nat) (w:World) (hf:eqk .f32 (B .sub (cn .f32 a) (cn .f32 a)) 0 = false) :
  Calls Tryz.prog 211 #[.float .f32 a] w (Ret .f32 (sineF (cn .f32 a)) w):=by
 go_enter Tryz.func211,Tryz.ntmps211
 go_wp2_with (first
  | (refine wp_nar rfl _ _ _ rfl _ rfl ?_ ?_ ?_ ?_;exact some_f64;exact Tryz.underlying25;(simp only [*];exact fits_nan);intro r2 n hr2)
  | first
  | (go_at_call 150;refine (fin_any _ _).mono ?_;rintro _ w1 ⟨rfl,hb1⟩)
  | (go_at_call 258;refine (nan_any _).mono ?_;rintro _ w1 ⟨r1,rfl,hr1,hb1⟩)
  | (go_at_call 259;refine (abs_any _ _).mono ?_;rintro _ w1 ⟨rfl,hb1⟩)
  | (go_at_call 260;refine (trunc_any _ _).mono ?_;rintro _ w1 ⟨r1,rfl,hr1,hb1⟩)
  | (refine wp_wid rfl _ _ _ rfl _ rfl ?_ ?_ fitsW_all ?_;exact some_f32;exact Tryz.underlying89;intro r n hr)
  | (refine wp_bin rfl _ _ _ _ _ rfl _ _ _ rfl rfl rfl ?_;intro r n hr))
 go_ret
 exact ⟨_,rfl,by rw [hr2];simp only [sineF,hf,hr1,nar_nan];rfl,(by repeat' (first | exact Below.refl _ _ | exact Nat.le_refl _ | refine below_drewN ?_ _ | refine Below.alloc ?_ (by simp <;> omega) _ | refine Below.setCell ?_ (by simp <;> omega) _ | refine below_step ?_ (by assumption)))⟩

theorem wrap_fac (m:Nat) (h:m < 8):wrap64 (2 * (8 - (m:Int)) * (2 * (8 - (m:Int)) + 1)) = 2 * (8 - (m:Int)) * (2 * (8 - (m:Int)) + 1):=by
 have h:m = 0 ∨ m = 1 ∨ m = 2 ∨ m = 3 ∨ m = 4 ∨ m = 5 ∨ m = 6 ∨ m = 7:=by omega
 rcases h with rfl | rfl | rfl | rfl | rfl | rfl | rfl | rfl <;> (unfold wrap64;decide)

/-- A wide number that is none. -/
theorem raw_wid {r a:Nat} (hf:eqk .f32 (B .sub (cn .f32 a) (cn .f32 a)) 0 = true) (hr:cn .f64 r = wid (cn .f32 a)):cn .f64 r = r :=
 cn_of_not (by rw [← isNaN_cn,hr];exact fin_not hf)

set_option maxRecDepth 100000 in
set_option maxHeartbeats 2000000 in
theorem sine_fin (a:Nat) (w:World) (hf:eqk .f32 (B .sub (cn .f32 a) (cn .f32 a)) 0 = true) :
  Calls Tryz.prog 211 #[.float .f32 a] w (Ret .f32 (sineF (cn .f32 a)) w):=by
 go_enter Tryz.func211,Tryz.ntmps211
 go_upto_if 26 with (first
  | (go_at_call 150;refine (fin_any _ _).mono ?_;rintro _ w1 ⟨rfl,hb1⟩)
  | (go_at_call 258;refine (nan_any _).mono ?_;rintro _ w1 ⟨r1,rfl,hr1,hb1⟩)
  | (go_at_call 259;refine (abs_any _ _).mono ?_;rintro _ w1 ⟨rfl,hb1⟩)
  | (go_at_call 260;refine (trunc_any _ _).mono ?_;rintro _ w1 ⟨r1,rfl,hr1,hb1⟩)
  | (refine wp_wid rfl _ _ _ rfl _ rfl ?_ ?_ fitsW_all ?_;exact some_f32;exact Tryz.underlying89;intro r n hr)
  | (refine wp_bin rfl _ _ _ _ _ rfl _ _ _ rfl rfl rfl ?_;intro r n hr))
 ·go_ret
  have hg:gek .f64 (absW (wid (cn .f32 a))) 4841369599423283200 = true:=by
   rw [← hr,raw_wid hf hr]
   unfold gek
   rw [Bool.or_eq_true]
   assumption
  exact ⟨_,rfl,by rw [cn_zero];simp only [sineF,hf,hg,if_true],(by repeat' (first | exact Below.refl _ _ | exact Nat.le_refl _ | refine below_drewN ?_ _ | refine Below.alloc ?_ (by simp <;> omega) _ | refine Below.setCell ?_ (by simp <;> omega) _ | refine below_step ?_ (by assumption)))⟩
 ·have hg:gek .f64 (absW (wid (cn .f32 a))) 4841369599423283200 = false:=by
   rw [← hr,raw_wid hf hr]
   unfold gek
   rw [Bool.or_eq_false_iff]
   assumption
  have hG:Hid (gek .f64 (absW (wid (cn .f32 a))) 4841369599423283200 = false):=hg
  clear hg
  go_cut [3] (fun s3 wx => (∃ q,s3 = .float .f64 q ∧ cn .f64 q = sin1 (wid (cn .f32 a))) ∧ Below w.heap.size w wx)
  case first =>
   go_wp2_with (refine wp_bin rfl _ _ _ _ _ rfl _ _ _ rfl rfl rfl ?_;intro r n hr)
   ·go_meet
    case rel =>
     have he:=eqk_ne ‹(FloatKind.f64.format.order _ 0 != some .eq) = true›
     simp only [*] at he
     exact ⟨⟨_,rfl,by simp only [sin1,he,Bool.not_true,Bool.not_false,Bool.false_eq_true,if_true,if_false, *]⟩,(by repeat' (first | exact Below.refl _ _ | exact Nat.le_refl _ | refine below_drewN ?_ _ | refine Below.alloc ?_ (by simp <;> omega) _ | refine Below.setCell ?_ (by simp <;> omega) _ | refine below_step ?_ (by assumption)))⟩
   ·go_meet
    case rel =>
     have he:=eqk_ne ‹(FloatKind.f64.format.order _ 0 != some .eq) = false›
     simp only [*] at he
     exact ⟨⟨_,rfl,by simp only [sin1,he,Bool.not_true,Bool.not_false,Bool.false_eq_true,if_true,if_false, *]⟩,(by repeat' (first | exact Below.refl _ _ | exact Nat.le_refl _ | refine below_drewN ?_ _ | refine Below.alloc ?_ (by simp <;> omega) _ | refine Below.setCell ?_ (by simp <;> omega) _ | refine below_step ?_ (by assumption)))⟩
  case rest =>
   clear hb1
   obtain ⟨⟨q1,rfl,hq1⟩,hw1⟩:=hcut
   rename World => wc1
   go_upto_if 31 with fail
   go_cut [3] (fun s3 wx => (∃ q,s3 = .float .f64 q ∧ cn .f64 q = sin2 (wid (cn .f32 a))) ∧ Below w.heap.size w wx)
   case first =>
    go_wp2_with (refine wp_bin rfl _ _ _ _ _ rfl _ _ _ rfl rfl rfl ?_;intro r n hr)
    ·go_meet
     case rel =>
      have he:=ltk_of' ‹(FloatKind.f64.format.order _ 0 == some .lt) = true›
      simp only [*] at he
      exact ⟨⟨_,rfl,by simp only [sin2,he,cn_c1,Bool.not_true,Bool.not_false,Bool.false_eq_true,if_true,if_false, *]⟩,(by repeat' (first | exact Below.refl _ _ | exact Nat.le_refl _ | refine below_drewN ?_ _ | refine Below.alloc ?_ (by simp <;> omega) _ | refine Below.setCell ?_ (by simp <;> omega) _ | refine below_step ?_ (by assumption)))⟩
    ·go_meet
     case rel =>
      have he:=ltk_of' ‹(FloatKind.f64.format.order _ 0 == some .lt) = false›
      simp only [*] at he
      exact ⟨⟨_,rfl,by simp only [sin2,he,Bool.not_true,Bool.not_false,Bool.false_eq_true,if_true,if_false, *]⟩,(by repeat' (first | exact Below.refl _ _ | exact Nat.le_refl _ | refine below_drewN ?_ _ | refine Below.alloc ?_ (by simp <;> omega) _ | refine Below.setCell ?_ (by simp <;> omega) _ | refine below_step ?_ (by assumption)))⟩
   case rest =>
    clear hw1
    obtain ⟨⟨q2,rfl,hq2⟩,hw2⟩:=hcut
    have hT:(FloatKind.f64.format.order q2 4602678819172646912 == some .gt || FloatKind.f64.format.order q2 4602678819172646912 == some .eq) = sinT (wid (cn .f32 a)):=by
     unfold sinT;rw [← hq2,gek_c cn_c2]
    have HT:Hid ((FloatKind.f64.format.order q2 4602678819172646912 == some .gt || FloatKind.f64.format.order q2 4602678819172646912 == some .eq) = sinT (wid (cn .f32 a))):=hT
    clear hT
    go_upto_if 36 with fail
    rw [HT.out]
    go_cut [3,5] (fun s3 s5 wx => (∃ q,s3 = .float .f64 q ∧ cn .f64 q = sin3 (wid (cn .f32 a))) ∧ s5 = .bool (sinT (wid (cn .f32 a))) ∧ Below w.heap.size w wx)
    case first =>
     cases hT:sinT (wid (cn .f32 a))
     all_goals
      have HT2:=Lib.hid hT
      clear hT
      go_wp2_with (refine wp_bin rfl _ _ _ _ _ rfl _ _ _ rfl rfl rfl ?_;intro r n hr)
      go_meet
      case rel => exact ⟨⟨_,rfl,by simp only [sin3,HT2.out,cn_c2,Bool.not_true,Bool.not_false,Bool.false_eq_true,if_true,if_false, *]⟩,by rw [HT2.out],(by repeat' (first | exact Below.refl _ _ | exact Nat.le_refl _ | refine below_drewN ?_ _ | refine Below.alloc ?_ (by simp <;> omega) _ | refine Below.setCell ?_ (by simp <;> omega) _ | refine below_step ?_ (by assumption)))⟩
    case rest =>
     clear hw2
     obtain ⟨⟨q3,rfl,hq3⟩,rfl,hw3⟩:=hcut
     go_upto_if 40 with fail
     go_cut [3] (fun s3 wx => (∃ q,s3 = .float .f64 q ∧ cn .f64 q = sin4 (wid (cn .f32 a))) ∧ Below w.heap.size w wx)
     case first =>
      go_wp2_with (refine wp_bin rfl _ _ _ _ _ rfl _ _ _ rfl rfl rfl ?_;intro r n hr)
      ·go_meet
       case rel =>
        have he:=gtk_c cn_c3 ‹(FloatKind.f64.format.order _ 4598175219545276416 == some .gt) = true›
        simp only [*] at he
        exact ⟨⟨_,rfl,by simp only [sin4,he,cn_c2,Bool.not_true,Bool.not_false,Bool.false_eq_true,if_true,if_false, *]⟩,(by repeat' (first | exact Below.refl _ _ | exact Nat.le_refl _ | refine below_drewN ?_ _ | refine Below.alloc ?_ (by simp <;> omega) _ | refine Below.setCell ?_ (by simp <;> omega) _ | refine below_step ?_ (by assumption)))⟩
      ·go_meet
       case rel =>
        have he:=gtk_c cn_c3 ‹(FloatKind.f64.format.order _ 4598175219545276416 == some .gt) = false›
        simp only [*] at he
        exact ⟨⟨_,rfl,by simp only [sin4,he,Bool.not_true,Bool.not_false,Bool.false_eq_true,if_true,if_false, *]⟩,(by repeat' (first | exact Below.refl _ _ | exact Nat.le_refl _ | refine below_drewN ?_ _ | refine Below.alloc ?_ (by simp <;> omega) _ | refine Below.setCell ?_ (by simp <;> omega) _ | refine below_step ?_ (by assumption)))⟩
     case rest =>
      clear hw3
      obtain ⟨⟨q4,rfl,hq4⟩,hw4⟩:=hcut
      go_wp2_with (refine wp_bin rfl _ _ _ _ _ rfl _ _ _ rfl rfl rfl ?_;intro r n hr)
      go_loopw [8,9] (fun p k wr => ∃ n:Nat,∃ pw,n ≤ 8 ∧ k = .int .i64 (8 - (n:Int)) ∧ p = .float .f64 pw ∧ cn .f64 pw = polyF (D .mul (sinZ (wid (cn .f32 a))) (sinZ (wid (cn .f32 a)))) n ∧ Below w.heap.size w wr) (fun _ k _ => (intOf k).toNat)
      case atStart => exact ⟨0,_,by omega,rfl,rfl,by rw [cn_c1];rfl,(by repeat' (first | exact Below.refl _ _ | exact Nat.le_refl _ | refine below_drewN ?_ _ | refine Below.alloc ?_ (by simp <;> omega) _ | refine Below.setCell ?_ (by simp <;> omega) _ | refine below_step ?_ (by assumption)))⟩
      case round =>
       obtain ⟨m,pw,hm,rfl,rfl,hp,hwr⟩:=hrel
       by_cases hlt:m < 8
       ·go_wp2_with (refine wp_bin rfl _ _ _ _ _ rfl _ _ _ rfl rfl rfl ?_;intro r n hr)
        refine ⟨⟨m + 1,_,by omega,by congr 1;omega,rfl,?_,by exact below_drewN hwr _⟩,by simp [intOf];omega⟩
        have hw6:=wrap_fac m hlt
        simp only [polyF,facN,sinZ,cn_c1,cn_c4,cn_ofInt,D,hw6, *]
       ·obtain rfl:m = 8:=by omega
        rw [show ((8:Int) - ((8:Nat):Int)) = 0 from rfl]
        go_upto_if 67 with (refine wp_bin rfl _ _ _ _ _ rfl _ _ _ rfl rfl rfl ?_;intro r n hr)
        cases hT:sinT (wid (cn .f32 a))
        ·have HT2:Hid (sinT (wid (cn .f32 a)) = false):=hT
         clear hT
         go_wp2_with (refine wp_nar rfl _ _ _ rfl _ rfl ?_ ?_ ?_ ?_;exact some_f64;exact Tryz.underlying25;(refine (congrArg fits ?_).mpr (fits_sin _ hf);simp only [sinW,HT2.out,sinO,sinZ,cn_c4,D,Bool.false_eq_true,if_false, *]);intro r2 n2 hr2)
         go_ret
         exact ⟨_,rfl,by rw [hr2];simp only [sineF,hf,hG.out,sinW,HT2.out,sinO,sinZ,cn_c4,D,Bool.false_eq_true,if_false,if_true, *],(by repeat' (first | exact Below.refl _ _ | exact Nat.le_refl _ | refine below_drewN ?_ _ | refine Below.alloc ?_ (by simp <;> omega) _ | refine Below.setCell ?_ (by simp <;> omega) _ | refine below_step ?_ (by assumption)))⟩
        ·have HT2:Hid (sinT (wid (cn .f32 a)) = true):=hT
         clear hT
         go_wp2_with (refine wp_nar rfl _ _ _ rfl _ rfl ?_ ?_ ?_ ?_;exact some_f64;exact Tryz.underlying25;(refine (congrArg fits ?_).mpr (fits_sin _ hf);simp only [sinW,HT2.out,sinO,sinZ,cn_c4,D,Bool.false_eq_true,if_false,if_true,← negc_cn, *]);intro r2 n2 hr2)
         go_ret
         exact ⟨_,rfl,by rw [hr2];simp only [sineF,hf,hG.out,sinW,HT2.out,sinO,sinZ,cn_c4,D,Bool.false_eq_true,if_false,if_true,← negc_cn, *],(by repeat' (first | exact Below.refl _ _ | exact Nat.le_refl _ | refine below_drewN ?_ _ | refine Below.alloc ?_ (by simp <;> omega) _ | refine Below.setCell ?_ (by simp <;> omega) _ | refine below_step ?_ (by assumption)))⟩

theorem sine_any (a:Nat) (w:World):Calls Tryz.prog 211 #[.float .f32 a] w (Ret .f32 (sineF (cn .f32 a)) w):=by
 cases hf:eqk .f32 (B .sub (cn .f32 a) (cn .f32 a)) 0
 ·exact sine_nan a w hf
 ·exact sine_fin a w hf
end Go.Proofs.YtbiacfkiakddiaaGreat

namespace Go.Proofs.YtbiacfkiakddiaaGreat
open Go.RowKit Go.Fl
def sineX (c:Nat):Nat:=if eqk .f32 (B .sub c c) 0 then (if gek .f64 (absW (wid c)) 4841369599423283200 then 0 else sinW (wid c)) else nanw .f64

set_option maxHeartbeats 400000 in
theorem s_sinew_nan (a c:Nat) (w:World) (ha:cn .f64 a = wid c) (hf:eqk .f32 (B .sub c c) 0 = false) :
  Calls Tryz.prog 254 #[.float .f64 a] w (Ret .f64 (sineX c) w):=by
 have hD:eqk .f64 (D .sub (wid c) (wid c)) 0 = false:=by rw [fin_wid];exact hf
 have HD:=Lib.hid hD
 have HF:=Lib.hid hf
 clear hD hf
 have HST:Hid (∀ r,cn .f64 r = bin .sub .f64 (cn .f64 a) (cn .f64 a) → (FloatKind.f64.format.order r 0 != some .eq) = true):=fun r hr => by
  have h1:=HD.out
  rw [← ha,← show cn .f64 r = D .sub (cn .f64 a) (cn .f64 a) from hr,eqk,ord_r0] at h1
  rw [bne,h1];rfl
 have HA:=Lib.hid ha
 clear ha
 go_enter Tryz.func254,Tryz.ntmps254
 go_wp2_with (first | ((refine wp_bin rfl _ _ _ _ _ rfl _ _ _ rfl rfl rfl ?_;intro r n hr);have he:=HST.out _ hr) | (go_at_call 258;refine (nan_any _).mono ?_;rintro _ w1 ⟨r1,rfl,hr1,hb1⟩))
 go_ret
 exact ⟨_,rfl,by rw [hr1];simp only [sineX,HF.out];rfl,(by repeat' (first | exact Below.refl _ _ | exact Nat.le_refl _ | refine below_drewN ?_ _ | refine Below.alloc ?_ (by simp <;> omega) _ | refine Below.setCell ?_ (by simp <;> omega) _ | refine below_step ?_ (by assumption)))⟩

set_option maxRecDepth 100000 in
set_option maxHeartbeats 2000000 in
theorem s_sinew_fin (c:Nat) (w:World) (hf:eqk .f32 (B .sub c c) 0 = true) :
  Calls Tryz.prog 254 #[.float .f64 (wid c)] w (Ret .f64 (sineX c) w):=by
 obtain ⟨s,m,e,hx⟩:=fin_num hf
 obtain ⟨m1,e1,hy,-⟩:=wid_num hx
 have hlt:=wid_lt c
 have hge:=ge_abs hlt hy
 have hcn:cn .f64 (wid c) = wid c:=cn_of_not (fin_not hf)
 have hti:gek .f64 (absW (wid c)) 4841369599423283200 = false → ∃ n,floatToIntVal .f64 (wid c) .i64 = some n ∧ D .sub (wid c) (floatOfInt .f64 n) = sin1 (wid c):=trunc_int hlt hy
 have hD:eqk .f64 (D .sub (wid c) (wid c)) 0 = true:=by rw [fin_wid];exact hf
 have HD:=Lib.hid hD
 have HF:=Lib.hid hf
 clear hD hf hx hy hlt s m e m1 e1
 have HX:Hid (∀ v,(gek .f64 (absW (wid c)) 4841369599423283200 = true → v = 0) → (gek .f64 (absW (wid c)) 4841369599423283200 = false → v = sinW (wid c)) → v = sineX c):=fun v h1 h2 => by
  unfold sineX
  rw [HF.out,if_pos rfl]
  by_cases h:gek .f64 (absW (wid c)) 4841369599423283200 = true
  ·rw [if_pos h];exact h1 h
  ·rw [if_neg h];exact h2 (by simpa using h)
 generalize sineX c = sx at *
 generalize wid c = y at *
 have hstart:∀ r,cn .f64 r = bin .sub .f64 (cn .f64 y) (cn .f64 y) → (FloatKind.f64.format.order r 0 != some .eq) = false:=fun r hr => by
  have h1:=HD.out
  rw [hcn] at hr
  rw [← show cn .f64 r = D .sub y y from hr,eqk,ord_r0] at h1
  rw [bne,h1];rfl
 cases hG:gek .f64 (absW y) 4841369599423283200
 ·obtain ⟨nn,hnn,hs1⟩:=hti hG
  have HG:=Lib.hid hG
  rw [hG,Bool.or_eq_false_iff] at hge
  obtain ⟨hg1,hg2⟩:=hge
  have HN:=Lib.hid hnn
  have HS1:=Lib.hid hs1
  have HCN:=Lib.hid hcn
  clear hG hti hnn hs1 hcn
  have HST:=Lib.hid hstart
  clear hstart
  go_enter Tryz.func254,Tryz.ntmps254
  go_upto_if 26 with (first | ((refine wp_bin rfl _ _ _ _ _ rfl _ _ _ rfl rfl rfl ?_;intro r n hr);have he:=HST.out _ hr;clear HST) | (refine wp_op rfl (.int .i64 nn) _ (exec_convert _ _ _ _ _ rfl _ _ _ (run_convert_float_int _ _ _ _ _ _ _ some_f64 Tryz.underlying2 HN.out)) ?_) | (refine wp_bin rfl _ _ _ _ _ rfl _ _ _ rfl rfl rfl ?_;intro r n hr))
  have hq1:cn .f64 r = sin1 y:=by
   rw [hr,HCN.out,cn_ofInt];exact HS1.out
  have hw1:Below w.heap.size w (w.drewN 0):=(by repeat' (first | exact Below.refl _ _ | exact Nat.le_refl _ | refine below_drewN ?_ _ | refine Below.alloc ?_ (by simp <;> omega) _ | refine Below.setCell ?_ (by simp <;> omega) _ | refine below_step ?_ (by assumption)))
  clear hr he hg1 hg2
  go_cut [3] (fun s3 wx => (∃ q,s3 = .float .f64 q ∧ cn .f64 q = sin2 y) ∧ Below w.heap.size w wx)
  case first =>
   go_wp2_with (refine wp_bin rfl _ _ _ _ _ rfl _ _ _ rfl rfl rfl ?_;intro r n hr)
   ·go_meet
    case rel =>
     have he:=ltk_of' ‹(FloatKind.f64.format.order _ 0 == some .lt) = true›
     simp only [*] at he
     exact ⟨⟨_,rfl,by simp only [sin2,he,cn_c1,Bool.not_true,Bool.not_false,Bool.false_eq_true,if_true,if_false, *]⟩,(by repeat' (first | exact Below.refl _ _ | exact Nat.le_refl _ | refine below_drewN ?_ _ | refine Below.alloc ?_ (by simp <;> omega) _ | refine Below.setCell ?_ (by simp <;> omega) _ | refine below_step ?_ (by assumption)))⟩
   ·go_meet
    case rel =>
     have he:=ltk_of' ‹(FloatKind.f64.format.order _ 0 == some .lt) = false›
     simp only [*] at he
     exact ⟨⟨_,rfl,by simp only [sin2,he,Bool.not_true,Bool.not_false,Bool.false_eq_true,if_true,if_false, *]⟩,(by repeat' (first | exact Below.refl _ _ | exact Nat.le_refl _ | refine below_drewN ?_ _ | refine Below.alloc ?_ (by simp <;> omega) _ | refine Below.setCell ?_ (by simp <;> omega) _ | refine below_step ?_ (by assumption)))⟩
  case rest =>
   clear hw1 hq1
   obtain ⟨⟨q2,rfl,hq2⟩,hw2⟩:=hcut
   have hT:(FloatKind.f64.format.order q2 4602678819172646912 == some .gt || FloatKind.f64.format.order q2 4602678819172646912 == some .eq) = sinT y:=by
    unfold sinT;rw [← hq2,gek_c cn_c2]
   have HT:Hid ((FloatKind.f64.format.order q2 4602678819172646912 == some .gt || FloatKind.f64.format.order q2 4602678819172646912 == some .eq) = sinT y):=hT
   clear hT
   go_upto_if 31 with fail
   rw [HT.out]
   go_cut [3,4] (fun s3 s5 wx => (∃ q,s3 = .float .f64 q ∧ cn .f64 q = sin3 y) ∧ s5 = .bool (sinT y) ∧ Below w.heap.size w wx)
   case first =>
    cases hT:sinT y
    all_goals
     have HT2:=Lib.hid hT
     clear hT
     go_wp2_with (refine wp_bin rfl _ _ _ _ _ rfl _ _ _ rfl rfl rfl ?_;intro r n hr)
     go_meet
     case rel => exact ⟨⟨_,rfl,by simp only [sin3,HT2.out,cn_c2,Bool.not_true,Bool.not_false,Bool.false_eq_true,if_true,if_false, *]⟩,by rw [HT2.out],(by repeat' (first | exact Below.refl _ _ | exact Nat.le_refl _ | refine below_drewN ?_ _ | refine Below.alloc ?_ (by simp <;> omega) _ | refine Below.setCell ?_ (by simp <;> omega) _ | refine below_step ?_ (by assumption)))⟩
   case rest =>
    clear hw2
    obtain ⟨⟨q3,rfl,hq3⟩,rfl,hw3⟩:=hcut
    go_upto_if 35 with fail
    go_cut [3] (fun s3 wx => (∃ q,s3 = .float .f64 q ∧ cn .f64 q = sin4 y) ∧ Below w.heap.size w wx)
    case first =>
     go_wp2_with (refine wp_bin rfl _ _ _ _ _ rfl _ _ _ rfl rfl rfl ?_;intro r n hr)
     ·go_meet
      case rel =>
       have he:=gtk_c cn_c3 ‹(FloatKind.f64.format.order _ 4598175219545276416 == some .gt) = true›
       simp only [*] at he
       exact ⟨⟨_,rfl,by simp only [sin4,he,cn_c2,Bool.not_true,Bool.not_false,Bool.false_eq_true,if_true,if_false, *]⟩,(by repeat' (first | exact Below.refl _ _ | exact Nat.le_refl _ | refine below_drewN ?_ _ | refine Below.alloc ?_ (by simp <;> omega) _ | refine Below.setCell ?_ (by simp <;> omega) _ | refine below_step ?_ (by assumption)))⟩
     ·go_meet
      case rel =>
       have he:=gtk_c cn_c3 ‹(FloatKind.f64.format.order _ 4598175219545276416 == some .gt) = false›
       simp only [*] at he
       exact ⟨⟨_,rfl,by simp only [sin4,he,cn_c2,Bool.not_true,Bool.not_false,Bool.false_eq_true,if_true,if_false, *]⟩,(by repeat' (first | exact Below.refl _ _ | exact Nat.le_refl _ | refine below_drewN ?_ _ | refine Below.alloc ?_ (by simp <;> omega) _ | refine Below.setCell ?_ (by simp <;> omega) _ | refine below_step ?_ (by assumption)))⟩
    case rest =>
     clear hw3
     obtain ⟨⟨q4,rfl,hq4⟩,hw4⟩:=hcut
     go_wp2_with (refine wp_bin rfl _ _ _ _ _ rfl _ _ _ rfl rfl rfl ?_;intro r n hr)
     go_loopw [7,8] (fun p k wr => ∃ n:Nat,∃ pw,n ≤ 8 ∧ k = .int .i64 (8 - (n:Int)) ∧ p = .float .f64 pw ∧ cn .f64 pw = polyF (D .mul (sinZ y) (sinZ y)) n ∧ Below w.heap.size w wr) (fun _ k _ => (intOf k).toNat)
     case atStart => exact ⟨0,_,by omega,rfl,rfl,by rw [cn_c1];rfl,(by repeat' (first | exact Below.refl _ _ | exact Nat.le_refl _ | refine below_drewN ?_ _ | refine Below.alloc ?_ (by simp <;> omega) _ | refine Below.setCell ?_ (by simp <;> omega) _ | refine below_step ?_ (by assumption)))⟩
     case round =>
      obtain ⟨m,pw,hm,rfl,rfl,hp,hwr⟩:=hrel
      by_cases hlt:m < 8
      ·go_wp2_with (refine wp_bin rfl _ _ _ _ _ rfl _ _ _ rfl rfl rfl ?_;intro r n hr)
       refine ⟨⟨m + 1,_,by omega,by congr 1;omega,rfl,?_,by exact below_drewN hwr _⟩,by simp [intOf];omega⟩
       have hw6:=wrap_fac m hlt
       simp only [polyF,facN,sinZ,cn_c1,cn_c4,cn_ofInt,D,hw6, *]
      ·obtain rfl:m = 8:=by omega
       rw [show ((8:Int) - ((8:Nat):Int)) = 0 from rfl]
       go_upto_if 59 with (refine wp_bin rfl _ _ _ _ _ rfl _ _ _ rfl rfl rfl ?_;intro r n hr)
       cases hT:sinT y
       ·have HT2:Hid (sinT y = false):=hT
        clear hT
        go_wp2_with (refine wp_bin rfl _ _ _ _ _ rfl _ _ _ rfl rfl rfl ?_;intro r n hr)
        go_ret
        exact ⟨_,rfl,HX.out _ (fun h => by rw [HG.out] at h;cases h) (fun _ => by simp only [sinW,HT2.out,sinO,sinZ,cn_c4,D,Bool.false_eq_true,if_false, *]),(by repeat' (first | exact Below.refl _ _ | exact Nat.le_refl _ | refine below_drewN ?_ _ | refine Below.alloc ?_ (by simp <;> omega) _ | refine Below.setCell ?_ (by simp <;> omega) _ | refine below_step ?_ (by assumption)))⟩
       ·have HT2:Hid (sinT y = true):=hT
        clear hT
        go_wp2_with (refine wp_bin rfl _ _ _ _ _ rfl _ _ _ rfl rfl rfl ?_;intro r n hr)
        go_ret
        exact ⟨_,rfl,HX.out _ (fun h => by rw [HG.out] at h;cases h) (fun _ => by simp only [sinW,HT2.out,sinO,sinZ,cn_c4,D,Bool.false_eq_true,if_false,if_true,← negc_cn, *]),(by repeat' (first | exact Below.refl _ _ | exact Nat.le_refl _ | refine below_drewN ?_ _ | refine Below.alloc ?_ (by simp <;> omega) _ | refine Below.setCell ?_ (by simp <;> omega) _ | refine below_step ?_ (by assumption)))⟩
 ·have HG:=Lib.hid hG
  have HST:=Lib.hid hstart
  cases hg1:(FloatKind.f64.format.order y 4841369599423283200 == some .gt || FloatKind.f64.format.order y 4841369599423283200 == some .eq)
  ·have hg2:(FloatKind.f64.format.order y 14064741636278059008 == some .lt || FloatKind.f64.format.order y 14064741636278059008 == some .eq) = true:=by rw [hg1,hG,Bool.false_or] at hge;exact hge
   clear hG hti hstart hge hcn
   go_enter Tryz.func254,Tryz.ntmps254
   go_wp2_with (first | ((refine wp_bin rfl _ _ _ _ _ rfl _ _ _ rfl rfl rfl ?_;intro r n hr);have he:=HST.out _ hr;clear HST) | (refine wp_bin rfl _ _ _ _ _ rfl _ _ _ rfl rfl rfl ?_;intro r n hr))
   go_ret
   exact ⟨_,rfl,by rw [cn_zero];exact HX.out _ (fun _ => rfl) (fun h => by rw [HG.out] at h;cases h),(by repeat' (first | exact Below.refl _ _ | exact Nat.le_refl _ | refine below_drewN ?_ _ | refine Below.alloc ?_ (by simp <;> omega) _ | refine Below.setCell ?_ (by simp <;> omega) _ | refine below_step ?_ (by assumption)))⟩
  ·clear hG hti hstart hge hcn
   go_enter Tryz.func254,Tryz.ntmps254
   go_wp2_with (first | ((refine wp_bin rfl _ _ _ _ _ rfl _ _ _ rfl rfl rfl ?_;intro r n hr);have he:=HST.out _ hr;clear HST) | (refine wp_bin rfl _ _ _ _ _ rfl _ _ _ rfl rfl rfl ?_;intro r n hr))
   go_ret
   exact ⟨_,rfl,by rw [cn_zero];exact HX.out _ (fun _ => rfl) (fun h => by rw [HG.out] at h;cases h),(by repeat' (first | exact Below.refl _ _ | exact Nat.le_refl _ | refine below_drewN ?_ _ | refine Below.alloc ?_ (by simp <;> omega) _ | refine Below.setCell ?_ (by simp <;> omega) _ | refine below_step ?_ (by assumption)))⟩

theorem s_sinew_any (a c:Nat) (w:World) (ha:cn .f64 a = wid c):Calls Tryz.prog 254 #[.float .f64 a] w (Ret .f64 (sineX c) w):=by
 cases hf:eqk .f32 (B .sub c c) 0
 ·exact s_sinew_nan a c w ha hf
 ·have h1:cn .f64 a = a:=cn_of_not (by rw [← isNaN_cn,ha];exact fin_not hf)
  rw [h1] at ha
  subst ha
  exact s_sinew_fin c w hf

theorem fits_x (c:Nat):fits (sineX c):=by
 unfold sineX
 by_cases h:eqk .f32 (B .sub c c) 0 = true
 ·rw [if_pos h]
  split
  ·have h0:FloatKind.f64.decode 0 = .number false 0 (-1074):=by decide +kernel
   exact fits_le (b:=0) h0 (by omega) (by omega) (by unfold Ft.val;omega) (by omega)
  ·exact fits_sin c h
 ·rw [if_neg h];exact fits_nan

theorem nar_x (c:Nat):nar (sineX c) = sineF c:=by
 unfold sineX sineF
 split
 ·split
  ·decide +kernel
  ·rfl
 ·exact nar_nan

set_option maxHeartbeats 400000 in
theorem s_sine_any (a:Nat) (w:World):Calls Tryz.prog 189 #[.float .f32 a] w (Ret .f32 (sineF (cn .f32 a)) w):=by
 go_enter Tryz.func189,Tryz.ntmps189
 go_wp2_with (first
  | (go_at_call 254;refine (s_sinew_any _ (cn .f32 a) _ hr).mono ?_;rintro _ w1 ⟨r1,rfl,hr1,hb1⟩)
  | (go_at_call 253;refine (s_narrow_any _ _ (by rw [hr1];exact fits_x _)).mono ?_;rintro _ w2 ⟨r2,rfl,hr2,hb2⟩)
  | (refine wp_wid rfl _ _ _ rfl _ rfl ?_ ?_ fitsW_all ?_;exact some_f32;exact Tryz.underlying89;intro r n hr))
 go_ret
 exact ⟨_,rfl,by rw [hr2,hr1,nar_x],(by repeat' (first | exact Below.refl _ _ | exact Nat.le_refl _ | refine below_drewN ?_ _ | refine Below.alloc ?_ (by simp <;> omega) _ | refine Below.setCell ?_ (by simp <;> omega) _ | refine below_step ?_ (by assumption)))⟩
end Go.Proofs.YtbiacfkiakddiaaGreat
