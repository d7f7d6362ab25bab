/-
 Lemmas: S6,W4.
-/
import Derived.Test.YtbiacfkiakddiaaGreatJaf
import Derived.Test.YtbiacfkiakddiaaGreatJaj
set_option linter.unusedVariables false
set_option linter.unusedSimpArgs false
namespace Go.Proofs.YtbiacfkiakddiaaGreat
open Go.RowKit Go.Fl
def badS (s:Nat) (x:Nat):Bool:=!finP x || signBad s x

theorem s_fin2_any (a:Nat) (w:World) :
  Calls Tryz.prog 149 #[.float .f32 a] w (fun e w' => e = .returned (.bool (finP a)) ∧ Below w.heap.size w w'):=s_fin_any a w

set_option maxRecDepth 100000 in
set_option maxHeartbeats 8000000 in
theorem s_numbers_any (k:Int) (hk:0 ≤ k ∧ k ≤ 16) (xs:List Nat) (bp:Option Addr) (bv ov cap:Nat) (w:World) (h1:xs ≠ [] → bp = some ⟨bv,ov,none⟩) (h2:∀ i (h:i < xs.length),w.cell? ⟨bv,ov + i,none⟩ = some (.float .f32 xs[i])) :
  Calls Tryz.prog 185 #[.int .i64 k,.slice bp xs.length cap] w (fun e w' => e = .returned (.bool (decide (xs.length = (ruleF k).1) && !xs.any (badS (ruleF k).2.2.2))) ∧ Below w.heap.size w w'):=by
 obtain ⟨sg,hsg⟩:∃ sg,sg = (ruleF k).2.2.2:=⟨_,rfl⟩
 rw [← hsg]
 by_cases hlen:xs.length = (ruleF k).1
 ·have hlI:(xs.length:Int) = ((ruleF k).1:Int):=by omega
  have hl4:xs.length < 1000:=by
   rw [hlen];unfold ruleF;split
   ·unfold ruleT;split <;> simp
   ·simp
  have:k = 0 ∨ k = 1 ∨ k = 2 ∨ k = 3 ∨ k = 4 ∨ k = 5 ∨ k = 6 ∨ k = 7 ∨ k = 8 ∨ k = 9 ∨ k = 10 ∨ k = 11 ∨ k = 12 ∨ k = 13 ∨ k = 14 ∨ k = 15 ∨ k = 16:=by omega
  rcases this with h | h | h | h | h | h | h | h | h | h | h | h | h | h | h | h | h
  all_goals
   subst h
   have hcnt:=congrArg I64 hlen.symm
   have hlenH:Hid (xs.length = (ruleF _).1):=hlen
   clear hlen hk hlI
   have hsgH:Hid (sg = (ruleF _).2.2.2):=hsg
   clear hsg
   go_enter Tryz.func185,Tryz.ntmps185
   go_wp2_with (go_at_call 252;refine (s_count_any _ _).mono ?_;rintro _ w2 ⟨rfl,rfl⟩;rw [hcnt])
   clear hcnt
   go_loopw [5] (fun i wr => ∃ m:Nat,m ≤ xs.length ∧ i = .int .i64 (m:Int) ∧ (xs.take m).any (badS sg) = false ∧ Below w.heap.size w wr) (fun i _ => xs.length - (intOf i).toNat)
   case atStart => exact ⟨0,by omega,rfl,rfl,(by repeat' (first | exact Below.refl _ _ | exact Nat.le_refl _ | refine below_drewN ?_ _ | refine Below.alloc ?_ (by first | (simp;done) | (simp;omega)) _ | refine Below.setCell ?_ (by first | (simp;done) | (simp;omega)) _ | refine below_step ?_ (by assumption)))⟩
   case round =>
    obtain ⟨m,hm,rfl,hany,hwr⟩:=hrel
    by_cases hlt:m < xs.length
    ·have hne:xs ≠ []:=by intro h;rw [h] at hlt;simp at hlt
     have hc:=h2 m hlt
     have hlt':(m:Int) < (xs.length:Int):=by omega
     have h0:(0:Int) ≤ (m:Int):=by omega
     have hc':wr.cell? ⟨bv,ov + m,none⟩ = some (.float .f32 xs[m]):=by rw [lift hwr _ (by rw [hc];rfl)];exact hc
     have hbp:=h1 hne
     subst hbp
     have hmem:xs[m] ∈ xs:=List.getElem_mem _
     have hyes:Hid (badS sg xs[m] = true → xs.any (badS sg) = true):=fun h => List.any_eq_true.2 ⟨xs[m],hmem,h⟩
     have hno:Hid (badS sg xs[m] = false → (xs.take (m + 1)).any (badS sg) = false):=fun h => any_take_succ _ xs m hlt hany h
     clear h1 h2 hc hany hmem hne
     generalize xs[m] = v at *
     have hs:=hsgH.out
     cases hfp:finP v
     ·clear hs
      go_wp2_with (go_at_call 149;refine (s_fin2_any _ _).mono ?_;rintro _ w2 ⟨rfl,hb2⟩;rw [hfp])
      go_ret
      exact ⟨by rw [hyes.out (by simp [badS,hfp])];simp,below_step hwr (by assumption)⟩
     ·cases hlt0:(FloatKind.f32.format.order v 0 == some .lt) <;> cases heq0:(FloatKind.f32.format.order v 0 == some .eq)
      all_goals
       have hbad:Hid (badS sg v = signBad sg v):=by unfold Hid;simp only [badS,hfp,Bool.not_true,Bool.false_or]
       clear hs
       have hw3:∀ w2,Below wr.heap.size wr w2 → w2.cell? ⟨bv,ov + m,none⟩ = some (.float .f32 v):=fun w2 h => by rw [lift h _ (by rw [hc'];rfl)];exact hc'
       go_wp2_with (go_at_call 149;refine (s_fin2_any _ _).mono ?_;rintro _ w2 ⟨rfl,hb2⟩;rw [hfp];have hc2:=hw3 _ hb2)
       first
       | (go_ret;exact ⟨by rw [hyes.out (by rw [hbad.out,hsgH.out];simp [signBad,ltk,lek,ord_r0,hlt0,heq0,ruleF,ruleT,kindOk])];simp,below_step hwr (by assumption)⟩)
       | exact ⟨⟨m + 1,by omega,by simp,hno.out (by rw [hbad.out,hsgH.out];simp [signBad,ltk,lek,ord_r0,hlt0,heq0,ruleF,ruleT,kindOk]),below_step hwr (by assumption)⟩,by simp [intOf];omega⟩
    ·obtain rfl:m = xs.length:=by omega
     rw [List.take_length] at hany
     go_wp2_with fail
     go_ret
     exact ⟨by rw [hany,decide_eq_true hlenH.out];rfl,hwr⟩
 ·have hlI:(xs.length:Int) ≠ ((ruleF k).1:Int):=by omega
  have hv:(decide (xs.length = (ruleF k).1) && !xs.any (badS sg)) = false:=by simp [hlen]
  rw [hv]
  clear hv h1 h2
  go_enter Tryz.func185,Tryz.ntmps185
  go_wp2_with (go_at_call 252;refine (s_count_any _ _).mono ?_;rintro _ w2 ⟨rfl,rfl⟩)
  go_ret
  exact ⟨rfl,(by repeat' (first | exact Below.refl _ _ | exact Nat.le_refl _ | refine below_drewN ?_ _ | refine Below.alloc ?_ (by first | (simp;done) | (simp;omega)) _ | refine Below.setCell ?_ (by first | (simp;done) | (simp;omega)) _ | refine below_step ?_ (by assumption)))⟩
end Go.Proofs.YtbiacfkiakddiaaGreat

namespace Go.Proofs.YtbiacfkiakddiaaGreat
open Go.RowKit Go.Fl
theorem run_bits {P:Program} (w:World) (x:Nat):∃ v n,(Extern.MathFloatBits.float64bits #[.float .f64 x]).run P w = .ok v (w.drewN n) ∧ v = .int .u64 x:=⟨_,0,rfl,rfl⟩
theorem run_frombits {P:Program} (w:World) (n:Int):∃ v m,(Extern.MathFloatBits.float64frombits #[.int .u64 n]).run P w = .ok v (w.drewN m) ∧ v = .float .f64 n.toNat:=⟨_,0,rfl,rfl⟩

set_option maxHeartbeats 400000 in
theorem abs_any (a:Nat) (w:World):Calls Tryz.prog 259 #[.float .f64 a] w (fun e w' => e = .returned (.float .f64 (absW a)) ∧ Below w.heap.size w w'):=by
 go_enter Tryz.func259,Tryz.ntmps259
 go_wp2_with (first
  | (refine wp_entry rfl 272 _ _ rfl rfl _ ext_bits _ (run_bits _ _) ?_;rintro _ n rfl)
  | (refine wp_entry rfl 202 _ _ rfl rfl _ ext_frombits _ (run_frombits _ _) ?_;rintro _ n rfl))
 go_ret
 exact ⟨rfl,(by repeat' (first | exact Below.refl _ _ | exact Nat.le_refl _ | refine below_drewN ?_ _ | refine Below.alloc ?_ (by first | (simp;done) | (simp;omega)) _ | refine Below.setCell ?_ (by first | (simp;done) | (simp;omega)) _ | refine below_step ?_ (by assumption)))⟩

set_option maxHeartbeats 400000 in
theorem nan_any (w:World):Calls Tryz.prog 258 #[] w (Ret .f64 (nanw .f64) w):=by
 go_enter Tryz.func258,Tryz.ntmps258
 go_wp2_with (first
  | (refine wp_entry rfl 202 _ _ rfl rfl _ ext_frombits _ (run_frombits _ _) ?_;rintro _ n rfl))
 go_ret
 exact ⟨_,rfl,by decide +kernel,(by repeat' (first | exact Below.refl _ _ | exact Nat.le_refl _ | refine below_drewN ?_ _ | refine Below.alloc ?_ (by first | (simp;done) | (simp;omega)) _ | refine Below.setCell ?_ (by first | (simp;done) | (simp;omega)) _ | refine below_step ?_ (by assumption)))⟩

set_option maxHeartbeats 400000 in
theorem trunc_any (a:Nat) (w:World):Calls Tryz.prog 260 #[.float .f64 a] w (Ret .f64 (whole .zero (cn .f64 a)) w):=by
 go_enter Tryz.func260,Tryz.ntmps260
 go_wp2_with (refine wp_entry rfl 273 _ _ rfl rfl _ ext_trunc _ (run_whole _ _ _ _) ?_;rintro _ n ⟨r1,rfl,hr1⟩)
 go_ret
 exact ⟨_,rfl,hr1,(by repeat' (first | exact Below.refl _ _ | exact Nat.le_refl _ | refine below_drewN ?_ _ | refine Below.alloc ?_ (by first | (simp;done) | (simp;omega)) _ | refine Below.setCell ?_ (by first | (simp;done) | (simp;omega)) _ | refine below_step ?_ (by assumption)))⟩

set_option maxHeartbeats 1000000 in
theorem sine_nan (a:Nat) (w:World) (hf:eqk .f32 (B .sub (cn .f32 a) (cn .f32 a)) 0 = false) :
  Calls Tryz.prog 211 #[.float .f32 a] w (Ret .f32 (sineF (cn .f32 a)) w):=by
 go_enter Tryz.func211,Tryz.ntmps211
 go_wp2_with (first
  | (refine wp_nar rfl _ _ _ rfl _ rfl ?_ ?_ ?_ ?_;exact some_f64;exact Tryz.underlying25;(simp only [*];exact fits_nan);intro r2 n hr2)
  | first
  | (go_at_call 150;refine (fin_any _ _).mono ?_;rintro _ w1 ⟨rfl,hb1⟩)
  | (go_at_call 258;refine (nan_any _).mono ?_;rintro _ w1 ⟨r1,rfl,hr1,hb1⟩)
  | (go_at_call 259;refine (abs_any _ _).mono ?_;rintro _ w1 ⟨rfl,hb1⟩)
  | (go_at_call 260;refine (trunc_any _ _).mono ?_;rintro _ w1 ⟨r1,rfl,hr1,hb1⟩)
  | (refine wp_wid rfl _ _ _ rfl _ rfl ?_ ?_ fitsW_all ?_;exact some_f32;exact Tryz.underlying89;intro r n hr)
  | (refine wp_bin rfl _ _ _ _ _ rfl _ _ _ rfl rfl rfl ?_;intro r n hr))
 go_ret
 exact ⟨_,rfl,by rw [hr2];simp only [sineF,hf,hr1,nar_nan];rfl,(by repeat' (first | exact Below.refl _ _ | exact Nat.le_refl _ | refine below_drewN ?_ _ | refine Below.alloc ?_ (by first | (simp;done) | (simp;omega)) _ | refine Below.setCell ?_ (by first | (simp;done) | (simp;omega)) _ | refine below_step ?_ (by assumption)))⟩

theorem wrap_fac (m:Nat) (h:m < 8):wrap64 (2 * (8 - (m:Int)) * (2 * (8 - (m:Int)) + 1)) = 2 * (8 - (m:Int)) * (2 * (8 - (m:Int)) + 1):=by
 have h:m = 0 ∨ m = 1 ∨ m = 2 ∨ m = 3 ∨ m = 4 ∨ m = 5 ∨ m = 6 ∨ m = 7:=by omega
 rcases h with rfl | rfl | rfl | rfl | rfl | rfl | rfl | rfl <;> (unfold wrap64;decide)

/-- A wide number that is none. -/
theorem raw_wid {r a:Nat} (hf:eqk .f32 (B .sub (cn .f32 a) (cn .f32 a)) 0 = true) (hr:cn .f64 r = wid (cn .f32 a)):cn .f64 r = r :=
 cn_of_not (by rw [← isNaN_cn,hr];exact fin_not hf)

set_option maxRecDepth 100000 in
set_option maxHeartbeats 2000000 in
theorem sine_fin (a:Nat) (w:World) (hf:eqk .f32 (B .sub (cn .f32 a) (cn .f32 a)) 0 = true) :
  Calls Tryz.prog 211 #[.float .f32 a] w (Ret .f32 (sineF (cn .f32 a)) w):=by
 go_enter Tryz.func211,Tryz.ntmps211
 go_upto_if 26 with (first
  | (go_at_call 150;refine (fin_any _ _).mono ?_;rintro _ w1 ⟨rfl,hb1⟩)
  | (go_at_call 258;refine (nan_any _).mono ?_;rintro _ w1 ⟨r1,rfl,hr1,hb1⟩)
  | (go_at_call 259;refine (abs_any _ _).mono ?_;rintro _ w1 ⟨rfl,hb1⟩)
  | (go_at_call 260;refine (trunc_any _ _).mono ?_;rintro _ w1 ⟨r1,rfl,hr1,hb1⟩)
  | (refine wp_wid rfl _ _ _ rfl _ rfl ?_ ?_ fitsW_all ?_;exact some_f32;exact Tryz.underlying89;intro r n hr)
  | (refine wp_bin rfl _ _ _ _ _ rfl _ _ _ rfl rfl rfl ?_;intro r n hr))
 ·go_ret
  have hg:gek .f64 (absW (wid (cn .f32 a))) 4841369599423283200 = true:=by
   rw [← hr,raw_wid hf hr]
   unfold gek
   rw [Bool.or_eq_true]
   assumption
  exact ⟨_,rfl,by rw [cn_zero];simp only [sineF,hf,hg,if_true],(by repeat' (first | exact Below.refl _ _ | exact Nat.le_refl _ | refine below_drewN ?_ _ | refine Below.alloc ?_ (by first | (simp;done) | (simp;omega)) _ | refine Below.setCell ?_ (by first | (simp;done) | (simp;omega)) _ | refine below_step ?_ (by assumption)))⟩
 ·have hg:gek .f64 (absW (wid (cn .f32 a))) 4841369599423283200 = false:=by
   rw [← hr,raw_wid hf hr]
   unfold gek
   rw [Bool.or_eq_false_iff]
   assumption
  have hG:Hid (gek .f64 (absW (wid (cn .f32 a))) 4841369599423283200 = false):=hg
  clear hg
  go_cut [3] (fun s3 wx => (∃ q,s3 = .float .f64 q ∧ cn .f64 q = sin1 (wid (cn .f32 a))) ∧ Below w.heap.size w wx)
  case first =>
   go_wp2_with (refine wp_bin rfl _ _ _ _ _ rfl _ _ _ rfl rfl rfl ?_;intro r n hr)
   ·go_meet
    case rel =>
     have he:=eqk_ne ‹(FloatKind.f64.format.order _ 0 != some .eq) = true›
     simp only [*] at he
     exact ⟨⟨_,rfl,by simp only [sin1,he,Bool.not_true,Bool.not_false,Bool.false_eq_true,if_true,if_false, *]⟩,(by repeat' (first | exact Below.refl _ _ | exact Nat.le_refl _ | refine below_drewN ?_ _ | refine Below.alloc ?_ (by first | (simp;done) | (simp;omega)) _ | refine Below.setCell ?_ (by first | (simp;done) | (simp;omega)) _ | refine below_step ?_ (by assumption)))⟩
   ·go_meet
    case rel =>
     have he:=eqk_ne ‹(FloatKind.f64.format.order _ 0 != some .eq) = false›
     simp only [*] at he
     exact ⟨⟨_,rfl,by simp only [sin1,he,Bool.not_true,Bool.not_false,Bool.false_eq_true,if_true,if_false, *]⟩,(by repeat' (first | exact Below.refl _ _ | exact Nat.le_refl _ | refine below_drewN ?_ _ | refine Below.alloc ?_ (by first | (simp;done) | (simp;omega)) _ | refine Below.setCell ?_ (by first | (simp;done) | (simp;omega)) _ | refine below_step ?_ (by assumption)))⟩
  case rest =>
   clear hb1
   obtain ⟨⟨q1,rfl,hq1⟩,hw1⟩:=hcut
   rename World => wc1
   go_upto_if 31 with fail
   go_cut [3] (fun s3 wx => (∃ q,s3 = .float .f64 q ∧ cn .f64 q = sin2 (wid (cn .f32 a))) ∧ Below w.heap.size w wx)
   case first =>
    go_wp2_with (refine wp_bin rfl _ _ _ _ _ rfl _ _ _ rfl rfl rfl ?_;intro r n hr)
    ·go_meet
     case rel =>
      have he:=ltk_of' ‹(FloatKind.f64.format.order _ 0 == some .lt) = true›
      simp only [*] at he
      exact ⟨⟨_,rfl,by simp only [sin2,he,cn_c1,Bool.not_true,Bool.not_false,Bool.false_eq_true,if_true,if_false, *]⟩,(by repeat' (first | exact Below.refl _ _ | exact Nat.le_refl _ | refine below_drewN ?_ _ | refine Below.alloc ?_ (by first | (simp;done) | (simp;omega)) _ | refine Below.setCell ?_ (by first | (simp;done) | (simp;omega)) _ | refine below_step ?_ (by assumption)))⟩
    ·go_meet
     case rel =>
      have he:=ltk_of' ‹(FloatKind.f64.format.order _ 0 == some .lt) = false›
      simp only [*] at he
      exact ⟨⟨_,rfl,by simp only [sin2,he,Bool.not_true,Bool.not_false,Bool.false_eq_true,if_true,if_false, *]⟩,(by repeat' (first | exact Below.refl _ _ | exact Nat.le_refl _ | refine below_drewN ?_ _ | refine Below.alloc ?_ (by first | (simp;done) | (simp;omega)) _ | refine Below.setCell ?_ (by first | (simp;done) | (simp;omega)) _ | refine below_step ?_ (by assumption)))⟩
   case rest =>
    clear hw1
    obtain ⟨⟨q2,rfl,hq2⟩,hw2⟩:=hcut
    have hT:(FloatKind.f64.format.order q2 4602678819172646912 == some .gt || FloatKind.f64.format.order q2 4602678819172646912 == some .eq) = sinT (wid (cn .f32 a)):=by
     unfold sinT;rw [← hq2,gek_c cn_c2]
    have HT:Hid ((FloatKind.f64.format.order q2 4602678819172646912 == some .gt || FloatKind.f64.format.order q2 4602678819172646912 == some .eq) = sinT (wid (cn .f32 a))):=hT
    clear hT
    go_upto_if 36 with fail
    rw [HT.out]
    go_cut [3,5] (fun s3 s5 wx => (∃ q,s3 = .float .f64 q ∧ cn .f64 q = sin3 (wid (cn .f32 a))) ∧ s5 = .bool (sinT (wid (cn .f32 a))) ∧ Below w.heap.size w wx)
    case first =>
     cases hT:sinT (wid (cn .f32 a))
     all_goals
      have HT2:=Lib.hid hT
      clear hT
      go_wp2_with (refine wp_bin rfl _ _ _ _ _ rfl _ _ _ rfl rfl rfl ?_;intro r n hr)
      go_meet
      case rel => exact ⟨⟨_,rfl,by simp only [sin3,HT2.out,cn_c2,Bool.not_true,Bool.not_false,Bool.false_eq_true,if_true,if_false, *]⟩,by rw [HT2.out],(by repeat' (first | exact Below.refl _ _ | exact Nat.le_refl _ | refine below_drewN ?_ _ | refine Below.alloc ?_ (by first | (simp;done) | (simp;omega)) _ | refine Below.setCell ?_ (by first | (simp;done) | (simp;omega)) _ | refine below_step ?_ (by assumption)))⟩
    case rest =>
     clear hw2
     obtain ⟨⟨q3,rfl,hq3⟩,rfl,hw3⟩:=hcut
     go_upto_if 40 with fail
     go_cut [3] (fun s3 wx => (∃ q,s3 = .float .f64 q ∧ cn .f64 q = sin4 (wid (cn .f32 a))) ∧ Below w.heap.size w wx)
     case first =>
      go_wp2_with (refine wp_bin rfl _ _ _ _ _ rfl _ _ _ rfl rfl rfl ?_;intro r n hr)
      ·go_meet
       case rel =>
        have he:=gtk_c cn_c3 ‹(FloatKind.f64.format.order _ 4598175219545276416 == some .gt) = true›
        simp only [*] at he
        exact ⟨⟨_,rfl,by simp only [sin4,he,cn_c2,Bool.not_true,Bool.not_false,Bool.false_eq_true,if_true,if_false, *]⟩,(by repeat' (first | exact Below.refl _ _ | exact Nat.le_refl _ | refine below_drewN ?_ _ | refine Below.alloc ?_ (by first | (simp;done) | (simp;omega)) _ | refine Below.setCell ?_ (by first | (simp;done) | (simp;omega)) _ | refine below_step ?_ (by assumption)))⟩
      ·go_meet
       case rel =>
        have he:=gtk_c cn_c3 ‹(FloatKind.f64.format.order _ 4598175219545276416 == some .gt) = false›
        simp only [*] at he
        exact ⟨⟨_,rfl,by simp only [sin4,he,Bool.not_true,Bool.not_false,Bool.false_eq_true,if_true,if_false, *]⟩,(by repeat' (first | exact Below.refl _ _ | exact Nat.le_refl _ | refine below_drewN ?_ _ | refine Below.alloc ?_ (by first | (simp;done) | (simp;omega)) _ | refine Below.setCell ?_ (by first | (simp;done) | (simp;omega)) _ | refine below_step ?_ (by assumption)))⟩
     case rest =>
      clear hw3
      obtain ⟨⟨q4,rfl,hq4⟩,hw4⟩:=hcut
      go_wp2_with (refine wp_bin rfl _ _ _ _ _ rfl _ _ _ rfl rfl rfl ?_;intro r n hr)
      go_loopw [8,9] (fun p k wr => ∃ n:Nat,∃ pw,n ≤ 8 ∧ k = .int .i64 (8 - (n:Int)) ∧ p = .float .f64 pw ∧ cn .f64 pw = polyF (D .mul (sinZ (wid (cn .f32 a))) (sinZ (wid (cn .f32 a)))) n ∧ Below w.heap.size w wr) (fun _ k _ => (intOf k).toNat)
      case atStart => exact ⟨0,_,by omega,rfl,rfl,by rw [cn_c1];rfl,(by repeat' (first | exact Below.refl _ _ | exact Nat.le_refl _ | refine below_drewN ?_ _ | refine Below.alloc ?_ (by first | (simp;done) | (simp;omega)) _ | refine Below.setCell ?_ (by first | (simp;done) | (simp;omega)) _ | refine below_step ?_ (by assumption)))⟩
      case round =>
       obtain ⟨m,pw,hm,rfl,rfl,hp,hwr⟩:=hrel
       by_cases hlt:m < 8
       ·go_wp2_with (refine wp_bin rfl _ _ _ _ _ rfl _ _ _ rfl rfl rfl ?_;intro r n hr)
        refine ⟨⟨m + 1,_,by omega,by congr 1;omega,rfl,?_,by exact below_drewN hwr _⟩,by simp [intOf];omega⟩
        have hw6:=wrap_fac m hlt
        simp only [polyF,facN,sinZ,cn_c1,cn_c4,cn_ofInt,D,hw6, *]
       ·obtain rfl:m = 8:=by omega
        rw [show ((8:Int) - ((8:Nat):Int)) = 0 from rfl]
        go_upto_if 67 with (refine wp_bin rfl _ _ _ _ _ rfl _ _ _ rfl rfl rfl ?_;intro r n hr)
        cases hT:sinT (wid (cn .f32 a))
        ·have HT2:Hid (sinT (wid (cn .f32 a)) = false):=hT
         clear hT
         go_wp2_with (refine wp_nar rfl _ _ _ rfl _ rfl ?_ ?_ ?_ ?_;exact some_f64;exact Tryz.underlying25;(refine (congrArg fits ?_).mpr (fits_sin _ hf);simp only [sinW,HT2.out,sinO,sinZ,cn_c4,D,Bool.false_eq_true,if_false, *]);intro r2 n2 hr2)
         go_ret
         exact ⟨_,rfl,by rw [hr2];simp only [sineF,hf,hG.out,sinW,HT2.out,sinO,sinZ,cn_c4,D,Bool.false_eq_true,if_false,if_true, *],(by repeat' (first | exact Below.refl _ _ | exact Nat.le_refl _ | refine below_drewN ?_ _ | refine Below.alloc ?_ (by first | (simp;done) | (simp;omega)) _ | refine Below.setCell ?_ (by first | (simp;done) | (simp;omega)) _ | refine below_step ?_ (by assumption)))⟩
        ·have HT2:Hid (sinT (wid (cn .f32 a)) = true):=hT
         clear hT
         go_wp2_with (refine wp_nar rfl _ _ _ rfl _ rfl ?_ ?_ ?_ ?_;exact some_f64;exact Tryz.underlying25;(refine (congrArg fits ?_).mpr (fits_sin _ hf);simp only [sinW,HT2.out,sinO,sinZ,cn_c4,D,Bool.false_eq_true,if_false,if_true,← negc_cn, *]);intro r2 n2 hr2)
         go_ret
         exact ⟨_,rfl,by rw [hr2];simp only [sineF,hf,hG.out,sinW,HT2.out,sinO,sinZ,cn_c4,D,Bool.false_eq_true,if_false,if_true,← negc_cn, *],(by repeat' (first | exact Below.refl _ _ | exact Nat.le_refl _ | refine below_drewN ?_ _ | refine Below.alloc ?_ (by first | (simp;done) | (simp;omega)) _ | refine Below.setCell ?_ (by first | (simp;done) | (simp;omega)) _ | refine below_step ?_ (by assumption)))⟩

theorem sine_any (a:Nat) (w:World):Calls Tryz.prog 211 #[.float .f32 a] w (Ret .f32 (sineF (cn .f32 a)) w):=by
 cases hf:eqk .f32 (B .sub (cn .f32 a) (cn .f32 a)) 0
 ·exact sine_nan a w hf
 ·exact sine_fin a w hf
end Go.Proofs.YtbiacfkiakddiaaGreat
