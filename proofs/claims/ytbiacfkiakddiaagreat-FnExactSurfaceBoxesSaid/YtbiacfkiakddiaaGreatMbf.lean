/-
 Lemmas: Te,V37a.
-/
import Derived.Test.YtbiacfkiakddiaaGreatMbe
set_option linter.unusedVariables false
set_option linter.unusedSimpArgs false
namespace Go.Fl
open Go Go.RowKit Go.Ft Ieee
/-- A word is not above another one. -/
def leW (a b:Nat):Prop:=FloatKind.f32.format.order a b ≠ some .gt
theorem leD_nan_l {d e:Datum} (h:d.isNaN = true):leD d e:=by
 cases d with
 | nan s t => intro h2;cases h2
 | infinity s => cases h
 | number s m i => cases h
theorem leD_nan_r {d e:Datum} (h:e.isNaN = true):leD d e:=by
 cases e with
 | nan s t => cases d <;> (intro h2;cases h2)
 | infinity s => cases h
 | number s m i => cases h
theorem leD_refl (d:Datum):leD d d:=by
 cases d with
 | nan s t => intro h2;cases h2
 | infinity s => cases s <;> decide
 | number s m i =>
  intro h
  have h':some (compare (signed s m (i - min i i).toNat) (signed s m (i - min i i).toNat)) = some Ordering.gt:=h
  injection h' with h'
  have:=cmp_gt.1 h'
  omega
theorem sval_not (s:Bool) (m:Nat) (e:Int):sval (!s) m e = -sval s m e:=by
 unfold sval
 cases s <;> simp
theorem leD_opp {d e:Datum} (pd:placed d) (pe:placed e) (h:leD d e):leD e.opposite d.opposite:=by
 cases d with
 | nan s t => exact leD_nan_r rfl
 | infinity s =>
  cases e with
  | nan s t => exact leD_nan_l rfl
  | infinity t => cases s <;> cases t <;> first | decide | exact absurd rfl h
  | number t n j =>
   cases s
   ·exact absurd rfl h
   ·show (some Ordering.lt) ≠ _;simp
 | number s m i =>
  cases e with
  | nan s t => exact leD_nan_l rfl
  | infinity t =>
   cases t
   ·show (some Ordering.lt) ≠ _;simp
   ·exact absurd rfl h
  | number t n j =>
   have h':=(le_num pd pe).1 h
   show leD (.number (!t) n j) (.number (!s) m i)
   rw [le_num pe pd,sval_not,sval_not]
   omega

theorem placed_read (x:Nat):placed (single.read x):=by
 cases h:single.read x with
 | nan s t => trivial
 | infinity s => trivial
 | number s m e =>
  have:=(read_single h).2.1
  show -6000 ≤ e
  omega
theorem placed_opp {d:Datum} (h:placed d):placed d.opposite:=by cases d <;> exact h

theorem nan_read:(single.read (nanw .f32)).isNaN = true:=nan_nanw .f32

theorem getD_le {x y:Option Datum} (hx:∀ r,x = some r → r.isNaN = false) (hy:∀ r,y = some r → r.isNaN = false) (h:∀ r r',x = some r → y = some r' → leD (single.read (single.write r)) (single.read (single.write r'))) :
  leW ((x.map single.write).getD (nanw .f32)) ((y.map single.write).getD (nanw .f32)):=by
 cases x with
 | none => exact leD_nan_l nan_read
 | some r =>
  cases y with
  | none => exact leD_nan_r nan_read
  | some r' => exact h r r' rfl rfl

theorem add_mono {a b c d:Nat} (h1:leW a b) (h2:leW c d):leW (B .add a c) (B .add b d):=by
 refine getD_le (fun r h => sum_not h) (fun r h => sum_not h) fun r r' hr hr' => ?_
 obtain ⟨k1,k2,k3⟩:=sum_mono (placed_read a) (placed_read c) (placed_read b) (placed_read d) h1 h2 hr hr'
 exact write_mono k2 k3 (sum_not hr) (sum_not hr') k1
theorem sub_mono {a b c d:Nat} (h1:leW a b) (h2:leW c d):leW (B .sub a d) (B .sub b c):=by
 refine getD_le (fun r h => sum_not h) (fun r h => sum_not h) fun r r' hr hr' => ?_
 obtain ⟨k1,k2,k3⟩:=sum_mono (placed_read a) (placed_opp (placed_read d)) (placed_read b) (placed_opp (placed_read c)) h1 (leD_opp (placed_read c) (placed_read d) h2) hr hr'
 exact write_mono k2 k3 (sum_not hr) (sum_not hr') k1
theorem leW_refl (a:Nat):leW a a:=leD_refl _

theorem qq_mono {m n m' k k':Nat} (h:m <<< k ≤ m' <<< k'):qq m n k ≤ qq m' n k':=by
 unfold qq
 generalize m <<< k = X at *
 generalize m' <<< k' = Y at *
 have h1:X / n ≤ Y / n:=Nat.div_le_div_right h
 have b1:=Bool.toNat_le (X % n != 0)
 rcases Nat.lt_or_eq_of_le h1 with h2 | h2
 ·omega
 ·have e1:=Nat.div_add_mod X n
  have e2:=Nat.div_add_mod Y n
  rw [h2] at e1 ⊢
  have:X % n ≤ Y % n:=by omega
  by_cases hz:X % n = 0
  ·rw [hz];simp
  ·have hy:Y % n ≠ 0:=by omega
   have e3:(X % n != 0) = true:=by simpa using hz
   have e4:(Y % n != 0) = true:=by simpa using hy
   rw [e3,e4];exact Nat.le_refl _

theorem rg_quo {m m' n:Nat} {i i' j:Int} (hi:-149 ≤ i ∧ i ≤ 104) (hi':-149 ≤ i' ∧ i' ≤ 104) (hj:-149 ≤ j ∧ j ≤ 104) (hm:m < 16777216) (hm':m' < 16777216) (hn:n ≠ 0) (hn':n < 16777216) (h:val m i ≤ val m' i') :
  rg single (qq m n (25 + n.log2 - m.log2)) (i - j - (25 + n.log2 - m.log2:Nat) - 1) ≤ rg single (qq m' n (25 + n.log2 - m'.log2)) (i' - j - (25 + n.log2 - m'.log2:Nat) - 1):=by
 by_cases h0:m = 0
 ·subst h0
  have:qq 0 n (25 + n.log2 - (0:Nat).log2) = 0:=by unfold qq;simp
  rw [this]
  unfold rg
  simp
 have h0':m' ≠ 0:=fun h1 => by
  rw [val_zero.2 h1] at h
  exact h0 (val_zero.1 (Nat.le_zero.1 h))
 have l1:m.log2 < 24:=(Nat.log2_lt h0).2 hm
 have l2:m'.log2 < 24:=(Nat.log2_lt h0').2 hm'
 have l3:n.log2 < 24:=(Nat.log2_lt hn).2 hn'
 generalize hk:25 + n.log2 - m.log2 = k
 generalize hk':25 + n.log2 - m'.log2 = k'
 obtain ⟨t,t',htt⟩:∃ t t':Nat,i - k - t = i' - k' - t' ∧ t ≤ 400 ∧ t' ≤ 400:=by
  rcases Int.le_total (i - k) (i' - k') with hl | hl
  ·exact ⟨0,((i' - k') - (i - k)).toNat,by omega⟩
  ·exact ⟨((i - k) - (i' - k')).toNat,0,by omega⟩
 have e1:=qq_fine single lpS6 h0 hn k t (by have:=fS;omega) (P:=i - j - k - 1) (by omega)
 have e2:=qq_fine single lpS6 h0' hn k' t' (by have:=fS;omega) (P:=i' - j - k' - 1) (by omega)
 rw [← e1,← e2]
 rw [show i - j - (k:Int) - 1 - t = i' - j - (k':Int) - 1 - t' by omega]
 refine rg_mono single (by omega) (by omega) (val_le_iff.2 (qq_mono ?_))
 rw [Nat.shiftLeft_eq,Nat.shiftLeft_eq]
 have h2:m * 2 ^ (k + t) * 2 ^ (i - k - t + 6000).toNat ≤ m' * 2 ^ (k' + t') * 2 ^ (i - k - t + 6000).toNat:=by
  rw [Nat.mul_assoc,Nat.mul_assoc,← pow_add2,← pow_add2]
  unfold val at h
  rw [show k + t + (i - (k:Int) - t + 6000).toNat = (i + 6000).toNat by omega,show k' + t' + (i - (k:Int) - t + 6000).toNat = (i' + 6000).toNat by omega]
  exact h
 exact Nat.le_of_mul_le_mul_right h2 (pow_pos2 _)

/-- A word is a number above 0. -/
def posW (v:Nat):Prop:=∃ n j,single.read v = .number false n j ∧ n ≠ 0

theorem quo_mono {a b v:Nat} (hv:posW v) (h:leW a b):leW (B .quo a v) (B .quo b v):=by
 obtain ⟨n,j,hn,h0⟩:=hv
 have bn:=read_single hn
 show leW (((((single.read a).quotient 25 (single.read v))).map single.write).getD (nanw .f32)) (((((single.read b).quotient 25 (single.read v))).map single.write).getD (nanw .f32))
 refine getD_le (fun r h => quotient_not h) (fun r h => quotient_not h) fun r r' hr hr' => ?_
 rw [hn] at hr hr'
 have h':leD (single.read a) (single.read b):=h
 cases ha:single.read a with
 | nan s t => rw [ha] at hr;cases hr
 | infinity s =>
  rw [ha] at hr h'
  have hr2:some (Datum.infinity (s ^^ false)) = some r:=hr
  injection hr2 with hr2
  subst hr2
  cases hb:single.read b with
  | nan s t => rw [hb] at hr';cases hr'
  | infinity t =>
   rw [hb] at hr' h'
   have hr3:some (Datum.infinity (t ^^ false)) = some r':=hr'
   injection hr3 with hr3
   subst hr3
   rw [Bool.xor_false,Bool.xor_false]
   exact write_mono trivial trivial rfl rfl h'
  | number t m' i' =>
   rw [hb] at hr' h'
   rw [quot_eq _ _ _ h0] at hr'
   injection hr' with hr'
   subst hr'
   rw [Bool.xor_false]
   cases s
   ·exact absurd rfl h'
   ·have bb:=read_single hb
    refine write_mono trivial ?_ rfl rfl (by show (some Ordering.lt) ≠ _;simp)
    have l3:n.log2 < 24:=(Nat.log2_lt h0).2 bn.1
    show -6000 ≤ i' - j - ((25 + n.log2 - m'.log2:Nat):Int) - 1
    omega
 | number s m i =>
  rw [ha] at hr h'
  rw [quot_eq _ _ _ h0] at hr
  injection hr with hr
  have ba:=read_single ha
  have l3:n.log2 < 24:=(Nat.log2_lt h0).2 bn.1
  cases hb:single.read b with
  | nan s t => rw [hb] at hr';cases hr'
  | infinity t =>
   rw [hb] at hr' h'
   have hr3:some (Datum.infinity (t ^^ false)) = some r':=hr'
   injection hr3 with hr3
   subst hr3 hr
   rw [Bool.xor_false,Bool.xor_false]
   cases t
   ·refine write_mono ?_ trivial rfl rfl (by show (some Ordering.lt) ≠ _;simp)
    show -6000 ≤ i - j - ((25 + n.log2 - m.log2:Nat):Int) - 1
    omega
   ·exact absurd rfl h'
  | number t m' i' =>
   have bb:=read_single hb
   rw [hb] at hr' h'
   rw [quot_eq _ _ _ h0] at hr'
   injection hr' with hr'
   subst hr hr'
   rw [Bool.xor_false,Bool.xor_false]
   show leD (single.read (single.nearest s (qq m n (25 + n.log2 - m.log2)) (i - j - (25 + n.log2 - m.log2:Nat) - 1))) (single.read (single.nearest t (qq m' n (25 + n.log2 - m'.log2)) (i' - j - (25 + n.log2 - m'.log2:Nat) - 1)))
   rw [nearest_rg,nearest_rg]
   refine order_word (Nat.min_le_right _ _) (Nat.min_le_right _ _) ?_
   rw [sr_le]
   rcases sval_le.1 ((le_num (by omega) (by omega)).1 h') with ⟨a1,b1,c1⟩ | ⟨a1,b1,c1⟩ | ⟨a1,b1⟩ | ⟨a1,b1,c1,d1⟩
   ·have:=rg_quo ba.2 bb.2 bn.2 ba.1 bb.1 h0 bn.1 c1
    exact .inl ⟨a1,b1,by omega⟩
   ·have:=rg_quo bb.2 ba.2 bn.2 bb.1 ba.1 h0 bn.1 c1
    exact .inr (.inl ⟨a1,b1,by omega⟩)
   ·exact .inr (.inr (.inl ⟨a1,b1⟩))
   ·have z1:=val_zero.1 c1
    have z2:=val_zero.1 d1
    subst z1 z2
    have q0:∀ k,qq 0 n k = 0:=fun k => by unfold qq;simp
    rw [q0]
    exact .inr (.inr (.inr ⟨a1,b1,by unfold rg;simp,by unfold rg;simp⟩))
end Go.Fl

namespace Go.Proofs.YtbiacfkiakddiaaGreat
open Go.RowKit Go.Fl
theorem lek_leW {a b:Nat} (h:lek .f32 a b = true):leW a b:=by
 intro h2
 unfold lek at h
 rw [h2] at h
 cases h
end Go.Proofs.YtbiacfkiakddiaaGreat
