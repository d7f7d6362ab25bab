/-
  Lemmas: Y4,V20,Z2.
-/
import Derived.Test.YtdbpgblhnhdhoaaGreatKap
set_option linter.unusedVariables false
set_option linter.unusedSimpArgs false
namespace Go.Proofs.YtdbpgblhnhdhoaaGreat
open Go.RowKit Go.Fl
set_option maxRecDepth 100000 in
set_option maxHeartbeats 1000000 in
theorem vfin_any (x y z:Nat) (w:World) :
    Calls Tryz.prog 125 #[V3 x y z] w (fun e w' => e = .returned (.bool (vfin (cn .f32 x,cn .f32 y,cn .f32 z))) ∧ Below w.heap.size w w'):=by
  have hv:(!([x,y,z]:List Nat).any (fun x => !finP x)) = vfin (cn .f32 x,cn .f32 y,cn .f32 z):=by
    unfold vfin finB
    simp only [List.any_cons,List.any_nil,finP,Bool.or_false,Bool.not_or,Bool.not_not,Bool.and_assoc]
  go_enter Tryz.func125,Tryz.ntmps125
  go_wp2_with (go_at_call 155;refine (finite_any [x,y,z] (some ⟨_,0,none⟩) _ 0 3 _ (fun _ => rfl) ?_ (by simp)).mono ?_;(focus (intro i hi;have h3:i = 0 ∨ i = 1 ∨ i = 2:=(by simp at hi;omega);rcases h3 with rfl | rfl | rfl <;> simp));rintro _ w2 ⟨rfl,hb1⟩;rw [hv])
  go_ret
  exact ⟨rfl,(by repeat' (first | exact Below.refl _ _ | exact Nat.le_refl _ | refine below_drewN ?_ _ | refine Below.alloc ?_ (by first | (simp;done) | (simp;omega)) _ | refine Below.setCell ?_ (by first | (simp;done) | (simp;omega)) _ | refine below_step ?_ (by assumption)))⟩

set_option maxHeartbeats 400000 in
theorem isnan_any (a:Nat) (w:World) :
    Calls Tryz.prog 140 #[F1 a] w (fun e w' => e = .returned (.bool (!(FloatKind.f32.format.order a a == some .eq))) ∧ Below w.heap.size w w'):=by
  go_enter Tryz.func140,Tryz.ntmps140
  go_wp2_with fail
  go_ret
  exact ⟨rfl,(by repeat' (first | exact Below.refl _ _ | exact Nat.le_refl _ | refine below_drewN ?_ _ | refine Below.alloc ?_ (by first | (simp;done) | (simp;omega)) _ | refine Below.setCell ?_ (by first | (simp;done) | (simp;omega)) _ | refine below_step ?_ (by assumption)))⟩

end Go.Proofs.YtdbpgblhnhdhoaaGreat

namespace Go.Proofs.YtdbpgblhnhdhoaaGreat
open Go.RowKit Go.Fl
def boxP (l h:Nat × Nat × Nat):Bool:=vfin l && vfin h && lek .f32 l.1 h.1 && lek .f32 l.2.1 h.2.1 && lek .f32 l.2.2 h.2.2
theorem lek_raw (a b:Nat):lek .f32 (cn .f32 a) (cn .f32 b) = (FloatKind.f32.format.order a b == some .lt || FloatKind.f32.format.order a b == some .eq):=by unfold lek;rw [order_cn]
theorem way5 (p q r s t:Bool):p = false ∨ (p = true ∧ q = false) ∨ (p = true ∧ q = true ∧ r = false) ∨ (p = true ∧ q = true ∧ r = true ∧ s = false) ∨ (p = true ∧ q = true ∧ r = true ∧ s = true ∧ t = false) ∨ (p = true ∧ q = true ∧ r = true ∧ s = true ∧ t = true):=by
  cases p <;> cases q <;> cases r <;> cases s <;> cases t <;> simp

set_option maxRecDepth 100000 in
set_option maxHeartbeats 2000000 in
theorem box_any (a b c d e f:Nat) (w:World) :
    Calls Tryz.prog 91 #[.agg #[F1 a,F1 b,F1 c,F1 d,F1 e,F1 f]] w (fun e' w' => e' = .returned (.bool (boxP (cn .f32 a,cn .f32 b,cn .f32 c) (cn .f32 d,cn .f32 e,cn .f32 f))) ∧ Below w.heap.size w w'):=by
  obtain ⟨U,hU⟩:∃ U,Hid (boxP (cn .f32 a,cn .f32 b,cn .f32 c) (cn .f32 d,cn .f32 e,cn .f32 f) = U):=⟨_,rfl⟩
  rw [hU.out]
  have hUo:=hU.out
  unfold boxP at hUo
  simp only [lek_raw] at hUo
  obtain ⟨FA,hFA⟩:∃ FA,Hid (vfin (cn .f32 a,cn .f32 b,cn .f32 c) = FA):=⟨_,rfl⟩
  obtain ⟨FB,hFB⟩:∃ FB,Hid (vfin (cn .f32 d,cn .f32 e,cn .f32 f) = FB):=⟨_,rfl⟩
  rw [hFA.out,hFB.out] at hUo
  clear hU
  rcases way5 FA FB (FloatKind.f32.format.order a d == some .lt || FloatKind.f32.format.order a d == some .eq) (FloatKind.f32.format.order b e == some .lt || FloatKind.f32.format.order b e == some .eq) (FloatKind.f32.format.order c f == some .lt || FloatKind.f32.format.order c f == some .eq) with rfl | ⟨rfl,rfl⟩ | ⟨rfl,rfl,h3⟩ | ⟨rfl,rfl,h3,h4⟩ | ⟨rfl,rfl,h3,h4,h5⟩ | ⟨rfl,rfl,h3,h4,h5⟩
  all_goals
    simp only [*,Bool.and_true,Bool.and_false,Bool.false_and,Bool.true_and] at hUo
    subst hUo
    go_enter Tryz.func91,Tryz.ntmps91
    go_upto_region 1 with fail
    have W1b:Below w.heap.size w (w.alloc (.cells #[.float .f32 a,.float .f32 b,.float .f32 c,.float .f32 d,.float .f32 e,.float .f32 f] 83)):=(by repeat' (first | exact Below.refl _ _ | exact Nat.le_refl _ | refine below_drewN ?_ _ | refine Below.alloc ?_ (by first | (simp;done) | (simp;omega)) _ | refine Below.setCell ?_ (by first | (simp;done) | (simp;omega)) _ | refine below_step ?_ (by assumption)))
    
    have hkept:Kept [(⟨w.heap.size,0,none⟩,.float .f32 a),(⟨w.heap.size,1,none⟩,.float .f32 b),(⟨w.heap.size,2,none⟩,.float .f32 c),(⟨w.heap.size,3,none⟩,.float .f32 d),(⟨w.heap.size,4,none⟩,.float .f32 e),(⟨w.heap.size,5,none⟩,.float .f32 f)] [] (w.alloc (.cells #[.float .f32 a,.float .f32 b,.float .f32 c,.float .f32 d,.float .f32 e,.float .f32 f] 83)):=by
      simp only [Kept,List.forall_mem_append,List.forall_mem_cons,List.not_mem_nil,false_implies,implies_true,and_true,true_and];(first | (go_simp;done) | (simp [World.cell?,World.frozen?,World.alloc,Array.getElem?_push];done))
    generalize w.alloc (.cells #[.float .f32 a,.float .f32 b,.float .f32 c,.float .f32 d,.float .f32 e,.float .f32 f] 83) = W1 at *
    have hK:=hkept;simp only [Kept,List.forall_mem_append,List.forall_mem_cons,List.not_mem_nil,false_implies,implies_true,and_true,true_and] at hK
    go_wp2_with (first | (go_at_call 125;refine (vfin_any _ _ _ _).mono ?_;rintro _ w2 ⟨rfl,hb1⟩;(first | rw [hFA.out] | rw [hFB.out]);have W1b:=below_step W1b hb1;have hkept:=keepT hkept hb1 rfl;clear hK;have hK:=hkept;simp only [Kept,List.forall_mem_append,List.forall_mem_cons,List.not_mem_nil,false_implies,implies_true,and_true,true_and] at hK))
    go_ret
    exact ⟨rfl,W1b⟩
end Go.Proofs.YtdbpgblhnhdhoaaGreat

namespace Go.Proofs.YtdbpgblhnhdhoaaGreat
open Go.RowKit Go.Fl
theorem zero_place {x:Nat} {s:Bool} {e:Int} (h:FloatKind.f32.decode x = .number s 0 e):e = -149:=by
  change Ieee.single.read x = _ at h
  unfold Ieee.Format.read at h
  simp only [bS,iS,sS,lpS] at h
  split at h
  · injection h with h1 h2 h3
    exact h3.symm
  · split at h
    · injection h with h1 h2 h3
      omega
    · split at h <;> cases h

theorem eq_zero {x:Nat} (h:FloatKind.f32.format.order x 0 = some .eq):∃ s,FloatKind.f32.decode x = .number s 0 (-149):=by
  have h0:FloatKind.f32.decode 0 = .number false 0 (-149):=by decide +kernel
  change (FloatKind.f32.decode x).order (FloatKind.f32.decode 0) = _ at h
  rw [h0] at h
  cases hx:FloatKind.f32.decode x with
  | nan s t => rw [hx] at h;cases h
  | infinity s => rw [hx] at h;cases s <;> cases h
  | number s m e =>
    rw [hx] at h
    have h1:some (compare (Ieee.signed s m (e - min e (-149)).toNat) (Ieee.signed false 0 (-149 - min e (-149)).toNat)) = some Ordering.eq:=h
    have hm:=abs_cmp0 (Option.some.inj h1)
    subst hm
    rw [zero_place hx]
    exact ⟨s,rfl⟩

theorem zw_size {x x':Nat} (hx:Zw .f32 x x'):Zw .f32 (sizeF x) (sizeS x'):=by
  have ho:FloatKind.f32.format.order x 0 = FloatKind.f32.format.order x' 0:=Zw.order hx (Zw.refl _ 0)
  unfold sizeF sizeS
  cases h:FloatKind.f32.format.order x 0 with
  | none =>
    have h1:ltk .f32 x 0 = false:=by unfold ltk;rw [h];rfl
    have h2:lek .f32 x' 0 = false:=by unfold lek;rw [← ho,h];rfl
    rw [h1,h2];exact hx
  | some o =>
    cases o with
    | lt =>
      have h1:ltk .f32 x 0 = true:=by unfold ltk;rw [h];rfl
      have h2:lek .f32 x' 0 = true:=by unfold lek;rw [← ho,h];rfl
      rw [h1,h2]
      exact Zw.trans (sub_neg h1) (Zw.sub (Zw.refl _ _) hx)
    | eq =>
      have h1:ltk .f32 x 0 = false:=by unfold ltk;rw [h];rfl
      have h2:lek .f32 x' 0 = true:=by unfold lek;rw [← ho,h];rfl
      rw [h1,h2]
      obtain ⟨s,hd⟩:=eq_zero h
      have h3:Zw .f32 x 0:=.inr ⟨s,false,-149,hd,by decide +kernel⟩
      have h4:Zw .f32 0 (B .sub 0 0):=by
        have:B .sub 0 0 = 0:=by decide +kernel
        rw [this];exact Zw.refl _ _
      have h5:Zw .f32 x' x:=Zd.symm hx
      exact Zw.trans h3 (Zw.trans h4 (Zw.sub (Zw.refl _ _) (Zd.symm (Zw.trans h5 h3))))
    | gt =>
      have h1:ltk .f32 x 0 = false:=by unfold ltk;rw [h];rfl
      have h2:lek .f32 x' 0 = false:=by unfold lek;rw [← ho,h];rfl
      rw [h1,h2];exact hx

/-- Points that differ at most in signs of zeros. -/
def Zv (p q:Nat × Nat × Nat):Prop:=Zw .f32 p.1 q.1 ∧ Zw .f32 p.2.1 q.2.1 ∧ Zw .f32 p.2.2 q.2.2
theorem Zv.refl (p:Nat × Nat × Nat):Zv p p:=⟨Zw.refl _ _,Zw.refl _ _,Zw.refl _ _⟩

end Go.Proofs.YtdbpgblhnhdhoaaGreat
