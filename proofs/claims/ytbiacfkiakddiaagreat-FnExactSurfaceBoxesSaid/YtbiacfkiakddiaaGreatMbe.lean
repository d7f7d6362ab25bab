/-
 Lemmas: Td.
-/
import Derived.Test.YtbiacfkiakddiaaGreatMak
set_option linter.unusedVariables false
set_option linter.unusedSimpArgs false
namespace Go.Ft
open Ieee
theorem rnd_mono {n n':Nat} (d:Nat) (h:n ≤ n'):rnd n d ≤ rnd n' d:=by
 have hd:=pow_pos2 d
 unfold rnd
 generalize (2:Nat) ^ d = D at *
 have h1:n / D ≤ n' / D:=Nat.div_le_div_right h
 have e1:=Nat.div_add_mod n D
 have e2:=Nat.div_add_mod n' D
 rcases Nat.lt_or_ge (n / D) (n' / D) with h2 | h2
 ·have:=Bool.toNat_le (decide (D < 2 * (n % D)) || (D == 2 * (n % D) && n / D % 2 == 1))
  omega
 ·have h3:n / D = n' / D:=Nat.le_antisymm h1 h2
  rw [h3] at e1 ⊢
  have h4:n % D ≤ n' % D:=by omega
  generalize n' / D = q at *
  generalize n % D = r at *
  generalize n' % D = r' at *
  refine Nat.add_le_add_left ?_ _
  by_cases c1:D < 2 * r'
  ·rw [decide_eq_true c1,Bool.true_or];exact Bool.toNat_le _
  ·have c2:¬ D < 2 * r:=by omega
   rw [decide_eq_false c1,decide_eq_false c2,Bool.false_or,Bool.false_or]
   by_cases c3:D = 2 * r
   ·have c4:D = 2 * r':=by omega
    have f1:(D == 2 * r) = true:=beq_iff_eq.2 c3
    have f2:(D == 2 * r') = true:=beq_iff_eq.2 c4
    rw [f1,f2];exact Nat.le_refl _
   ·have f1:(D == 2 * r) = false:=beq_eq_false_iff_ne.2 c3
    rw [f1];exact Nat.zero_le _

theorem R_val (m:Nat) {e:Int} (he:-6000 ≤ e) (l:Int):R m (e - l) = R (val m e) (-6000 - l):=by
 have:=R_shift m (e + 6000).toNat (e - l)
 rw [show e - l - ((e + 6000).toNat:Int) = -6000 - l by omega] at this
 exact this.symm
theorem R_mono {m n:Nat} (t:Int) (h:m ≤ n):R m t ≤ R n t:=rnd_mono _ (Nat.mul_le_mul_right _ h)

theorem log2_mono {a b:Nat} (ha:a ≠ 0) (h:a ≤ b):a.log2 ≤ b.log2:=(Nat.le_log2 (by omega)).2 (Nat.le_trans (Nat.log2_self_le ha) h)
theorem log_val {m:Nat} (h:m ≠ 0) (e:Int):(val m e).log2 = m.log2 + (e + 6000).toNat:=log2_mul_pow h _

variable (f:Format)
/-- The rung of a number,infinity left out of sight. -/
def rg (m:Nat) (e:Int):Nat:=if m = 0 then 0 else (last f m e - f.leastPlace).toNat * f.binade + R m (e - last f m e)

theorem nearest_rg (s:Bool) (m:Nat) (e:Int):f.nearest s m e = f.word s (min (rg f m e) f.infRung):=by
 unfold rg
 by_cases h:m = 0
 ·subst h
  unfold Format.nearest
  rw [if_pos rfl,if_pos rfl,Nat.zero_min]
 ·rw [if_neg h,nearest_eq f s h]

theorem rg_mono {m n:Nat} {e e':Int} (he:-6000 ≤ e) (he':-6000 ≤ e') (h:val m e ≤ val n e'):rg f m e ≤ rg f n e':=by
 unfold rg
 by_cases hm:m = 0
 ·rw [if_pos hm];exact Nat.zero_le _
 have hn:n ≠ 0:=fun hn => by
  rw [val_zero.2 hn] at h
  exact hm (val_zero.1 (Nat.le_zero.1 h))
 rw [if_neg hm,if_neg hn]
 have h1:=log2_mono (fun h0 => hm (val_zero.1 h0)) h
 rw [log_val hm,log_val hn] at h1
 have hL:last f m e ≤ last f n e':=by unfold last;omega
 have g1:=last_ge f m e
 have k1:=kept_le f hm e
 have k2:=kept_ge f hn e'
 rcases Int.lt_or_eq_of_le hL with hlt | heq
 ·have hb:f.binade ≤ R n (e' - last f n e'):=by
   rcases k2 with k | k
   ·omega
   ·exact k
  have:=Nat.mul_le_mul_right f.binade (show (last f m e - f.leastPlace).toNat + 1 ≤ (last f n e' - f.leastPlace).toNat by omega)
  rw [Nat.add_mul] at this
  omega
 ·rw [heq,R_val m he,R_val n he']
  exact Nat.add_le_add_left (R_mono _ h) _

theorem rg_eq {m n:Nat} {e e':Int} (he:-6000 ≤ e) (he':-6000 ≤ e') (h:val m e = val n e'):rg f m e = rg f n e' :=
 Nat.le_antisymm (rg_mono f he he' (Nat.le_of_eq h)) (rg_mono f he' he (Nat.le_of_eq h.symm))

/-- The value of a rung. -/
def vr (r:Nat):Nat:=match f.read (f.word false r) with
 | .number _ m e => val m e
 | _ => 0

theorem read_vr (h0:-6000 ≤ f.leastPlace) (s:Bool) {r:Nat} (h:r < f.infRung):∃ m e,f.read (f.word s r) = .number s m e ∧ val m e = vr f r ∧ f.leastPlace ≤ e:=by
 unfold vr
 rw [read_word f s h,read_word f false h]
 split
 ·exact ⟨_,_,rfl,rfl,by omega⟩
 ·exact ⟨_,_,rfl,rfl,by omega⟩

theorem rung_parts (r:Nat):∃ (l:Int) (k:Nat),f.leastPlace ≤ l ∧ k + 1 ≤ 2 * f.binade ∧ (l = f.leastPlace ∨ f.binade ≤ k) ∧ (l - f.leastPlace).toNat * f.binade + k = r:=by
 have hB:0 < f.binade:=pow_pos2 _
 generalize f.leastPlace = lp
 generalize f.binade = B at *
 by_cases h:r < B
 ·exact ⟨lp,r,by omega,by omega,.inl rfl,by simp⟩
 ·have e:=Nat.div_add_mod r B
  have hl:=Nat.mod_lt r hB
  have h1:1 ≤ r / B:=(Nat.le_div_iff_mul_le hB).2 (by omega)
  obtain ⟨j,hj⟩:∃ j,r / B = j + 1:=⟨r / B - 1,by omega⟩
  rw [hj,Nat.mul_comm,Nat.add_mul] at e
  exact ⟨lp + (j:Int),B + r % B,by omega,by omega,.inr (by omega),by rw [show (lp + (j:Int) - lp).toNat = j by omega];omega⟩

theorem vr_step (h0:-6000 ≤ f.leastPlace) {r:Nat} (h:r + 1 < f.infRung):vr f r ≤ vr f (r + 1):=by
 obtain ⟨l,k,hl,hk,hb,hr⟩:=rung_parts f r
 subst hr
 obtain ⟨m,e,r1,v1,_⟩:=read_rung f false hl h0 (by omega) hb (by omega)
 obtain ⟨m',e',r2,v2,_⟩:=read_rung f false (k:=k + 1) hl h0 hk (by omega) (by omega)
 rw [← Nat.add_assoc] at r2
 unfold vr
 rw [r1,r2]
 show val m e ≤ val m' e'
 rw [v1,v2]
 exact val_le_iff.2 (by omega)

theorem vr_mono (h0:-6000 ≤ f.leastPlace) {r q:Nat} (h:r ≤ q) (hq:q < f.infRung):vr f r ≤ vr f q:=by
 induction q with
 | zero => rw [Nat.le_zero.1 h];exact Nat.le_refl _
 | succ q ih =>
  rcases Nat.lt_or_ge r (q + 1) with h1 | h1
  ·exact Nat.le_trans (ih (by omega) (by omega)) (vr_step f h0 hq)
  ·rw [show r = q + 1 by omega];exact Nat.le_refl _

theorem vr_zero (hB:f.binade ≤ f.infRung):vr f 0 = 0:=by
 have hp:0 < f.binade:=pow_pos2 _
 unfold vr
 rw [read_word f false (by omega),if_pos hp]
 exact val_zero.2 rfl

theorem sval_le {s t:Bool} {m n:Nat} {e e':Int}:sval s m e ≤ sval t n e' ↔ (s = false ∧ t = false ∧ val m e ≤ val n e') ∨ (s = true ∧ t = true ∧ val n e' ≤ val m e) ∨ (s = true ∧ t = false) ∨ (s = false ∧ t = true ∧ val m e = 0 ∧ val n e' = 0):=by
 unfold sval
 cases s <;> cases t <;> simp <;> omega

/-- A rung with its sign. -/
def sr (s:Bool) (r:Nat):Int:=if s then -(r:Int) else r
theorem sr_le {s t:Bool} {r q:Nat}:sr s r ≤ sr t q ↔ (s = false ∧ t = false ∧ r ≤ q) ∨ (s = true ∧ t = true ∧ q ≤ r) ∨ (s = true ∧ t = false) ∨ (s = false ∧ t = true ∧ r = 0 ∧ q = 0):=by
 unfold sr
 cases s <;> cases t <;> simp <;> omega

theorem lpS6:-6000 ≤ single.leastPlace:=by decide
theorem bi6:single.binade ≤ single.infRung:=by decide
theorem pi6:0 < single.infRung:=by decide
theorem inf6 (s:Bool):single.read (single.word s single.infRung) = .infinity s:=by cases s <;> decide +kernel

/-- Not above. -/
def leD (d e:Datum):Prop:=d.order e ≠ some .gt
instance (d e:Datum):Decidable (leD d e):=inferInstanceAs (Decidable (d.order e ≠ some .gt))
def placed:Datum → Prop
 | .number _ _ e => -6000 ≤ e
 | _ => True

theorem le_num {s t:Bool} {m n:Nat} {i j:Int} (hi:-6000 ≤ i) (hj:-6000 ≤ j):leD (.number s m i) (.number t n j) ↔ sval s m i ≤ sval t n j:=by
 unfold leD
 rw [order_val s t m n hi hj]
 have h:=@cmp_gt (sval s m i) (sval t n j)
 constructor
 ·intro h1
  rcases Int.lt_or_le (sval t n j) (sval s m i) with h2 | h2
  ·exact absurd (by rw [h.2 h2]) h1
  ·exact h2
 ·intro h1 h2
  injection h2 with h2
  have:=h.1 h2
  omega

theorem order_word {s t:Bool} {r q:Nat} (hr:r ≤ single.infRung) (hq:q ≤ single.infRung) (h:sr s r ≤ sr t q):leD (single.read (single.word s r)) (single.read (single.word t q)):=by
 have hi:=pi6
 rcases Nat.lt_or_eq_of_le hr with h1 | h1
 ·obtain ⟨m,e,d1,v1,p1⟩:=read_vr single lpS6 s h1
  rcases Nat.lt_or_eq_of_le hq with h2 | h2
  ·obtain ⟨n,e',d2,v2,p2⟩:=read_vr single lpS6 t h2
   have hl:=lpS6
   rw [d1,d2,le_num (by omega) (by omega),sval_le,v1,v2]
   rcases sr_le.1 h with ⟨a,b,c⟩ | ⟨a,b,c⟩ | ⟨a,b⟩ | ⟨a,b,c,d⟩
   ·exact .inl ⟨a,b,vr_mono _ lpS6 c h2⟩
   ·exact .inr (.inl ⟨a,b,vr_mono _ lpS6 c h1⟩)
   ·exact .inr (.inr (.inl ⟨a,b⟩))
   ·refine .inr (.inr (.inr ⟨a,b,?_,?_⟩))
    ·rw [c];exact vr_zero _ bi6
    ·rw [d];exact vr_zero _ bi6
  ·subst h2
   rw [d1,inf6]
   unfold leD
   cases t
   ·show (some Ordering.lt) ≠ _;simp
   ·rcases sr_le.1 h with ⟨a,b,c⟩ | ⟨a,b,c⟩ | ⟨a,b⟩ | ⟨a,b,c,d⟩
    ·cases b
    ·omega
    ·cases b
    ·omega
 ·subst h1
  rw [inf6]
  unfold leD
  rcases Nat.lt_or_eq_of_le hq with h2 | h2
  ·obtain ⟨n,e',d2,v2,p2⟩:=read_vr single lpS6 t h2
   rw [d2]
   cases s
   ·rcases sr_le.1 h with ⟨a,b,c⟩ | ⟨a,b,c⟩ | ⟨a,b⟩ | ⟨a,b,c,d⟩
    ·omega
    ·cases a
    ·cases a
    ·omega
   ·show (some Ordering.lt) ≠ _;simp
  ·subst h2
   rw [inf6]
   rcases sr_le.1 h with ⟨a,b,c⟩ | ⟨a,b,c⟩ | ⟨a,b⟩ | ⟨a,b,c,d⟩
   ·subst a b;decide
   ·subst a b;decide
   ·subst a b;decide
   ·omega

theorem rg_zero {m:Nat} {e:Int} (h:val m e = 0):rg f m e = 0:=by unfold rg;rw [if_pos (val_zero.1 h)]

/-- Written words keep the order. -/
theorem write_mono {d e:Datum} (hd:placed d) (he:placed e) (nd:d.isNaN = false) (ne:e.isNaN = false) (h:leD d e):leD (single.read (single.write d)) (single.read (single.write e)):=by
 cases d with
 | nan s t => cases nd
 | infinity s =>
  cases e with
  | nan s t => cases ne
  | infinity t =>
   show leD (single.read (single.word s single.infRung)) (single.read (single.word t single.infRung))
   rw [inf6,inf6];exact h
  | number t n j =>
   show leD (single.read (single.word s single.infRung)) (single.read (single.nearest t n j))
   rw [nearest_rg]
   refine order_word (Nat.le_refl _) (Nat.min_le_right _ _) ?_
   cases s
   ·exact absurd rfl h
   ·rw [sr_le]
    cases t
    ·exact .inr (.inr (.inl ⟨rfl,rfl⟩))
    ·exact .inr (.inl ⟨rfl,rfl,Nat.min_le_right _ _⟩)
 | number s m i =>
  cases e with
  | nan s t => cases ne
  | infinity t =>
   show leD (single.read (single.nearest s m i)) (single.read (single.word t single.infRung))
   rw [nearest_rg]
   refine order_word (Nat.min_le_right _ _) (Nat.le_refl _) ?_
   cases t
   ·rw [sr_le]
    cases s
    ·exact .inl ⟨rfl,rfl,Nat.min_le_right _ _⟩
    ·exact .inr (.inr (.inl ⟨rfl,rfl⟩))
   ·exact absurd rfl h
  | number t n j =>
   show leD (single.read (single.nearest s m i)) (single.read (single.nearest t n j))
   rw [nearest_rg,nearest_rg]
   refine order_word (Nat.min_le_right _ _) (Nat.min_le_right _ _) ?_
   rw [sr_le]
   rcases sval_le.1 ((le_num hd he).1 h) with ⟨a,b,c⟩ | ⟨a,b,c⟩ | ⟨a,b⟩ | ⟨a,b,c,d⟩
   ·have:=rg_mono single hd he c
    exact .inl ⟨a,b,by omega⟩
   ·have:=rg_mono single he hd c
    exact .inr (.inl ⟨a,b,by omega⟩)
   ·exact .inr (.inr (.inl ⟨a,b⟩))
   ·have c1:=rg_zero single c
    have d1:=rg_zero single d
    exact .inr (.inr (.inr ⟨a,b,by rw [c1];rfl,by rw [d1];rfl⟩))

theorem sum_val (s t:Bool) (m n:Nat) {i j:Int} (hi:-6000 ≤ i) (hj:-6000 ≤ j):∃ u k,(Datum.number s m i).sum (.number t n j) = some (.number u k (min i j)) ∧ sval u k (min i j) = sval s m i + sval t n j:=by
 have hb:-6000 ≤ min i j:=by omega
 have e1:=signed_scale s m hb (show min i j ≤ i by omega)
 have e2:=signed_scale t n hb (show min i j ≤ j by omega)
 refine ⟨_,_,rfl,?_⟩
 generalize signed s m (i - min i j).toNat = a at *
 generalize signed t n (j - min i j).toNat = b at *
 rw [← e1,← e2,← Int.add_mul]
 generalize a + b = c
 unfold sval val
 generalize (2:Nat) ^ (min i j + 6000).toNat = p
 by_cases hc:c = 0
 ·subst hc;simp
 ·rw [if_neg hc]
  by_cases hn:c < 0
  ·rw [if_pos (by simpa using hn),Int.natCast_mul,← Int.neg_mul]
   congr 1
   omega
  ·rw [if_neg (by simpa using hn),Int.natCast_mul]
   congr 1
   omega

theorem sum_mono {d e d' e' r r':Datum} (pd:placed d) (pe:placed e) (pd':placed d') (pe':placed e') (h1:leD d d') (h2:leD e e') (hr:d.sum e = some r) (hr':d'.sum e' = some r'):leD r r' ∧ placed r ∧ placed r':=by
 have key:∀ {d e r:Datum},placed d → placed e → d.sum e = some r → (∃ s m i t n j,d = .number s m i ∧ e = .number t n j ∧ ∃ u k,r = .number u k (min i j) ∧ sval u k (min i j) = sval s m i + sval t n j) ∨ (∃ s,d = .infinity s ∧ r = .infinity s ∧ ¬ e = .infinity (!s) ∧ e.isNaN = false) ∨ (∃ s,e = .infinity s ∧ r = .infinity s ∧ ¬ d = .infinity (!s) ∧ d.isNaN = false):=by
  intro d e r pd pe h
  cases d with
  | nan s t => cases h
  | infinity s =>
   cases e with
   | nan s t => cases h
   | infinity t =>
    have h':(if s = t then some (Datum.infinity s) else none) = some r:=h
    split at h'
    ·rename_i hst
     subst hst
     injection h' with h'
     exact .inr (.inl ⟨s,rfl,h'.symm,by cases s <;> simp,rfl⟩)
    ·cases h'
   | number t n j =>
    injection h with h
    exact .inr (.inl ⟨s,rfl,h.symm,by simp,rfl⟩)
  | number s m i =>
   cases e with
   | nan s t => cases h
   | infinity t =>
    injection h with h
    exact .inr (.inr ⟨t,rfl,h.symm,by simp,rfl⟩)
   | number t n j =>
    obtain ⟨u,k,h3,h4⟩:=sum_val s t m n pd pe
    rw [h3] at h
    injection h with h
    exact .inl ⟨s,m,i,t,n,j,rfl,rfl,u,k,h.symm,h4⟩
 have lo:∀ {x:Datum},¬ x.isNaN = true → leD (.infinity true) x:=by
  intro x hx
  cases x with
  | nan => exact absurd rfl hx
  | infinity s => cases s <;> decide
  | number s m e => show (some Ordering.lt) ≠ _;simp
 have hi:∀ {x:Datum},¬ x.isNaN = true → leD x (.infinity false):=by
  intro x hx
  cases x with
  | nan => exact absurd rfl hx
  | infinity s => cases s <;> decide
  | number s m e => show (some Ordering.lt) ≠ _;simp
 have up:∀ {x:Datum},x.isNaN = false → leD (.infinity false) x → x = .infinity false:=by
  intro x hx h
  cases x with
  | nan => cases hx
  | infinity s => cases s;rfl;exact absurd (by decide) h
  | number s m e => exact absurd rfl h
 have dn:∀ {x:Datum},x.isNaN = false → leD x (.infinity true) → x = .infinity true:=by
  intro x hx h
  cases x with
  | nan => cases hx
  | infinity s => cases s;exact absurd (by decide) h;rfl
  | number s m e => exact absurd rfl h
 rcases key pd pe hr with ⟨s,m,i,t,n,j,rfl,rfl,u,k,rfl,hv⟩ | ⟨s,rfl,rfl,c1,c2⟩ | ⟨s,rfl,rfl,c1,c2⟩
 ·rcases key pd' pe' hr' with ⟨s',m',i',t',n',j',rfl,rfl,u',k',rfl,hv'⟩ | ⟨s',rfl,rfl,c1',c2'⟩ | ⟨s',rfl,rfl,c1',c2'⟩
  ·have q1:-6000 ≤ i:=pd
   have q2:-6000 ≤ j:=pe
   have q3:-6000 ≤ i':=pd'
   have q4:-6000 ≤ j':=pe'
   have g1:=(le_num q1 q3).1 h1
   have g2:=(le_num q2 q4).1 h2
   exact ⟨(le_num (by omega) (by omega)).2 (by omega),(by show -6000 ≤ min i j;omega),(by show -6000 ≤ min i' j';omega)⟩
  ·refine ⟨?_,(by have q1:-6000 ≤ i:=pd;have q2:-6000 ≤ j:=pe;show -6000 ≤ min i j;omega),trivial⟩
   cases s'
   ·exact hi (by intro h;cases h)
   ·exact absurd rfl h1
  ·refine ⟨?_,(by have q1:-6000 ≤ i:=pd;have q2:-6000 ≤ j:=pe;show -6000 ≤ min i j;omega),trivial⟩
   cases s'
   ·exact hi (by intro h;cases h)
   ·exact absurd rfl h2
 ·have hp:placed r':=by
   rcases key pd' pe' hr' with ⟨s',m',i',t',n',j',rfl,rfl,u',k',rfl,hv'⟩ | ⟨s',rfl,rfl,c1',c2'⟩ | ⟨s',rfl,rfl,c1',c2'⟩
   ·have q3:-6000 ≤ i':=pd'
    have q4:-6000 ≤ j':=pe'
    show -6000 ≤ min i' j'
    omega
   ·trivial
   ·trivial
  have hn:¬ r'.isNaN = true:=by
   rcases key pd' pe' hr' with ⟨s',m',i',t',n',j',rfl,rfl,u',k',rfl,hv'⟩ | ⟨s',rfl,rfl,c1',c2'⟩ | ⟨s',rfl,rfl,c1',c2'⟩ <;> (intro h;cases h)
  refine ⟨?_,trivial,hp⟩
  cases s
  ·rcases key pd' pe' hr' with ⟨s',m',i',t',n',j',rfl,rfl,u',k',rfl,hv'⟩ | ⟨s',rfl,rfl,c1',c2'⟩ | ⟨s',rfl,rfl,c1',c2'⟩
   ·exact absurd rfl h1
   ·exact h1
   ·have:=up c2' h1
    subst this
    cases s'
    ·decide
    ·exact absurd rfl c1'
  ·exact lo hn
 ·have hp:placed r':=by
   rcases key pd' pe' hr' with ⟨s',m',i',t',n',j',rfl,rfl,u',k',rfl,hv'⟩ | ⟨s',rfl,rfl,c1',c2'⟩ | ⟨s',rfl,rfl,c1',c2'⟩
   ·have q3:-6000 ≤ i':=pd'
    have q4:-6000 ≤ j':=pe'
    show -6000 ≤ min i' j'
    omega
   ·trivial
   ·trivial
  have hn:¬ r'.isNaN = true:=by
   rcases key pd' pe' hr' with ⟨s',m',i',t',n',j',rfl,rfl,u',k',rfl,hv'⟩ | ⟨s',rfl,rfl,c1',c2'⟩ | ⟨s',rfl,rfl,c1',c2'⟩ <;> (intro h;cases h)
  refine ⟨?_,trivial,hp⟩
  cases s
  ·rcases key pd' pe' hr' with ⟨s',m',i',t',n',j',rfl,rfl,u',k',rfl,hv'⟩ | ⟨s',rfl,rfl,c1',c2'⟩ | ⟨s',rfl,rfl,c1',c2'⟩
   ·exact absurd rfl h2
   ·have:=up c2' h2
    subst this
    cases s'
    ·decide
    ·exact absurd rfl c1'
   ·exact h2
  ·exact lo hn

/-- Between two neighbours of a coarse grid all numbers are rounded alike. -/
theorem rnd_open {c p d x:Nat} (h1:c * 2 ^ p < x) (h2:x < (c + 1) * 2 ^ p) (hd:p + 1 ≤ d):rnd x d = c / 2 ^ (d - p) + (decide (2 ^ (d - p - 1) ≤ c % 2 ^ (d - p))).toNat:=by
 obtain ⟨t,rfl⟩:∃ t,d = p + (t + 1):=⟨d - p - 1,by omega⟩
 rw [show p + (t + 1) - p = t + 1 by omega,show t + 1 - 1 = t by omega]
 have hW:=pow_pos2 p
 have hH:=pow_pos2 t
 unfold rnd
 rw [pow_add2 p (t + 1),Nat.pow_succ 2 t]
 generalize (2:Nat) ^ p = W at *
 generalize (2:Nat) ^ t = H at *
 rw [Nat.add_mul,Nat.one_mul] at h2
 have hx:x / W = c:=Nat.div_eq_of_lt_le (Nat.le_of_lt h1) (by rw [Nat.add_mul,Nat.one_mul];exact h2)
 have hxm:x % W = x - c * W:=by have:=Nat.div_add_mod x W;rw [hx,Nat.mul_comm] at this;omega
 rw [← Nat.div_div_eq_div_mul,hx,Nat.mod_mul,hx,hxm]
 generalize hg:c % (H * 2) = g
 have hr1:0 < x - c * W:=by omega
 have hr2:x - c * W < W:=by omega
 generalize x - c * W = r at *
 have k1:(W * (H * 2) < 2 * (r + W * g)) = (H ≤ g):=by
  have e:W * (H * 2) = 2 * (W * H):=by rw [← Nat.mul_assoc,Nat.mul_comm]
  rw [e]
  apply propext
  constructor
  ·intro h
   rcases Nat.lt_or_ge g H with h3 | h3
   ·have:=Nat.mul_le_mul_left W (show g + 1 ≤ H from h3)
    rw [Nat.mul_add] at this
    omega
   ·exact h3
  ·intro h
   have:=Nat.mul_le_mul_left W h
   omega
 have k2:(W * (H * 2) == 2 * (r + W * g)) = false:=by
  have e:W * (H * 2) = 2 * (W * H):=by rw [← Nat.mul_assoc,Nat.mul_comm]
  rw [e,beq_eq_false_iff_ne]
  intro h
  rcases Nat.lt_or_ge g H with h3 | h3
  ·have:=Nat.mul_le_mul_left W (show g + 1 ≤ H from h3)
   rw [Nat.mul_add] at this
   omega
  ·have:=Nat.mul_le_mul_left W h3
   omega
 rw [k2,Bool.false_and,Bool.or_false]
 simp only [k1]

theorem log_open {c p x:Nat} (hc:c ≠ 0) (h1:c * 2 ^ p < x) (h2:x < (c + 1) * 2 ^ p):x.log2 = c.log2 + p:=by
 have hx:x ≠ 0:=by omega
 rw [Nat.log2_eq_iff hx]
 have l1:=Nat.log2_self_le hc
 have l2:c < 2 ^ (c.log2 + 1):=Nat.lt_log2_self
 refine ⟨?_,?_⟩
 ·rw [pow_add2]
  exact Nat.le_trans (Nat.mul_le_mul_right _ l1) (Nat.le_of_lt h1)
 ·rw [show c.log2 + p + 1 = (c.log2 + 1) + p by omega,pow_add2]
  exact Nat.lt_of_lt_of_le h2 (Nat.mul_le_mul_right _ l2)

theorem rg_open {c p:Nat} (hc:c ≠ 0) (hf:f.fractionBits + 1 ≤ c.log2) (h0:-6000 ≤ f.leastPlace) {m n:Nat} {e e':Int} (he:-6000 ≤ e) (he':-6000 ≤ e')
  (a1:c * 2 ^ p < val m e) (a2:val m e < (c + 1) * 2 ^ p) (b1:c * 2 ^ p < val n e') (b2:val n e' < (c + 1) * 2 ^ p):rg f m e = rg f n e':=by
 have hm:m ≠ 0:=fun h => by rw [val_zero.2 h] at a1;omega
 have hn:n ≠ 0:=fun h => by rw [val_zero.2 h] at b1;omega
 have l1:=log_open hc a1 a2
 have l2:=log_open hc b1 b2
 rw [log_val hm] at l1
 rw [log_val hn] at l2
 have hL:last f m e = last f n e':=by unfold last;omega
 have hp:(p:Int) + 1 ≤ 6000 + last f n e':=by unfold last;omega
 unfold rg
 rw [if_neg hm,if_neg hn,hL,R_val m he,R_val n he']
 congr 1
 unfold R
 rw [show (-6000 - last f n e').toNat = 0 by omega,Nat.pow_zero,Nat.mul_one,Nat.mul_one]
 rw [rnd_open a1 a2 (by omega),rnd_open b1 b2 (by omega)]

/-- What a quotient is told by,with more digits. -/
def qq (m n k:Nat):Nat:=2 * ((m <<< k) / n) + ((m <<< k) % n != 0).toNat

theorem qq_fine (h0:-6000 ≤ f.leastPlace) {m n:Nat} (hm:m ≠ 0) (hn:n ≠ 0) (k t:Nat) (hk:f.fractionBits + 2 + n.log2 ≤ k + m.log2) {P:Int} (hP:-6000 ≤ P - t):rg f (qq m n (k + t)) (P - t) = rg f (qq m n k) P:=by
 have hpos:0 < n:=Nat.pos_of_ne_zero hn
 unfold qq
 rw [Nat.shiftLeft_eq,Nat.shiftLeft_eq,pow_add2,← Nat.mul_assoc]
 -- the whole part has enough digits
 have hlog:f.fractionBits + 1 ≤ ((m * 2 ^ k) / n).log2:=by
  have l1:=Nat.log2_self_le hm
  have l2:n < 2 ^ (n.log2 + 1):=Nat.lt_log2_self
  have:2 ^ (f.fractionBits + 1) ≤ (m * 2 ^ k) / n:=by
   rw [Nat.le_div_iff_mul_le hpos]
   refine Nat.le_trans (Nat.mul_le_mul_left _ (Nat.le_of_lt l2)) ?_
   refine Nat.le_trans ?_ (Nat.mul_le_mul_right _ l1)
   rw [← pow_add2,← pow_add2]
   exact pow_le2 (by omega)
  refine (Nat.le_log2 ?_).2 this
  have:=pow_pos2 (f.fractionBits + 1)
  omega
 generalize m * 2 ^ k = X at *
 have hf0:X / n ≠ 0:=fun h => by rw [h] at hlog;simp at hlog
 have ht:=pow_pos2 t
 have e:=Nat.div_add_mod X n
 have hl:=Nat.mod_lt X hpos
 by_cases hs:X % n = 0
 ·-- nothing is left over
  have hX:X = n * (X / n):=by omega
  have e2:X * 2 ^ t / n = X / n * 2 ^ t:=by
   rw [hX,Nat.mul_assoc,Nat.mul_div_cancel_left _ hpos,Nat.mul_div_cancel_left _ hpos]
  have e3:X * 2 ^ t % n = 0:=by rw [hX,Nat.mul_assoc,Nat.mul_mod_right]
  rw [e2,e3,hs]
  simp only [bne_self_eq_false,Bool.toNat_false,Nat.add_zero]
  refine rg_eq f hP (by omega) ?_
  rw [← Nat.mul_assoc,val_shift _ _ hP,show P - (t:Int) + t = P by omega]
 ·generalize hq:X / n = q at *
  generalize hr:X % n = r at *
  have e2:X * 2 ^ t / n = q * 2 ^ t + r * 2 ^ t / n:=by
   rw [← e,Nat.add_mul,Nat.mul_assoc,Nat.mul_add_div hpos]
  have e3:X * 2 ^ t % n = r * 2 ^ t % n:=by
   rw [← e,Nat.add_mul,Nat.mul_assoc,Nat.mul_add_mod]
  rw [e2,e3]
  generalize hT:(2:Nat) ^ t = T at *
  have hd:=Nat.div_add_mod (r * T) n
  have hz:r * T / n < T:=(Nat.div_lt_iff_lt_mul hpos).2 (by rw [Nat.mul_comm T n];exact Nat.mul_lt_mul_of_pos_right hl ht)
  have hb:=Bool.toNat_le (r * T % n != 0)
  have hnz:0 < 2 * (r * T / n) + (r * T % n != 0).toNat:=by
   rcases Nat.eq_zero_or_pos (r * T / n) with h | h
   ·have h5:r * T % n ≠ 0:=by
     intro h6
     rw [h,h6] at hd
     have:=Nat.mul_pos (Nat.pos_of_ne_zero hs) ht
     omega
    have:(r * T % n != 0) = true:=by simpa using h5
    rw [this];simp
   ·omega
  have hr1:(r != 0) = true:=by simpa using hs
  rw [hr1]
  generalize r * T / n = y at *
  generalize (r * T % n != 0).toNat = z at *
  have hv:∀ k:Nat,val k (P - t) = k * 2 ^ (P - t + 6000).toNat:=fun _ => rfl
  have hv2:∀ k:Nat,val k P = k * T * 2 ^ (P - t + 6000).toNat:=fun k => by
   rw [← hT,show k * 2 ^ t * 2 ^ (P - t + 6000).toNat = val (k * 2 ^ t) (P - t) from rfl,val_shift _ _ hP,show P - (t:Int) + t = P by omega]
  refine rg_open f hf0 hlog h0 (p:=1 + t + (P - t + 6000).toNat) hP (by omega) ?_ ?_ ?_ ?_
  all_goals
   rw [pow_add2 (1 + t),pow_add2 1 t,hT,← Nat.mul_assoc,← Nat.mul_assoc]
   first | rw [hv] | rw [hv2]
   refine Nat.mul_lt_mul_of_pos_right ?_ (pow_pos2 _)
  ·rw [Nat.pow_one,Nat.mul_right_comm];omega
  ·rw [Nat.pow_one,Nat.mul_right_comm,Nat.add_mul];omega
  ·rw [Nat.pow_one];refine Nat.mul_lt_mul_of_pos_right ?_ ht;simp only [Bool.toNat_true];omega
  ·rw [Nat.pow_one];refine Nat.mul_lt_mul_of_pos_right ?_ ht;simp only [Bool.toNat_true];omega
end Go.Ft
