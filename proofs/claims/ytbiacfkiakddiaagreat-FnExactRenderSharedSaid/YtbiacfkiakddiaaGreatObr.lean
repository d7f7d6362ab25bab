/-
 Lemmas: Z3,Z4.
-/
import Derived.Test.YtbiacfkiakddiaaGreatObq
set_option linter.unusedVariables false
set_option linter.unusedSimpArgs false
namespace Go.Proofs.YtbiacfkiakddiaaGreat
open Go.RowKit Go.Fl
theorem any_or {α:Type} (p q:α → Bool):∀ l:List α,l.any (fun x => p x || q x) = (l.any p || l.any q)
 | [] => rfl
 | x :: l => by
  simp only [List.any_cons,any_or p q l]
  cases p x <;> cases q x <;> cases l.any p <;> cases l.any q <;> rfl

theorem num_same {n:PN} (h:inI n.kind 0 16 = true):numOk n.kind n.nums = numS n:=by
 have hk:kindOk n.kind = true:=h
 unfold numOk numS
 rw [hk,show (badS (ruleF n.kind).2.2.2) = fun x => (!finP x) || signBad (ruleF n.kind).2.2.2 x from rfl,any_or]
 cases decide (n.nums.length = (ruleF n.kind).1) <;> cases n.nums.any (fun x => !finP x) <;> cases n.nums.any (signBad (ruleF n.kind).2.2.2) <;> rfl

theorem axis_in {k:Int} (h:0 ≤ k ∧ k ≤ 16):inI k 12 14 = (ruleF k).2.2.1:=by
 have:k = 0 ∨ k = 1 ∨ k = 2 ∨ k = 3 ∨ k = 4 ∨ k = 5 ∨ k = 6 ∨ k = 7 ∨ k = 8 ∨ k = 9 ∨ k = 10 ∨ k = 11 ∨ k = 12 ∨ k = 13 ∨ k = 14 ∨ k = 15 ∨ k = 16:=by omega
 rcases this with h | h | h | h | h | h | h | h | h | h | h | h | h | h | h | h | h <;> subst h <;> decide
theorem axis_kids {k:Int} (h:0 ≤ k ∧ k ≤ 16) (ha:(ruleF k).2.2.1 = true):(ruleF k).2.1 = 1:=by
 have:k = 0 ∨ k = 1 ∨ k = 2 ∨ k = 3 ∨ k = 4 ∨ k = 5 ∨ k = 6 ∨ k = 7 ∨ k = 8 ∨ k = 9 ∨ k = 10 ∨ k = 11 ∨ k = 12 ∨ k = 13 ∨ k = 14 ∨ k = 15 ∨ k = 16:=by omega
 rcases this with h | h | h | h | h | h | h | h | h | h | h | h | h | h | h | h | h <;> subst h <;> first | rfl | exact absurd ha (by decide)

theorem add_bump (i:Nat) (c:Int) (cs:List Int) (ps:List Nat):addKids i (c :: cs) ps = if inI c 0 ((i:Int) - 1) then addKids i cs (bump ps c) else none:=by
 rw [addKids]
 by_cases h:0 ≤ c ∧ c < (i:Int)
 ·have:inI c 0 ((i:Int) - 1) = true:=by simp only [inI,Bool.and_eq_true,decide_eq_true_eq];omega
  rw [if_pos h,this];rfl
 ·have:inI c 0 ((i:Int) - 1) = false:=by simp only [inI,Bool.and_eq_false_iff,decide_eq_false_iff_not];omega
  rw [if_neg h,this];rfl

theorem step_same (n:PN) (i:Nat) (ps:List Nat):(if nodeOk n then addKids i (kidsOf n) ps else none) = if nodeS n i then some (useB (useA ps n) n) else none:=by
 cases hk:inI n.kind 0 16
 ·have h1:nodeOk n = false:=by
   have:kindOk n.kind = false:=hk
   simp [nodeOk,numOk,this]
  have h2:nodeS n i = false:=by simp [nodeS,hk]
  rw [h1,h2];rfl
 ·have hkk:0 ≤ n.kind ∧ n.kind ≤ 16:=by simpa [inI] using hk
  obtain ⟨k1,k2⟩:=kids_in hkk
  have k3:=axis_in hkk
  have k4:=axis_kids hkk
  have hnum:=num_same hk
  unfold nodeOk nodeS
  rw [hk,hnum]
  cases hn:numS n
  ·simp
  ·have hkc:=kids_cases n.kind
   unfold axOk kidsOf useB useA
   rw [k1,k2,k3]
   rcases hkc with h | h | h
   ·have h3:(ruleF n.kind).2.2.1 = false:=by
     cases h4:(ruleF n.kind).2.2.1
     ·rfl
     ·have:=k4 h4;omega
    rw [h,h3]
    by_cases ha:n.a = 0 <;> by_cases hb:n.b = 0 <;> simp [ha,hb,addKids]
   ·rw [h]
    simp only [List.take_succ_cons,List.take_zero]
    rw [add_bump,addKids]
    cases h3:(ruleF n.kind).2.2.1
    ·cases hia:inI n.a 0 ((i:Int) - 1) <;> by_cases hb:n.b = 0 <;> simp [hb]
    ·cases hia:inI n.a 0 ((i:Int) - 1) <;> by_cases hb:n.b = 0
     all_goals simp [hb,inI]
   ·have h3:(ruleF n.kind).2.2.1 = false:=by
     cases h4:(ruleF n.kind).2.2.1
     ·rfl
     ·have:=k4 h4;omega
    rw [h,h3]
    simp only [List.take_succ_cons,List.take_zero]
    rw [add_bump,add_bump,addKids]
    cases hia:inI n.a 0 ((i:Int) - 1) <;> cases hib:inI n.b 0 ((i:Int) - 1) <;> simp

theorem run_same:∀ (l:List PN) (i:Nat) (ps:List Nat),runNodes l i ps = usesS l i ps
 | [],_,_ => rfl
 | n :: rest,i,ps => by
  rw [runNodes,usesS]
  have h:=step_same n i ps
  cases hn:nodeOk n
  ·rw [hn] at h
   cases hs:nodeS n i
   ·rfl
   ·rw [hs] at h;cases h
  ·rw [hn] at h
   simp only [if_true] at h ⊢
   rw [h]
   cases hs:nodeS n i
   ·rfl
   ·simp only [if_true];exact run_same rest (i + 1) _

/-- How often a node is another one's child. -/
def refs (c:Nat) (n:PN):Nat:=(if inI n.kind 0 4 then 0 else if n.a.toNat = c then 1 else 0) + (if inI n.kind 5 8 then (if n.b.toNat = c then 1 else 0) else 0)

theorem bump_get (us:List Nat) (c:Int) (j:Nat) (hc:c.toNat < us.length):(bump us c).getD j 0 = us.getD j 0 + if c.toNat = j then 1 else 0:=by
 unfold bump
 rw [List.getD_eq_getElem?_getD,List.getD_eq_getElem?_getD,List.getElem?_set]
 by_cases h:c.toNat = j
 ·subst h
  rw [if_pos rfl,if_pos hc,if_pos rfl,List.getD_eq_getElem?_getD];rfl
 ·rw [if_neg h,if_neg h];rfl

theorem uses_get:∀ (l:List PN) (i:Nat) (us r:List Nat),i + l.length ≤ us.length → usesS l i us = some r → r.length = us.length ∧ ∀ c,r.getD c 0 = us.getD c 0 + (l.map (refs c)).sum
 | [],_,us,r,_,h => by
  rw [usesS] at h
  cases h
  exact ⟨rfl,fun c => by simp⟩
 | n :: rest,i,us,r,hl,h => by
  rw [usesS] at h
  cases hn:nodeS n i
  ·rw [hn] at h;cases h
  ·rw [hn,if_pos rfl] at h
   obtain ⟨ka,kb⟩:=nodeS_kids hn
   obtain ⟨h1,h2⟩:=uses_get rest (i + 1) _ r (by rw [useB_len,useA_len];simp at hl;omega) h
   rw [useB_len,useA_len] at h1
   refine ⟨h1,fun c => ?_⟩
   rw [h2 c,List.map_cons,List.sum_cons]
   simp at hl
   have e1:(useA us n).getD c 0 = us.getD c 0 + if inI n.kind 0 4 then 0 else if n.a.toNat = c then 1 else 0:=by
    unfold useA
    cases hk:inI n.kind 0 4
    ·simp only [Bool.false_eq_true,if_false]
     exact bump_get us n.a c (by have:=ka hk;omega)
    ·simp
   have e2:(useB (useA us n) n).getD c 0 = (useA us n).getD c 0 + if inI n.kind 5 8 then (if n.b.toNat = c then 1 else 0) else 0:=by
    unfold useB
    cases hk:inI n.kind 5 8
    ·simp
    ·simp only [if_true]
     exact bump_get _ n.b c (by rw [useA_len];have:=kb hk;omega)
   rw [e2,e1]
   unfold refs
   omega

theorem uses_ok:∀ (l:List PN) (i:Nat) (us r:List Nat),usesS l i us = some r → ∀ j (h:j < l.length),nodeS l[j] ((i + j:Nat):Int) = true
 | [],_,_,_,_,j,h => by simp at h
 | n :: rest,i,us,r,h,j,hj => by
  rw [usesS] at h
  cases hn:nodeS n i
  ·rw [hn] at h;cases h
  ·rw [hn,if_pos rfl] at h
   cases j with
   | zero => exact hn
   | succ j =>
    have:=uses_ok rest (i + 1) _ r h j (by simpa using hj)
    rw [show i + 1 + j = i + (j + 1) by omega] at this
    exact this

theorem sum_zero {α:Type} (f:α → Nat):∀ (l:List α),(∀ j (h:j < l.length),f l[j] = 0) → (l.map f).sum = 0
 | [],_ => rfl
 | x :: l,h => by
  have h0:f x = 0:=h 0 (by simp)
  rw [List.map_cons,List.sum_cons,h0,sum_zero f l (fun j hj => h (j + 1) (by simpa using hj))]
theorem le_sum {α:Type} (f:α → Nat):∀ (l:List α) (j:Nat) (h:j < l.length),f l[j] ≤ (l.map f).sum
 | x :: l,0,_ => by rw [List.map_cons,List.sum_cons];exact Nat.le_add_right _ _
 | x :: l,j + 1,h => by
  rw [List.map_cons,List.sum_cons]
  exact Nat.le_trans (le_sum f l j (by simpa using h)) (Nat.le_add_left _ _)
theorem le_sum2 {α:Type} (f:α → Nat):∀ (l:List α) (j k:Nat) (hj:j < k) (hk:k < l.length),f (l[j]'(by omega)) + f l[k] ≤ (l.map f).sum
 | x :: l,0,k + 1,_,hk => by
  rw [List.map_cons,List.sum_cons]
  exact Nat.add_le_add_left (le_sum f l k (by simpa using hk)) _
 | x :: l,j + 1,k + 1,hj,hk => by
  rw [List.map_cons,List.sum_cons]
  exact Nat.le_trans (le_sum2 f l j k (by omega) (by simpa using hk)) (Nat.le_add_left _ _)

/-- Both ways to tell a right shape agree. -/
theorem valid_same (ns:List PN):validS ns = validF ns:=by
 unfold validS validF
 rw [run_same]
 by_cases hl:1 ≤ ns.length ∧ ns.length ≤ 16
 ·cases hr:usesS ns 0 (List.replicate ns.length 0) with
  | none => rfl
  | some r =>
   obtain ⟨h1,h2⟩:=uses_get ns 0 _ r (by simp) hr
   have hok:=uses_ok ns 0 _ r hr
   have hlast:r.getD (ns.length - 1) 0 = 0:=by
    rw [h2]
    have e1:(List.replicate ns.length 0).getD (ns.length - 1) 0 = 0:=by
     rw [List.getD_eq_getElem?_getD,List.getElem?_replicate]
     split <;> rfl
    rw [e1,sum_zero]
    intro j hj
    have hn:=hok j hj
    rw [Nat.zero_add] at hn
    obtain ⟨ka,kb⟩:=nodeS_kids hn
    unfold refs
    cases hk:inI ns[j].kind 0 4
    ·have:=ka hk
     cases hk2:inI ns[j].kind 5 8
     ·have e:¬ ns[j].a.toNat = ns.length - 1:=by omega
      simp [e]
     ·have:=kb hk2
      have e:¬ ns[j].a.toNat = ns.length - 1:=by omega
      have e2:¬ ns[j].b.toNat = ns.length - 1:=by omega
      simp [e,e2]
    ·cases hk2:inI ns[j].kind 5 8
     ·simp
     ·exfalso
      simp only [inI,Bool.and_eq_true,decide_eq_true_eq] at hk hk2
      omega
   simp only [endS,endOk,hlast]
   rfl
 ·have:(decide (1 ≤ ns.length) && decide (ns.length ≤ 16)) = false:=by
   simp only [Bool.and_eq_false_iff,decide_eq_false_iff_not];omega
  rw [this];rfl

/-- What is known of a right shape. -/
structure Tree (ns:List PN):Prop where
 len:1 ≤ ns.length ∧ ns.length ≤ 16
 ok:OkAll ns
 one:∀ c,c < ns.length - 1 → (ns.map (refs c)).sum = 1

theorem tree_of {ns:List PN} (h:validF ns = true):Tree ns:=by
 obtain ⟨hl,hok⟩:=valid_ok h
 refine ⟨hl,hok,fun c hc => ?_⟩
 rw [← valid_same] at h
 unfold validS at h
 cases hr:usesS ns 0 (List.replicate ns.length 0) with
 | none => rw [hr] at h;simp [endS] at h
 | some r =>
  rw [hr] at h
  simp only [Bool.and_eq_true,endS,Bool.not_eq_true'] at h
  obtain ⟨h1,h2⟩:=uses_get ns 0 _ r (by simp) hr
  have h3:=h2 c
  have e1:(List.replicate ns.length 0).getD c 0 = 0:=by
   rw [List.getD_eq_getElem?_getD,List.getElem?_replicate]
   split <;> rfl
  rw [e1,Nat.zero_add] at h3
  rw [← h3]
  have hcl:c < r.length:=by rw [h1];simp;omega
  have hm:r[c] ∈ r.take (ns.length - 1):=List.mem_take_iff_getElem.2 ⟨c,by omega,rfl⟩
  have:=List.any_eq_false.1 h.2 _ hm
  rw [List.getD_eq_getElem?_getD,List.getElem?_eq_getElem hcl]
  simpa using this
end Go.Proofs.YtbiacfkiakddiaaGreat

namespace Go.Proofs.YtbiacfkiakddiaaGreat
open Go.RowKit Go.Fl
theorem refs_a {n:PN} (h:inI n.kind 0 4 = false):1 ≤ refs n.a.toNat n:=by
 unfold refs;rw [h];simp only [Bool.false_eq_true,if_false,if_true];omega
theorem refs_b {n:PN} (h:inI n.kind 5 8 = true):1 ≤ refs n.b.toNat n:=by
 unfold refs;rw [h];simp only [if_true];omega
theorem refs_ab {n:PN} (h:inI n.kind 0 4 = false) (h2:inI n.kind 5 8 = true) (e:n.a.toNat = n.b.toNat):2 ≤ refs n.a.toNat n:=by
 unfold refs;rw [h,h2,e];simp

theorem uniq {ns:List PN} (ht:Tree ns) {c j k:Nat} (hc:c < ns.length - 1) (hj:j < ns.length) (hk:k < ns.length) (hjk:j ≠ k) (h1:1 ≤ refs c ns[j]) (h2:1 ≤ refs c ns[k]):False:=by
 have h:=ht.one c hc
 rcases Nat.lt_or_ge j k with hlt | hge
 ·have:=le_sum2 (refs c) ns j k hlt hk
  omega
 ·have:=le_sum2 (refs c) ns k j (by omega) hj
  omega
theorem uniq1 {ns:List PN} (ht:Tree ns) {c k:Nat} (hc:c < ns.length - 1) (hk:k < ns.length) (h1:2 ≤ refs c ns[k]):False:=by
 have h:=ht.one c hc
 have:=le_sum (refs c) ns k hk
 omega

/-- The points of the children are those that their parents ask for. -/
def PtsAt (ns:List PN) (C:Nat → V) (j:Nat) (h:j < ns.length):Prop :=
 (inI ns[j].kind 0 4 = false → C ns[j].a.toNat = pointS ns[j] (C j)) ∧ (inI ns[j].kind 5 8 = true → C ns[j].b.toNat = C j)

theorem upd_ne {C:Nat → V} {c i:Nat} {v:V} (h:i ≠ c):upd C c v i = C i:=by unfold upd;rw [if_neg h]
theorem upd_self {C:Nat → V} {c:Nat} {v:V}:upd C c v c = v:=by unfold upd;rw [if_pos rfl]

theorem kids_lt {ns:List PN} (ht:Tree ns) {k:Nat} (hk:k < ns.length):(inI ns[k].kind 0 4 = false → ns[k].a.toNat < k) ∧ (inI ns[k].kind 5 8 = true → ns[k].b.toNat < k):=by
 obtain ⟨hokn,hca,hcb⟩:=ht.ok k hk
 obtain ⟨k1,k2⟩:=kids_in hokn.kind
 refine ⟨fun h => ?_,fun h => ?_⟩
 ·rw [k1] at h
  have:=hca (by simpa using h)
  omega
 ·rw [k2] at h
  have:=hcb (by simpa using h)
  omega

theorem pts_inv {ns:List PN} (ht:Tree ns) (p:V):∀ d,d ≤ ns.length → runP ns p d (ns.length - 1) = p ∧ ∀ j (h:j < ns.length),ns.length - d ≤ j → PtsAt ns (runP ns p d) j h
 | 0,_ => ⟨upd_self,fun j h hj => by omega⟩
 | d + 1,hd => by
  obtain ⟨ih1,ih2⟩:=pts_inv ht p d (by omega)
  have hk:ns.length - 1 - d < ns.length:=by have:=ht.len.1;omega
  rw [runP,List.getElem?_eq_getElem hk]
  generalize hkk:ns.length - 1 - d = k at *
  obtain ⟨la,lb⟩:=kids_lt ht hk
  simp only
  generalize runP ns p d = D at *
  have hfar:∀ (c:Nat) (hc:c < k) (hr:1 ≤ refs c ns[k]) (D':Nat → V),(∀ i,i ≠ c → D' i = D i) → D' (ns.length - 1) = p ∧ ∀ j (h:j < ns.length),k < j → PtsAt ns D' j h:=fun c hc hr D' hD => by
   refine ⟨by rw [hD _ (by omega)];exact ih1,fun j h hj => ?_⟩
   obtain ⟨p1,p2⟩:=ih2 j h (by omega)
   refine ⟨fun h1 => ?_,fun h1 => ?_⟩
   ·have:ns[j].a.toNat ≠ c:=fun e => uniq ht (by omega) h hk (by omega) (by rw [← e];exact refs_a h1) hr
    rw [hD _ this,hD j (by omega)];exact p1 h1
   ·have:ns[j].b.toNat ≠ c:=fun e => uniq ht (by omega) h hk (by omega) (by rw [← e];exact refs_b h1) hr
    rw [hD _ this,hD j (by omega)];exact p2 h1
  have hsplit:∀ (D':Nat → V),(∀ j (h:j < ns.length),k < j → PtsAt ns D' j h) → PtsAt ns D' k hk → ∀ j (h:j < ns.length),ns.length - (d + 1) ≤ j → PtsAt ns D' j h:=fun D' h1 h2 j h hj => by
   by_cases e:j = k
   ·subst e;exact h2
   ·exact h1 j h (by omega)
  unfold stepP
  cases hlf:inI ns[k].kind 0 4
  ·have hla:=la hlf
   simp only [Bool.false_eq_true,if_false]
   obtain ⟨r1,f1⟩:=hfar ns[k].a.toNat hla (refs_a hlf) (upd D ns[k].a.toNat (pointS ns[k] (D k))) (fun i hi => upd_ne hi)
   cases htw:inI ns[k].kind 5 8
   ·simp only [Bool.false_eq_true,if_false]
    refine ⟨r1,hsplit _ f1 ⟨fun _ => ?_,fun h => by rw [htw] at h;cases h⟩⟩
    rw [upd_self,upd_ne (by omega)]
   ·have hlb:=lb htw
    simp only [if_true]
    have hab:ns[k].a.toNat ≠ ns[k].b.toNat:=fun e => uniq1 ht (by omega) hk (refs_ab hlf htw e)
    have hD1:upd D ns[k].a.toNat (pointS ns[k] (D k)) k = D k:=upd_ne (by omega)
    rw [hD1]
    refine ⟨by rw [upd_ne (by omega)];exact r1,hsplit _ (fun j h hj => ?_) ⟨fun _ => ?_,fun _ => ?_⟩⟩
    ·obtain ⟨p1,p2⟩:=f1 j h hj
     refine ⟨fun h1 => ?_,fun h1 => ?_⟩
     ·have:ns[j].a.toNat ≠ ns[k].b.toNat:=fun e => uniq ht (c:=ns[k].b.toNat) (by omega) h hk (by omega) (by rw [← e];exact refs_a h1) (refs_b htw)
      rw [upd_ne this,upd_ne (by omega:j ≠ _)];exact p1 h1
     ·have:ns[j].b.toNat ≠ ns[k].b.toNat:=fun e => uniq ht (c:=ns[k].b.toNat) (by omega) h hk (by omega) (by rw [← e];exact refs_b h1) (refs_b htw)
      rw [upd_ne this,upd_ne (by omega:j ≠ _)];exact p2 h1
    ·rw [upd_ne hab,upd_self,upd_ne (by omega),upd_ne (by omega)]
    ·rw [upd_self,upd_ne (by omega),upd_ne (by omega)]
  ·simp only [if_true]
   refine ⟨ih1,hsplit _ (fun j h hj => ih2 j h (by omega)) ⟨fun h => (by rw [hlf] at h;cases h),fun h => ?_⟩⟩
   exfalso
   simp only [inI,Bool.and_eq_true,decide_eq_true_eq] at hlf h
   omega

theorem all_len (ns:List PN) (C:Nat → V):∀ m,m ≤ ns.length → (allS ns C m).length = m
 | 0,_ => rfl
 | m + 1,h => by
  rw [allS,List.getElem?_eq_getElem (by omega)]
  simp [all_len ns C m (by omega)]

theorem all_get (ns:List PN) (C:Nat → V):∀ m (hm:m ≤ ns.length) i (hi:i < m),(allS ns C m).getD i 0 = valS (ns[i]'(by omega)) (C i) (allS ns C i)
 | m + 1,hm,i,hi => by
  rw [allS,List.getElem?_eq_getElem (by omega)]
  simp only
  have hl:=all_len ns C m (by omega)
  rw [List.getD_eq_getElem?_getD]
  by_cases e:i = m
  ·subst e
   rw [List.getElem?_append_right (by omega),hl]
   simp
  ·rw [List.getElem?_append_left (by omega),← List.getD_eq_getElem?_getD]
   exact all_get ns C m (by omega) i (by omega)

theorem dist_same {ns:List PN} (ht:Tree ns) {C:Nat → V} (hC:∀ j (h:j < ns.length),PtsAt ns C j h) :
  ∀ (f i:Nat) (hi:i < ns.length) (q:V),i < f → Zv q (C i) → Zw .f32 (distF ns f i q) ((allS ns C ns.length).getD i 0):=by
 intro f
 induction f with
 | zero => intro i _ _ h;omega
 | succ f ih =>
  intro i hi q hf hq
  obtain ⟨hokn,hca,hcb⟩:=ht.ok i hi
  obtain ⟨k1,k2⟩:=kids_in hokn.kind
  obtain ⟨la,lb⟩:=kids_lt ht hi
  obtain ⟨p1,p2⟩:=hC i hi
  rw [all_get ns C ns.length (Nat.le_refl _) i hi,distF,List.getElem?_eq_getElem hi]
  simp only
  have hkc:=kids_cases ns[i].kind
  unfold valS
  rcases hkc with h | h | h
  ·rw [k1,h]
   exact z_leaf hokn h hq
  ·have e1:inI ns[i].kind 0 4 = false:=by rw [k1,h];rfl
   have e2:inI ns[i].kind 5 8 = false:=by rw [k2,h];rfl
   rw [e1,e2,h]
   simp only [Bool.false_eq_true,if_false]
   have hla:=la e1
   have:=ih ns[i].a.toNat (by omega) (pointF ns[i] q) (by omega) (by rw [p1 e1];exact z_point hokn h hq)
   rw [all_get ns C ns.length (Nat.le_refl _) _ (by omega)] at this
   rw [all_get ns C i (by omega) _ hla]
   exact z_mix hokn (by rw [h];decide) this (Zw.refl _ _)
  ·have e1:inI ns[i].kind 0 4 = false:=by rw [k1,h];rfl
   have e2:inI ns[i].kind 5 8 = true:=by rw [k2,h];rfl
   rw [e1,e2,h]
   simp only [Bool.false_eq_true,if_false,if_true]
   have hla:=la e1
   have hlb:=lb e2
   have ha:=ih ns[i].a.toNat (by omega) q (by omega) (by rw [p1 e1,pointS_two hokn h];exact hq)
   have hb:=ih ns[i].b.toNat (by omega) q (by omega) (by rw [p2 e2];exact hq)
   rw [all_get ns C ns.length (Nat.le_refl _) _ (by omega)] at ha hb
   rw [all_get ns C i (by omega) _ hla,all_get ns C i (by omega) _ hlb]
   exact z_mix hokn (by rw [h];decide) ha hb

end Go.Proofs.YtbiacfkiakddiaaGreat
