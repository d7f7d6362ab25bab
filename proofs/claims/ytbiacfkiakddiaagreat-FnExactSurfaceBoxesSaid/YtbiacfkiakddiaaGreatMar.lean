/-
 Lemmas: S8,Z3,W18a,Y1,C1,C3.
-/
import Derived.Test.YtbiacfkiakddiaaGreatMap
set_option linter.unusedVariables false
set_option linter.unusedSimpArgs false
namespace Go.Proofs.YtbiacfkiakddiaaGreat
open Go.RowKit Go.Fl
def bump (us:List Nat) (c:Int):List Nat:=us.set c.toNat (us.getD c.toNat 0 + 1)
def useA (us:List Nat) (n:PN):List Nat:=if inI n.kind 0 4 then us else bump us n.a
def useB (us:List Nat) (n:PN):List Nat:=if inI n.kind 5 8 then bump us n.b else us
def usesS:List PN → Nat → List Nat → Option (List Nat)
 | [],_,us => some us
 | n :: rest,i,us => if nodeS n i then usesS rest (i + 1) (useB (useA us n) n) else none
def endS (l:Nat):Option (List Nat) → Bool
 | none => false
 | some us => !(us.take (l - 1)).any (· != 1)
def validS (ns:List PN):Bool:=decide (1 ≤ ns.length) && decide (ns.length ≤ 16) && endS ns.length (usesS ns 0 (List.replicate ns.length 0))

theorem bump_len (us:List Nat) (c:Int):(bump us c).length = us.length:=by unfold bump;simp
theorem useA_len (us:List Nat) (n:PN):(useA us n).length = us.length:=by unfold useA;split;rfl;exact bump_len _ _
theorem useB_len (us:List Nat) (n:PN):(useB us n).length = us.length:=by unfold useB;split;exact bump_len _ _;rfl
theorem bump_le {us:List Nat} {c:Int} {k:Nat} (h:∀ x ∈ us,x ≤ k):∀ x ∈ bump us c,x ≤ k + 1:=by
 intro x hx
 unfold bump at hx
 rcases List.mem_or_eq_of_mem_set hx with h' | h'
 ·have:=h x h';omega
 ·have:us.getD c.toNat 0 ≤ k:=by
   rw [List.getD_eq_getElem?_getD]
   cases hg:us[c.toNat]? with
   | none => simp
   | some y => exact h y (List.mem_of_getElem? hg)
  omega
theorem useA_le {us:List Nat} {n:PN} {k:Nat} (h:∀ x ∈ us,x ≤ k):∀ x ∈ useA us n,x ≤ k + 1:=by
 intro x hx
 unfold useA at hx
 split at hx
 ·have:=h x hx;omega
 ·exact bump_le h x hx
theorem useB_le {us:List Nat} {n:PN} {k:Nat} (h:∀ x ∈ us,x ≤ k):∀ x ∈ useB us n,x ≤ k + 1:=by
 intro x hx
 unfold useB at hx
 split at hx
 ·exact bump_le h x hx
 ·have:=h x hx;omega

theorem nodeS_kids {n:PN} {i:Int} (h:nodeS n i = true):(inI n.kind 0 4 = false → 0 ≤ n.a ∧ n.a < i) ∧ (inI n.kind 5 8 = true → 0 ≤ n.b ∧ n.b < i):=by
 unfold nodeS at h
 simp only [Bool.and_eq_true] at h
 refine ⟨fun h1 => ?_,fun h1 => ?_⟩
 ·rw [h1] at h
  simp only [Bool.false_eq_true,if_false,Bool.and_eq_true] at h
  have:=h.2.1
  simp only [inI,Bool.and_eq_true,decide_eq_true_eq] at this
  omega
 ·have h0:inI n.kind 0 4 = false:=by
   simp only [inI,Bool.and_eq_true,decide_eq_true_eq,Bool.and_eq_false_iff,decide_eq_false_iff_not] at h1 ⊢
   omega
  rw [h0,h1] at h
  simp only [Bool.false_eq_true,if_false,if_true,Bool.and_eq_true] at h
  have:=h.2.2
  simp only [inI,Bool.and_eq_true,decide_eq_true_eq] at this
  omega

set_option maxRecDepth 100000 in
theorem make_int64s (n:Nat) (hn:n ≤ 16) (w:World):(Instr.makeSlice 61 (.int .i64 (n:Int)) (.int .i64 (n:Int))).run Tryz.prog w = .ok (.slice (some ⟨w.heap.size,0,none⟩) n n) (w.alloc (.cells (ints (List.replicate n 0)) 2)):=by
 have:n = 0 ∨ n = 1 ∨ n = 2 ∨ n = 3 ∨ n = 4 ∨ n = 5 ∨ n = 6 ∨ n = 7 ∨ n = 8 ∨ n = 9 ∨ n = 10 ∨ n = 11 ∨ n = 12 ∨ n = 13 ∨ n = 14 ∨ n = 15 ∨ n = 16:=by omega
 rcases this with h | h | h | h | h | h | h | h | h | h | h | h | h | h | h | h | h  <;> subst h <;> (first | rfl | (show _ = _;kernel_rfl))

set_option maxRecDepth 100000 in
set_option maxHeartbeats 4000000 in
theorem s_is_any (ns:List PN) (hnum:∀ n ∈ ns,n.nums.length < 10000000) (sb so nb no cap:Nat) (bp:Option Addr) (w:World) (hS:w.cell? ⟨sb,so,none⟩ = some (.slice bp ns.length cap)) (hbp:ns ≠ [] → bp = some ⟨nb,no,none⟩) (hsh:∀ i (h:i < ns.length),NodeIn ns[i] nb (no + i * 4) w) (hlen:ns.length < 10000000) :
  Calls Tryz.prog 60 #[.pointer (some ⟨sb,so,none⟩)] w (fun e w' => e = .returned (.bool (validS ns)) ∧ Below w.heap.size w w'):=by
 have hsb:sb < w.heap.size:=some_lt (a:=⟨sb,so,none⟩) (by rw [hS];rfl)
 by_cases hr:1 ≤ ns.length ∧ ns.length ≤ 16
 ·have hne:ns ≠ []:=by intro h;rw [h] at hr;simp at hr
  have hb:=hbp hne
  subst hb
  have hr1:(1:Int) ≤ (ns.length:Int):=by omega
  have hr2:(ns.length:Int) ≤ 16:=by omega
  go_enter Tryz.func60,Tryz.ntmps60
  go_wp2_with fail
  rw [make_int64s _ hr.2]
  generalize hZ:ints (List.replicate ns.length 0) = Z
  have W1b:Below w.heap.size w (w.alloc (.cells Z 2)):=(by repeat' (first | exact Below.refl _ _ | exact Nat.le_refl _ | refine below_drewN ?_ _ | refine Below.alloc ?_ (by simp <;> omega) _ | refine Below.setCell ?_ (by simp <;> omega) _ | refine below_step ?_ (by assumption)))

  have hbox:(w.alloc (.cells Z 2)).cell? ⟨sb,so,none⟩ = some (.slice (some ⟨nb,no,none⟩) ns.length cap):=by rw [lift W1b _ (by rw [hS];rfl)];exact hS
  have hpar:=heap_alloc_at w (.cells Z 2)
  generalize w.alloc (.cells Z 2) = W1 at *
  subst hZ
  have hS0:=Lib.hid hS
  go_wp2_with fail
  go_loopw [5] (fun i wr => ∃ (m:Nat) (us:List Nat),m ≤ ns.length ∧ i = .int .i64 (m:Int) ∧ us.length = ns.length ∧ (∀ x ∈ us,x ≤ 2 * m) ∧ usesS (ns.drop m) m us = usesS ns 0 (List.replicate ns.length 0) ∧ wr.heap[w.heap.size]? = some (.cells (ints us) 2 (0,0)) ∧ Below w.heap.size w wr) (fun i _ => ns.length - (intOf i).toNat)
  case atStart => exact ⟨0,_,by omega,rfl,by simp,by simp,rfl,hpar,W1b⟩
  case round =>
   obtain ⟨m,us,hm,rfl,hus,hle,hrun,hpar,Wb⟩:=hrel
   clear W1b hbox hS
   by_cases hlt:m < ns.length
   ·have hlt':(m:Int) < (ns.length:Int):=by omega
    have h0:(0:Int) ≤ (m:Int):=by omega
    have hn0:=hsh m hlt
    have hnb:nb < w.heap.size:=some_lt (a:=⟨nb,no + m * 4,none⟩) (by rw [hn0.kind];rfl)
    have hn:=hn0.keep Wb
    have hSr:wr.cell? ⟨sb,so,none⟩ = some (.slice (some ⟨nb,no,none⟩) ns.length cap):=by rw [lift Wb _ (by rw [hS0.out];rfl)];exact hS0.out
    have hdrop:ns.drop m = ns[m] :: ns.drop (m + 1):=List.drop_eq_getElem_cons hlt
    rw [hdrop,usesS] at hrun
    have hnl:ns[m].nums.length < 10000000:=hnum _ (List.getElem_mem _)
    clear hn0
    generalize ns[m] = n at *
    have hbad:nodeS n m = false → Hid (validS ns = false):=fun h => by
     unfold Hid
     rw [if_neg (by rw [h];decide)] at hrun
     simp only [validS,← hrun]
     simp [endS]
    go_wp2_with fail
    refine (s_node_any hn hnl m (by omega)).mono ?_
    rintro _ w2 ⟨rfl,hb2⟩
    have W2b:=below_step Wb hb2
    have hn2:=hn.keep hb2
    have hpar2:w2.heap[w.heap.size]? = some (.cells (ints us) 2 (0,0)):=by
     have:=hb2.block (w.heap.size) (by have:=(Array.getElem?_eq_some_iff.1 hpar).1;omega)
     rw [this];exact hpar
    cases hns:nodeS n m
    ·have hv:=hbad hns
     clear hbad
     go_wp2_with fail
     go_ret
     exact ⟨by rw [hv.out];rfl,W2b⟩
    ·rw [if_pos hns] at hrun
     obtain ⟨hka,hkb⟩:=nodeS_kids hns
     have hleA:=useA_le (n:=n) hle
     have hleB:=useB_le (n:=n) hleA
     have hfz:∀ o,w2.frozen? ⟨w.heap.size,o,none⟩ = false:=fun o => by simp [World.frozen?,hpar2]
     have hk2:=hn2.kind
     have ha2:=hn2.a
     have hb2':=hn2.b
     clear hbad hns hSr hn hb2 hpar Wb hn2 hdrop
     have hleaf:∀ (w:World),Calls Tryz.prog 119 #[.int .i64 n.kind] w (fun e w' => e = .returned (.bool (inI n.kind 0 4)) ∧ w = w'):=fun w => s_leaf_any _ w
     have htwo:∀ (w:World),Calls Tryz.prog 120 #[.int .i64 n.kind] w (fun e w' => e = .returned (.bool (inI n.kind 5 8)) ∧ w = w'):=fun w => s_two_any _ w
     cases hlf:inI n.kind 0 4
     ·obtain ⟨ca,hca⟩:=Int.eq_ofNat_of_zero_le (hka hlf).1
      have hcl:ca < us.length:=by have:=(hka hlf).2;omega
      have hua:useA us n = us.set ca (us[ca] + 1):=by
       unfold useA bump
       rw [hlf,hca]
       simp [List.getElem?_eq_getElem hcl]
      have hv1:us[ca] ≤ 2 * m:=hle _ (List.getElem_mem hcl)
      have hpa:=par_cell hpar2 ca hcl
      have hset:=set_ints hpar2 ca (us[ca] + 1)
      rw [← hua] at hset
      have hclI:(ca:Int) < (ns.length:Int):=by omega
      rw [hca] at ha2
      have hkB:=hkb
      clear hkb hka
      have huaH:=Lib.hid hua
      clear hua
      generalize us[ca] = va at *
      have hva:(va:Int) < 1000:=by omega
      have hfar:∀ o v,(w2.setCell ⟨w.heap.size,ca,none⟩ v).cell? ⟨nb,o,none⟩ = w2.cell? ⟨nb,o,none⟩:=fun o v => World.cell?_setCell_far _ _ _ _ (by show w.heap.size ≠ nb;omega)
      have hset':(w2.setCell ⟨w.heap.size,ca,none⟩ (.int .i64 ((va:Int) + 1))).heap[w.heap.size]? = some (.cells (ints (useA us n)) 2 (0,0)):=hset
      have hfz2:∀ o,(w2.setCell ⟨w.heap.size,ca,none⟩ (.int .i64 ((va:Int) + 1))).frozen? ⟨w.heap.size,o,none⟩ = false:=fun o => by simp [World.frozen?,hset']
      have hb3:=W2b.setCell (p:=⟨w.heap.size,ca,none⟩) (Nat.le_refl _) (Value.int .i64 ((va:Int) + 1))
      cases htw:inI n.kind 5 8
      ·have hub:useB (useA us n) n = useA us n:=by unfold useB;rw [htw];rfl
       rw [hub] at hrun hleB
       have hrunH:=Lib.hid hrun
       have hsetH:=Lib.hid hset'
       have hleH:=Lib.hid hleA
       clear hrun hset hset' hleA hleB hub hle hkB hpar2
       go_wp2_with (first
        | (go_at_call 119;refine (hleaf _).mono ?_;rintro _ w4 ⟨rfl,rfl⟩;rw [hlf])
        | (go_at_call 120;refine (htwo _).mono ?_;rintro _ w4 ⟨rfl,rfl⟩;rw [htw]))
       exact ⟨⟨m + 1,useA us n,by omega,by simp,by rw [useA_len];exact hus,fun x hx => by have:=hleH.out x hx;omega,hrunH.out,hsetH.out,hb3⟩,by simp [intOf];omega⟩
      ·obtain ⟨cb,hcb⟩:=Int.eq_ofNat_of_zero_le (hkB htw).1
       have hcl2:cb < (useA us n).length:=by rw [useA_len];have:=(hkB htw).2;omega
       have hub:useB (useA us n) n = (useA us n).set cb ((useA us n)[cb] + 1):=by
        unfold useB bump
        rw [htw,hcb]
        simp [List.getElem?_eq_getElem hcl2]
       have hv2:(useA us n)[cb] ≤ 2 * m + 1:=hleA _ (List.getElem_mem hcl2)
       have hpb:=par_cell hset' cb hcl2
       have hset2:=set_ints hset' cb ((useA us n)[cb] + 1)
       rw [← hub] at hset2
       have hclI2:(cb:Int) < (ns.length:Int):=by rw [useA_len] at hcl2;omega
       rw [hcb] at hb2'
       generalize (useA us n)[cb] = vb at *
       have hvb:(vb:Int) < 1000:=by omega
       have hset2':((w2.setCell ⟨w.heap.size,ca,none⟩ (.int .i64 ((va:Int) + 1))).setCell ⟨w.heap.size,cb,none⟩ (.int .i64 ((vb:Int) + 1))).heap[w.heap.size]? = some (.cells (ints (useB (useA us n) n)) 2 (0,0)):=hset2
       have hb4:=hb3.setCell (p:=⟨w.heap.size,cb,none⟩) (Nat.le_refl _) (Value.int .i64 ((vb:Int) + 1))
       have hrunH:=Lib.hid hrun
       have hsetH:=Lib.hid hset2'
       have hleH:=Lib.hid hleB
       have hlenH:Hid ((useB (useA us n) n).length = ns.length):=by unfold Hid;rw [useB_len,useA_len];exact hus
       clear hrun hset hset' hset2 hset2' hleA hleB hub hle hkB hpar2 hcl2 hcl hca hcb huaH
       go_wp2_with (first
        | (go_at_call 119;refine (hleaf _).mono ?_;rintro _ w4 ⟨rfl,rfl⟩;rw [hlf])
        | (go_at_call 120;refine (htwo _).mono ?_;rintro _ w4 ⟨rfl,rfl⟩;rw [htw]))
       exact ⟨⟨m + 1,useB (useA us n) n,by omega,by simp,hlenH.out,fun x hx => by have:=hleH.out x hx;omega,hrunH.out,hsetH.out,hb4⟩,by simp [intOf];omega⟩
     ·have htw:inI n.kind 5 8 = false:=by
       simp only [inI,Bool.and_eq_true,decide_eq_true_eq,Bool.and_eq_false_iff,decide_eq_false_iff_not] at hlf ⊢
       omega
      have hua:useA us n = us:=by unfold useA;rw [hlf];rfl
      have hub:useB us n = us:=by unfold useB;rw [htw];rfl
      rw [hua,hub] at hrun
      have hrunH:=Lib.hid hrun
      have hsetH:=Lib.hid hpar2
      have hleH:=Lib.hid hle
      clear hrun hpar2 hleA hleB hub hua hle hka hkb hfz
      go_wp2_with (first
       | (go_at_call 119;refine (hleaf _).mono ?_;rintro _ w4 ⟨rfl,rfl⟩;rw [hlf])
       | (go_at_call 120;refine (htwo _).mono ?_;rintro _ w4 ⟨rfl,rfl⟩;rw [htw]))
      exact ⟨⟨m + 1,us,by omega,by simp,hus,fun x hx => by have:=hleH.out x hx;omega,hrunH.out,hsetH.out,W2b⟩,by simp [intOf];omega⟩
   ·obtain rfl:m = ns.length:=by omega
    have hval:Hid (validS ns = !(us.take (ns.length - 1)).any (· != 1)):=by
     unfold Hid
     rw [List.drop_length] at hrun
     simp only [validS,← hrun,usesS,endS]
     simp [hr.1,hr.2]
    clear hrun hsh hnum hle
    go_wp2_with fail
    go_loopw [7] (fun i wr' => ∃ (k:Nat),k ≤ ns.length - 1 ∧ i = .int .i64 (k:Int) ∧ (us.take k).any (· != 1) = false ∧ wr' = wr) (fun i _ => ns.length - (intOf i).toNat)
    case atStart => exact ⟨0,by omega,rfl,rfl,rfl⟩
    case round =>
     obtain ⟨k,hk,rfl,hany,rfl⟩:=hrel
     by_cases hlt2:k < ns.length - 1
     ·have hlt2':(k:Int) < (ns.length:Int) - 1:=by omega
      have hk0:(0:Int) ≤ (k:Int):=by omega
      have hkl:(k:Int) < (ns.length:Int):=by omega
      have hku:k < us.length:=by omega
      have hpk:=par_cell hpar k hku
      have hyes:Hid (us[k] ≠ 1 → (us.take (ns.length - 1)).any (· != 1) = true):=fun h => List.any_eq_true.2 ⟨us[k],List.mem_take_iff_getElem.2 ⟨k,by omega,rfl⟩,by simpa using h⟩
      have hno:Hid (us[k] = 1 → (us.take (k + 1)).any (· != 1) = false):=fun h => any_take_succ _ us k hku hany (by rw [h];rfl)
      clear hpar hany
      generalize us[k] = v at *
      by_cases hv1:v = 1
      ·subst hv1
       go_wp2_with fail
       exact ⟨⟨k + 1,by omega,by simp,hno.out rfl,by first | rfl | trivial⟩,by simp [intOf];omega⟩
      ·have hv2:((v:Int) != 1) = true:=by simp;omega
       have hv3:(v:Int) ≠ 1:=by omega
       go_wp2_with fail
       go_ret
       exact ⟨by rw [hval.out,hyes.out hv1];rfl,Wb⟩
     ·obtain rfl:k = ns.length - 1:=by omega
      have hcast:((ns.length - 1:Nat):Int) = (ns.length:Int) - 1:=by omega
      have hH:=Lib.hid hany
      clear hany hpar
      rw [hcast]
      go_wp2_with fail
      go_ret
      exact ⟨by rw [hval.out,hH.out];rfl,Wb⟩
 ·have hv:validS ns = false:=by
   simp only [validS,Bool.and_eq_false_iff,decide_eq_false_iff_not]
   omega
  rw [hv]
  clear hbp hsh hnum hv
  by_cases h1:ns.length < 1
  ·have h1':(ns.length:Int) < 1:=by omega
   go_enter Tryz.func60,Tryz.ntmps60
   go_wp2_with fail
   go_ret
   exact ⟨rfl,(by repeat' (first | exact Below.refl _ _ | exact Nat.le_refl _ | refine below_drewN ?_ _ | refine Below.alloc ?_ (by simp <;> omega) _ | refine Below.setCell ?_ (by simp <;> omega) _ | refine below_step ?_ (by assumption)))⟩
  ·have h1':(1:Int) ≤ (ns.length:Int):=by omega
   have h2':(16:Int) < (ns.length:Int):=by omega
   go_enter Tryz.func60,Tryz.ntmps60
   go_wp2_with fail
   go_ret
   exact ⟨rfl,(by repeat' (first | exact Below.refl _ _ | exact Nat.le_refl _ | refine below_drewN ?_ _ | refine Below.alloc ?_ (by simp <;> omega) _ | refine Below.setCell ?_ (by simp <;> omega) _ | refine below_step ?_ (by assumption)))⟩
end Go.Proofs.YtbiacfkiakddiaaGreat

namespace Go.Proofs.YtbiacfkiakddiaaGreat
open Go.RowKit Go.Fl
theorem any_or {α:Type} (p q:α → Bool):∀ l:List α,l.any (fun x => p x || q x) = (l.any p || l.any q)
 | [] => rfl
 | x :: l => by
  simp only [List.any_cons,any_or p q l]
  cases p x <;> cases q x <;> cases l.any p <;> cases l.any q <;> rfl

theorem num_same {n:PN} (h:inI n.kind 0 16 = true):numOk n.kind n.nums = numS n:=by
 have hk:kindOk n.kind = true:=h
 unfold numOk numS
 rw [hk,show (badS (ruleF n.kind).2.2.2) = fun x => (!finP x) || signBad (ruleF n.kind).2.2.2 x from rfl,any_or]
 cases decide (n.nums.length = (ruleF n.kind).1) <;> cases n.nums.any (fun x => !finP x) <;> cases n.nums.any (signBad (ruleF n.kind).2.2.2) <;> rfl

theorem axis_in {k:Int} (h:0 ≤ k ∧ k ≤ 16):inI k 12 14 = (ruleF k).2.2.1:=by
 have:k = 0 ∨ k = 1 ∨ k = 2 ∨ k = 3 ∨ k = 4 ∨ k = 5 ∨ k = 6 ∨ k = 7 ∨ k = 8 ∨ k = 9 ∨ k = 10 ∨ k = 11 ∨ k = 12 ∨ k = 13 ∨ k = 14 ∨ k = 15 ∨ k = 16:=by omega
 rcases this with h | h | h | h | h | h | h | h | h | h | h | h | h | h | h | h | h <;> subst h <;> decide
theorem axis_kids {k:Int} (h:0 ≤ k ∧ k ≤ 16) (ha:(ruleF k).2.2.1 = true):(ruleF k).2.1 = 1:=by
 have:k = 0 ∨ k = 1 ∨ k = 2 ∨ k = 3 ∨ k = 4 ∨ k = 5 ∨ k = 6 ∨ k = 7 ∨ k = 8 ∨ k = 9 ∨ k = 10 ∨ k = 11 ∨ k = 12 ∨ k = 13 ∨ k = 14 ∨ k = 15 ∨ k = 16:=by omega
 rcases this with h | h | h | h | h | h | h | h | h | h | h | h | h | h | h | h | h <;> subst h <;> first | rfl | exact absurd ha (by decide)

theorem add_bump (i:Nat) (c:Int) (cs:List Int) (ps:List Nat):addKids i (c :: cs) ps = if inI c 0 ((i:Int) - 1) then addKids i cs (bump ps c) else none:=by
 rw [addKids]
 by_cases h:0 ≤ c ∧ c < (i:Int)
 ·have:inI c 0 ((i:Int) - 1) = true:=by simp only [inI,Bool.and_eq_true,decide_eq_true_eq];omega
  rw [if_pos h,this];rfl
 ·have:inI c 0 ((i:Int) - 1) = false:=by simp only [inI,Bool.and_eq_false_iff,decide_eq_false_iff_not];omega
  rw [if_neg h,this];rfl

theorem step_same (n:PN) (i:Nat) (ps:List Nat):(if nodeOk n then addKids i (kidsOf n) ps else none) = if nodeS n i then some (useB (useA ps n) n) else none:=by
 cases hk:inI n.kind 0 16
 ·have h1:nodeOk n = false:=by
   have:kindOk n.kind = false:=hk
   simp [nodeOk,numOk,this]
  have h2:nodeS n i = false:=by simp [nodeS,hk]
  rw [h1,h2];rfl
 ·have hkk:0 ≤ n.kind ∧ n.kind ≤ 16:=by simpa [inI] using hk
  obtain ⟨k1,k2⟩:=kids_in hkk
  have k3:=axis_in hkk
  have k4:=axis_kids hkk
  have hnum:=num_same hk
  unfold nodeOk nodeS
  rw [hk,hnum]
  cases hn:numS n
  ·simp
  ·have hkc:=kids_cases n.kind
   unfold axOk kidsOf useB useA
   rw [k1,k2,k3]
   rcases hkc with h | h | h
   ·have h3:(ruleF n.kind).2.2.1 = false:=by
     cases h4:(ruleF n.kind).2.2.1
     ·rfl
     ·have:=k4 h4;omega
    rw [h,h3]
    by_cases ha:n.a = 0 <;> by_cases hb:n.b = 0 <;> simp [ha,hb,addKids]
   ·rw [h]
    simp only [List.take_succ_cons,List.take_zero]
    rw [add_bump,addKids]
    cases h3:(ruleF n.kind).2.2.1
    ·cases hia:inI n.a 0 ((i:Int) - 1) <;> by_cases hb:n.b = 0 <;> simp [hb]
    ·cases hia:inI n.a 0 ((i:Int) - 1) <;> by_cases hb:n.b = 0
     all_goals simp [hb,inI]
   ·have h3:(ruleF n.kind).2.2.1 = false:=by
     cases h4:(ruleF n.kind).2.2.1
     ·rfl
     ·have:=k4 h4;omega
    rw [h,h3]
    simp only [List.take_succ_cons,List.take_zero]
    rw [add_bump,add_bump,addKids]
    cases hia:inI n.a 0 ((i:Int) - 1) <;> cases hib:inI n.b 0 ((i:Int) - 1) <;> simp

theorem run_same:∀ (l:List PN) (i:Nat) (ps:List Nat),runNodes l i ps = usesS l i ps
 | [],_,_ => rfl
 | n :: rest,i,ps => by
  rw [runNodes,usesS]
  have h:=step_same n i ps
  cases hn:nodeOk n
  ·rw [hn] at h
   cases hs:nodeS n i
   ·rfl
   ·rw [hs] at h;cases h
  ·rw [hn] at h
   simp only [if_true] at h ⊢
   rw [h]
   cases hs:nodeS n i
   ·rfl
   ·simp only [if_true];exact run_same rest (i + 1) _

/-- How often a node is another one's child. -/
def refs (c:Nat) (n:PN):Nat:=(if inI n.kind 0 4 then 0 else if n.a.toNat = c then 1 else 0) + (if inI n.kind 5 8 then (if n.b.toNat = c then 1 else 0) else 0)

theorem bump_get (us:List Nat) (c:Int) (j:Nat) (hc:c.toNat < us.length):(bump us c).getD j 0 = us.getD j 0 + if c.toNat = j then 1 else 0:=by
 unfold bump
 rw [List.getD_eq_getElem?_getD,List.getD_eq_getElem?_getD,List.getElem?_set]
 by_cases h:c.toNat = j
 ·subst h
  rw [if_pos rfl,if_pos hc,if_pos rfl,List.getD_eq_getElem?_getD];rfl
 ·rw [if_neg h,if_neg h];rfl

theorem uses_get:∀ (l:List PN) (i:Nat) (us r:List Nat),i + l.length ≤ us.length → usesS l i us = some r → r.length = us.length ∧ ∀ c,r.getD c 0 = us.getD c 0 + (l.map (refs c)).sum
 | [],_,us,r,_,h => by
  rw [usesS] at h
  cases h
  exact ⟨rfl,fun c => by simp⟩
 | n :: rest,i,us,r,hl,h => by
  rw [usesS] at h
  cases hn:nodeS n i
  ·rw [hn] at h;cases h
  ·rw [hn,if_pos rfl] at h
   obtain ⟨ka,kb⟩:=nodeS_kids hn
   obtain ⟨h1,h2⟩:=uses_get rest (i + 1) _ r (by rw [useB_len,useA_len];simp at hl;omega) h
   rw [useB_len,useA_len] at h1
   refine ⟨h1,fun c => ?_⟩
   rw [h2 c,List.map_cons,List.sum_cons]
   simp at hl
   have e1:(useA us n).getD c 0 = us.getD c 0 + if inI n.kind 0 4 then 0 else if n.a.toNat = c then 1 else 0:=by
    unfold useA
    cases hk:inI n.kind 0 4
    ·simp only [Bool.false_eq_true,if_false]
     exact bump_get us n.a c (by have:=ka hk;omega)
    ·simp
   have e2:(useB (useA us n) n).getD c 0 = (useA us n).getD c 0 + if inI n.kind 5 8 then (if n.b.toNat = c then 1 else 0) else 0:=by
    unfold useB
    cases hk:inI n.kind 5 8
    ·simp
    ·simp only [if_true]
     exact bump_get _ n.b c (by rw [useA_len];have:=kb hk;omega)
   rw [e2,e1]
   unfold refs
   omega

theorem uses_ok:∀ (l:List PN) (i:Nat) (us r:List Nat),usesS l i us = some r → ∀ j (h:j < l.length),nodeS l[j] ((i + j:Nat):Int) = true
 | [],_,_,_,_,j,h => by simp at h
 | n :: rest,i,us,r,h,j,hj => by
  rw [usesS] at h
  cases hn:nodeS n i
  ·rw [hn] at h;cases h
  ·rw [hn,if_pos rfl] at h
   cases j with
   | zero => exact hn
   | succ j =>
    have:=uses_ok rest (i + 1) _ r h j (by simpa using hj)
    rw [show i + 1 + j = i + (j + 1) by omega] at this
    exact this

theorem sum_zero {α:Type} (f:α → Nat):∀ (l:List α),(∀ j (h:j < l.length),f l[j] = 0) → (l.map f).sum = 0
 | [],_ => rfl
 | x :: l,h => by
  have h0:f x = 0:=h 0 (by simp)
  rw [List.map_cons,List.sum_cons,h0,sum_zero f l (fun j hj => h (j + 1) (by simpa using hj))]
/-- Both ways to tell a right shape agree. -/
theorem valid_same (ns:List PN):validS ns = validF ns:=by
 unfold validS validF
 rw [run_same]
 by_cases hl:1 ≤ ns.length ∧ ns.length ≤ 16
 ·cases hr:usesS ns 0 (List.replicate ns.length 0) with
  | none => rfl
  | some r =>
   obtain ⟨h1,h2⟩:=uses_get ns 0 _ r (by simp) hr
   have hok:=uses_ok ns 0 _ r hr
   have hlast:r.getD (ns.length - 1) 0 = 0:=by
    rw [h2]
    have e1:(List.replicate ns.length 0).getD (ns.length - 1) 0 = 0:=by
     rw [List.getD_eq_getElem?_getD,List.getElem?_replicate]
     split <;> rfl
    rw [e1,sum_zero]
    intro j hj
    have hn:=hok j hj
    rw [Nat.zero_add] at hn
    obtain ⟨ka,kb⟩:=nodeS_kids hn
    unfold refs
    cases hk:inI ns[j].kind 0 4
    ·have:=ka hk
     cases hk2:inI ns[j].kind 5 8
     ·have e:¬ ns[j].a.toNat = ns.length - 1:=by omega
      simp [e]
     ·have:=kb hk2
      have e:¬ ns[j].a.toNat = ns.length - 1:=by omega
      have e2:¬ ns[j].b.toNat = ns.length - 1:=by omega
      simp [e,e2]
    ·cases hk2:inI ns[j].kind 5 8
     ·simp
     ·exfalso
      simp only [inI,Bool.and_eq_true,decide_eq_true_eq] at hk hk2
      omega
   simp only [endS,endOk,hlast]
   rfl
 ·have:(decide (1 ≤ ns.length) && decide (ns.length ≤ 16)) = false:=by
   simp only [Bool.and_eq_false_iff,decide_eq_false_iff_not];omega
  rw [this];rfl

end Go.Proofs.YtbiacfkiakddiaaGreat

namespace Go.Proofs.YtbiacfkiakddiaaGreat
open Go.RowKit Go.Fl
theorem addKids_some (i:Nat):∀ (cs:List Int) (ps r:List Nat),addKids i cs ps = some r → ∀ c ∈ cs,0 ≤ c ∧ c < (i:Int)
 | [],_,_,_,c,hc => by cases hc
 | c :: cs,ps,r,h,x,hx => by
  rw [addKids] at h
  by_cases hc:0 ≤ c ∧ c < (i:Int)
  ·rw [if_pos hc] at h
   rcases List.mem_cons.1 hx with e | e
   ·rw [e];exact hc
   ·exact addKids_some i cs _ r h x e
  ·rw [if_neg hc] at h;cases h

theorem runNodes_some:∀ (l:List PN) (i:Nat) (ps r:List Nat),runNodes l i ps = some r → ∀ j (h:j < l.length),nodeOk l[j] = true ∧ ∀ c ∈ kidsOf l[j],0 ≤ c ∧ c < ((i + j:Nat):Int)
 | [],_,_,_,_,j,h => by simp at h
 | n :: rest,i,ps,r,h,j,hj => by
  rw [runNodes] at h
  by_cases hn:nodeOk n = true
  ·rw [if_pos hn] at h
   cases ha:addKids i (kidsOf n) ps with
   | none => rw [ha] at h;cases h
   | some ps' =>
    rw [ha] at h
    cases j with
    | zero => exact ⟨hn,fun c hc => addKids_some i _ _ _ ha c hc⟩
    | succ j =>
     have:=runNodes_some rest (i + 1) ps' r h j (by simpa using hj)
     refine ⟨this.1,fun c hc => ?_⟩
     have:=this.2 c hc
     omega
  ·rw [if_neg hn] at h;cases h

theorem node_ok {n:PN} (h:nodeOk n = true):n.ok:=by
 simp only [nodeOk,numOk,axOk,kindOk,Bool.and_eq_true,Bool.or_eq_true,decide_eq_true_eq] at h
 obtain ⟨⟨⟨⟨hk,hl⟩,_⟩,_⟩,_,ha⟩:=h
 refine ⟨hk,hl,?_⟩
 rcases ha with (h | h) | h
 ·exact Or.inl h
 ·exact Or.inr (Or.inl h)
 ·exact Or.inr (Or.inr h)

theorem valid_ok {ns:List PN} (h:validF ns = true):(1 ≤ ns.length ∧ ns.length ≤ 16) ∧ OkAll ns:=by
 simp only [validF,Bool.and_eq_true,decide_eq_true_eq] at h
 obtain ⟨hl,hr⟩:=h
 refine ⟨hl,?_⟩
 cases hc:runNodes ns 0 (List.replicate ns.length 0) with
 | none => rw [hc] at hr;cases hr
 | some r =>
  intro i hi
  obtain ⟨h1,h2⟩:=runNodes_some ns 0 _ r hc i hi
  have hk:=kids_cases ns[i].kind
  refine ⟨node_ok h1,fun hne => ?_,fun h2k => ?_⟩
  ·have:=h2 ns[i].a (by
    unfold kidsOf
    rcases hk with h | h | h
    ·exact absurd h hne
    ·rw [h];simp
    ·rw [h];simp)
   omega
  ·have:=h2 ns[i].b (by unfold kidsOf;rw [h2k];simp)
   omega

end Go.Proofs.YtbiacfkiakddiaaGreat

namespace Go.Proofs.YtbiacfkiakddiaaGreat
open Go.RowKit Go.Fl
def finB (x:Nat):Bool:=eqk .f32 (B .sub x x) 0
def vfin (p:Nat × Nat × Nat):Bool:=finB p.1 && finB p.2.1 && finB p.2.2
theorem keptT {cs:List (Addr × Value)} {fs:List Addr} {W W':World} (h:Kept cs fs W) (e:W'.heap = W.heap):Kept cs fs W':=by
 obtain ⟨h1,h2⟩:=h
 have hc:∀ a,W'.cell? a = W.cell? a:=fun a => by unfold World.cell?;rw [e]
 have hf:∀ a,W'.frozen? a = W.frozen? a:=fun a => by unfold World.frozen?;rw [e]
 exact ⟨fun p hp => by rw [hc];exact h1 p hp,fun a ha => by rw [hc,hf];exact h2 a ha⟩
theorem keepT {cs:List (Addr × Value)} {fs:List Addr} {W X w:World} (h:Kept cs fs W) (hb:Below X.heap.size X w) (e:X.heap = W.heap):Kept cs fs w:=keep (keptT h e) hb

set_option maxHeartbeats 400000 in
theorem s_vfin_any (x y z:Nat) (w:World) :
  Calls Tryz.prog 121 #[V3 x y z] w (fun e w' => e = .returned (.bool (vfin (cn .f32 x,cn .f32 y,cn .f32 z))) ∧ Below w.heap.size w w'):=by
 obtain ⟨b,hb⟩:∃ b,Hid (vfin (cn .f32 x,cn .f32 y,cn .f32 z) = b):=⟨_,rfl⟩
 rw [hb.out]
 have hbo:=hb.out
 unfold vfin finB at hbo
 have hb:=Lib.hid hbo
 clear hbo
 cases h1:eqk .f32 (B .sub (cn .f32 x) (cn .f32 x)) 0 <;> cases h2:eqk .f32 (B .sub (cn .f32 y) (cn .f32 y)) 0 <;> cases h3:eqk .f32 (B .sub (cn .f32 z) (cn .f32 z)) 0
 all_goals
  have hbo:=hb.out
  simp only [h1,h2,h3,Bool.and_true,Bool.and_false,Bool.false_and,Bool.true_and] at hbo
  subst hbo
  clear hb
  go_enter Tryz.func121,Tryz.ntmps121
  go_wp2_with fail
  generalize hW:w.alloc (.cells #[F1 x,F1 y,F1 z] 38) = W1 at *
  have W1b:Below w.heap.size w W1:=by subst hW;exact (by repeat' (first | exact Below.refl _ _ | exact Nat.le_refl _ | refine below_drewN ?_ _ | refine Below.alloc ?_ (by simp <;> omega) _ | refine Below.setCell ?_ (by simp <;> omega) _ | refine below_step ?_ (by assumption)))
  have hkept:Kept [(⟨w.heap.size,0,none⟩,F1 x),(⟨w.heap.size,1,none⟩,F1 y),(⟨w.heap.size,2,none⟩,F1 z)] [] W1:=by
   subst hW;simp only [Kept,ka,kb,kc,kd,ke,kf,kg];(first | (go_simp;done) | (simp [World.cell?,World.frozen?,World.alloc,Array.getElem?_push];done))
  clear hW
  have hK:=hkept;simp only [Kept,ka,kb,kc,kd,ke,kf,kg] at hK
  go_wp2_with (go_at_call 149;refine (s_fin_any _ _).mono ?_;rintro _ w2 ⟨rfl,hb1⟩;have hkept:=keepT hkept hb1 rfl;clear hK;have hK:=hkept;simp only [Kept,ka,kb,kc,kd,ke,kf,kg] at hK;simp only [h1,h2,h3])
  go_ret
  exact ⟨rfl,(by repeat' (first | exact Below.refl _ _ | exact Nat.le_refl _ | refine Below.drew ?_ | refine below_drewN ?_ _ | refine Below.alloc ?_ (by simp <;> omega) _ | refine Below.setCell ?_ (by simp <;> omega) _ | refine below_step ?_ (by assumption)))⟩

/-- A ray lies here. -/
structure RayIn (a b c d e f rb ro:Nat) (w:World):Prop where
 kept:Kept [(⟨rb,ro,none⟩,F1 a),(⟨rb,ro + 1,none⟩,F1 b),(⟨rb,ro + 2,none⟩,F1 c),(⟨rb,ro + 3,none⟩,F1 d),(⟨rb,ro + 4,none⟩,F1 e),(⟨rb,ro + 5,none⟩,F1 f)] [] w
theorem RayIn.keep {a b c d e f rb ro:Nat} {w w':World} (h:RayIn a b c d e f rb ro w) (hb:Below w.heap.size w w'):RayIn a b c d e f rb ro w':=⟨Go.Fl.keep h.kept hb⟩
theorem RayIn.lt {a b c d e f rb ro:Nat} {w:World} (h:RayIn a b c d e f rb ro w):rb < w.heap.size:=some_lt (a:=⟨rb,ro,none⟩) (by rw [h.kept.1 (⟨rb,ro,none⟩,F1 a) (by simp)];rfl)

end Go.Proofs.YtbiacfkiakddiaaGreat

namespace Go.Proofs.YtbiacfkiakddiaaGreat
open Go.RowKit Go.Fl
/-- Points in memory. -/
def PtsIn (n g o:Nat) (P:Nat → Nat × Nat × Nat) (w:World):Prop:=∀ i,i < n → w.cell? ⟨g,o + i * 3,none⟩ = some (F1 (P i).1) ∧ w.cell? ⟨g,o + i * 3 + 1,none⟩ = some (F1 (P i).2.1) ∧ w.cell? ⟨g,o + i * 3 + 2,none⟩ = some (F1 (P i).2.2)
theorem PtsIn.keep {n g o:Nat} {P:Nat → Nat × Nat × Nat} {w w':World} (h:PtsIn n g o P w) (hb:Below w.heap.size w w'):PtsIn n g o P w':=fun i hi => by
 obtain ⟨h1,h2,h3⟩:=h i hi
 exact ⟨by rw [lift hb _ (by rw [h1];rfl)];exact h1,by rw [lift hb _ (by rw [h2];rfl)];exact h2,by rw [lift hb _ (by rw [h3];rfl)];exact h3⟩
end Go.Proofs.YtbiacfkiakddiaaGreat

namespace Go.Proofs.YtbiacfkiakddiaaGreat
open Go.RowKit Go.Fl
/-- A list of one's own is written. -/
theorem row_set {w:World} {base:Nat} {e:TypeId} {size g n cap:Nat} {xs:List Value} (h:w.ownsRow base e size (.slice (some ⟨g,0,none⟩) n cap) n xs) (j:Nat) (u:Value) (hj:j < n * size) :
  (w.setCell ⟨g,j,none⟩ u).ownsRow base e size (.slice (some ⟨g,0,none⟩) n cap) n (xs.set j u):=by
 obtain ⟨hl,h⟩:=h
 rcases h with ⟨h0,_⟩ | ⟨g',cap',cur,hv,hb,hg,hc,hm,hs,ht⟩
 ·cases h0
 ·injection hv with hv1 _ hv2;injection hv1 with hv1;injection hv1 with hv1;subst hv1;subst hv2
  refine ⟨by simpa using hl,.inr ⟨g,cap,cur.setIfInBounds j u,rfl,hb,arr_set hg j u,hc,hm,by simpa using hs,?_⟩⟩
  rw [Array.toList_setIfInBounds,List.take_set,ht]
theorem row_froz {w:World} {base:Nat} {e:TypeId} {size g n cap:Nat} {xs:List Value} (h:w.ownsRow base e size (.slice (some ⟨g,0,none⟩) n cap) n xs) (j:Nat):w.frozen? ⟨g,j,none⟩ = false:=by
 rcases h.2 with ⟨h0,_⟩ | ⟨g',cap',cur,hv,hb,hg,hc,hm,hs,ht⟩
 ·cases h0
 ·injection hv with hv1 _ hv2;injection hv1 with hv1;injection hv1 with hv1;subst hv1
  exact arr_frozen hg j
theorem row_form {w:World} {base:Nat} {e:TypeId} {size n:Nat} {v:Value} {xs:List Value} (h:w.ownsRow base e size v n xs):(v = .slice none 0 0 ∧ n = 0) ∨ ∃ g cap,v = .slice (some ⟨g,0,none⟩) n cap ∧ base ≤ g ∧ g < w.heap.size:=by
 rcases h.2 with h0 | ⟨g,cap,cur,hv,hb,hg,_⟩
 ·exact .inl h0
 ·exact .inr ⟨g,cap,hv,hb,(Array.getElem?_eq_some_iff.1 hg).1⟩
theorem row_nil (w:World) (base:Nat) (e:TypeId) (size:Nat):w.ownsRow base e size (.slice none 0 0) 0 []:=⟨by simp,.inl ⟨rfl,rfl⟩⟩

/-- A list of integers that can be read. -/
def IlRd (v:Value) (xs:List Int) (w:World):Prop:=∃ bp g cap,v = .slice bp xs.length cap ∧ (xs ≠ [] → bp = some ⟨g,0,none⟩) ∧ ∀ i (h:i < xs.length),w.cell? ⟨g,i,none⟩ = some (.int .i64 xs[i])
theorem IlRd.keep {v:Value} {xs:List Int} {w w':World} (h:IlRd v xs w) (hb:Below w.heap.size w w'):IlRd v xs w':=by
 obtain ⟨bp,g,cap,h1,h2,h3⟩:=h
 exact ⟨bp,g,cap,h1,h2,fun i hi => by rw [lift hb _ (by rw [h3 i hi];rfl)];exact h3 i hi⟩
end Go.Proofs.YtbiacfkiakddiaaGreat
