/-
 Lemmas: S8,W18a.
-/
import Derived.Test.YtbiacfkiakddiaaGreatJbe
set_option linter.unusedVariables false
set_option linter.unusedSimpArgs false
namespace Go.Proofs.YtbiacfkiakddiaaGreat
open Go.RowKit Go.Fl
def bump (us:List Nat) (c:Int):List Nat:=us.set c.toNat (us.getD c.toNat 0 + 1)
def useA (us:List Nat) (n:PN):List Nat:=if inI n.kind 0 4 then us else bump us n.a
def useB (us:List Nat) (n:PN):List Nat:=if inI n.kind 5 8 then bump us n.b else us
def usesS:List PN → Nat → List Nat → Option (List Nat)
 | [],_,us => some us
 | n :: rest,i,us => if nodeS n i then usesS rest (i + 1) (useB (useA us n) n) else none
def endS (l:Nat):Option (List Nat) → Bool
 | none => false
 | some us => !(us.take (l - 1)).any (· != 1)
def validS (ns:List PN):Bool:=decide (1 ≤ ns.length) && decide (ns.length ≤ 16) && endS ns.length (usesS ns 0 (List.replicate ns.length 0))

theorem bump_len (us:List Nat) (c:Int):(bump us c).length = us.length:=by unfold bump;simp
theorem useA_len (us:List Nat) (n:PN):(useA us n).length = us.length:=by unfold useA;split;rfl;exact bump_len _ _
theorem useB_len (us:List Nat) (n:PN):(useB us n).length = us.length:=by unfold useB;split;exact bump_len _ _;rfl
theorem bump_le {us:List Nat} {c:Int} {k:Nat} (h:∀ x ∈ us,x ≤ k):∀ x ∈ bump us c,x ≤ k + 1:=by
 intro x hx
 unfold bump at hx
 rcases List.mem_or_eq_of_mem_set hx with h' | h'
 ·have:=h x h';omega
 ·have:us.getD c.toNat 0 ≤ k:=by
   rw [List.getD_eq_getElem?_getD]
   cases hg:us[c.toNat]? with
   | none => simp
   | some y => exact h y (List.mem_of_getElem? hg)
  omega
theorem useA_le {us:List Nat} {n:PN} {k:Nat} (h:∀ x ∈ us,x ≤ k):∀ x ∈ useA us n,x ≤ k + 1:=by
 intro x hx
 unfold useA at hx
 split at hx
 ·have:=h x hx;omega
 ·exact bump_le h x hx
theorem useB_le {us:List Nat} {n:PN} {k:Nat} (h:∀ x ∈ us,x ≤ k):∀ x ∈ useB us n,x ≤ k + 1:=by
 intro x hx
 unfold useB at hx
 split at hx
 ·exact bump_le h x hx
 ·have:=h x hx;omega

theorem nodeS_kids {n:PN} {i:Int} (h:nodeS n i = true):(inI n.kind 0 4 = false → 0 ≤ n.a ∧ n.a < i) ∧ (inI n.kind 5 8 = true → 0 ≤ n.b ∧ n.b < i):=by
 unfold nodeS at h
 simp only [Bool.and_eq_true] at h
 refine ⟨fun h1 => ?_,fun h1 => ?_⟩
 ·rw [h1] at h
  simp only [Bool.false_eq_true,if_false,Bool.and_eq_true] at h
  have:=h.2.1
  simp only [inI,Bool.and_eq_true,decide_eq_true_eq] at this
  omega
 ·have h0:inI n.kind 0 4 = false:=by
   simp only [inI,Bool.and_eq_true,decide_eq_true_eq,Bool.and_eq_false_iff,decide_eq_false_iff_not] at h1 ⊢
   omega
  rw [h0,h1] at h
  simp only [Bool.false_eq_true,if_false,if_true,Bool.and_eq_true] at h
  have:=h.2.2
  simp only [inI,Bool.and_eq_true,decide_eq_true_eq] at this
  omega

set_option maxRecDepth 100000 in
theorem make_int64s (n:Nat) (hn:n ≤ 16) (w:World):(Instr.makeSlice 61 (.int .i64 (n:Int)) (.int .i64 (n:Int))).run Tryz.prog w = .ok (.slice (some ⟨w.heap.size,0,none⟩) n n) (w.alloc (.cells (ints (List.replicate n 0)) 2)):=by
 have:n = 0 ∨ n = 1 ∨ n = 2 ∨ n = 3 ∨ n = 4 ∨ n = 5 ∨ n = 6 ∨ n = 7 ∨ n = 8 ∨ n = 9 ∨ n = 10 ∨ n = 11 ∨ n = 12 ∨ n = 13 ∨ n = 14 ∨ n = 15 ∨ n = 16:=by omega
 rcases this with h | h | h | h | h | h | h | h | h | h | h | h | h | h | h | h | h  <;> subst h <;> (first | rfl | (show _ = _;kernel_rfl))

set_option maxRecDepth 100000 in
set_option maxHeartbeats 4000000 in
theorem s_is_any (ns:List PN) (hnum:∀ n ∈ ns,n.nums.length < 10000000) (sb so nb no cap:Nat) (bp:Option Addr) (w:World) (hS:w.cell? ⟨sb,so,none⟩ = some (.slice bp ns.length cap)) (hbp:ns ≠ [] → bp = some ⟨nb,no,none⟩) (hsh:∀ i (h:i < ns.length),NodeIn ns[i] nb (no + i * 4) w) (hlen:ns.length < 10000000) :
  Calls Tryz.prog 60 #[.pointer (some ⟨sb,so,none⟩)] w (fun e w' => e = .returned (.bool (validS ns)) ∧ Below w.heap.size w w'):=by
 have hsb:sb < w.heap.size:=some_lt (a:=⟨sb,so,none⟩) (by rw [hS];rfl)
 by_cases hr:1 ≤ ns.length ∧ ns.length ≤ 16
 ·have hne:ns ≠ []:=by intro h;rw [h] at hr;simp at hr
  have hb:=hbp hne
  subst hb
  have hr1:(1:Int) ≤ (ns.length:Int):=by omega
  have hr2:(ns.length:Int) ≤ 16:=by omega
  go_enter Tryz.func60,Tryz.ntmps60
  go_wp2_with fail
  rw [make_int64s _ hr.2]
  generalize hZ:ints (List.replicate ns.length 0) = Z
  have W1b:Below w.heap.size w (w.alloc (.cells Z 2)):=(by repeat' (first | exact Below.refl _ _ | exact Nat.le_refl _ | refine below_drewN ?_ _ | refine Below.alloc ?_ (by first | (simp;done) | (simp;omega)) _ | refine Below.setCell ?_ (by first | (simp;done) | (simp;omega)) _ | refine below_step ?_ (by assumption)))

  have hbox:(w.alloc (.cells Z 2)).cell? ⟨sb,so,none⟩ = some (.slice (some ⟨nb,no,none⟩) ns.length cap):=by rw [lift W1b _ (by rw [hS];rfl)];exact hS
  have hpar:=heap_alloc_at w (.cells Z 2)
  generalize w.alloc (.cells Z 2) = W1 at *
  subst hZ
  have hS0:=Lib.hid hS
  go_wp2_with fail
  go_loopw [5] (fun i wr => ∃ (m:Nat) (us:List Nat),m ≤ ns.length ∧ i = .int .i64 (m:Int) ∧ us.length = ns.length ∧ (∀ x ∈ us,x ≤ 2 * m) ∧ usesS (ns.drop m) m us = usesS ns 0 (List.replicate ns.length 0) ∧ wr.heap[w.heap.size]? = some (.cells (ints us) 2 (0,0)) ∧ Below w.heap.size w wr) (fun i _ => ns.length - (intOf i).toNat)
  case atStart => exact ⟨0,_,by omega,rfl,by simp,by simp,rfl,hpar,W1b⟩
  case round =>
   obtain ⟨m,us,hm,rfl,hus,hle,hrun,hpar,Wb⟩:=hrel
   clear W1b hbox hS
   by_cases hlt:m < ns.length
   ·have hlt':(m:Int) < (ns.length:Int):=by omega
    have h0:(0:Int) ≤ (m:Int):=by omega
    have hn0:=hsh m hlt
    have hnb:nb < w.heap.size:=some_lt (a:=⟨nb,no + m * 4,none⟩) (by rw [hn0.kind];rfl)
    have hn:=hn0.keep Wb
    have hSr:wr.cell? ⟨sb,so,none⟩ = some (.slice (some ⟨nb,no,none⟩) ns.length cap):=by rw [lift Wb _ (by rw [hS0.out];rfl)];exact hS0.out
    have hdrop:ns.drop m = ns[m] :: ns.drop (m + 1):=List.drop_eq_getElem_cons hlt
    rw [hdrop,usesS] at hrun
    have hnl:ns[m].nums.length < 10000000:=hnum _ (List.getElem_mem _)
    clear hn0
    generalize ns[m] = n at *
    have hbad:nodeS n m = false → Hid (validS ns = false):=fun h => by
     unfold Hid
     rw [if_neg (by rw [h];decide)] at hrun
     simp only [validS,← hrun]
     simp [endS]
    go_wp2_with fail
    refine (s_node_any hn hnl m (by omega)).mono ?_
    rintro _ w2 ⟨rfl,hb2⟩
    have W2b:=below_step Wb hb2
    have hn2:=hn.keep hb2
    have hpar2:w2.heap[w.heap.size]? = some (.cells (ints us) 2 (0,0)):=by
     have:=hb2.block (w.heap.size) (by have:=(Array.getElem?_eq_some_iff.1 hpar).1;omega)
     rw [this];exact hpar
    cases hns:nodeS n m
    ·have hv:=hbad hns
     clear hbad
     go_wp2_with fail
     go_ret
     exact ⟨by rw [hv.out];rfl,W2b⟩
    ·rw [if_pos hns] at hrun
     obtain ⟨hka,hkb⟩:=nodeS_kids hns
     have hleA:=useA_le (n:=n) hle
     have hleB:=useB_le (n:=n) hleA
     have hfz:∀ o,w2.frozen? ⟨w.heap.size,o,none⟩ = false:=fun o => by simp [World.frozen?,hpar2]
     have hk2:=hn2.kind
     have ha2:=hn2.a
     have hb2':=hn2.b
     clear hbad hns hSr hn hb2 hpar Wb hn2 hdrop
     have hleaf:∀ (w:World),Calls Tryz.prog 119 #[.int .i64 n.kind] w (fun e w' => e = .returned (.bool (inI n.kind 0 4)) ∧ w = w'):=fun w => s_leaf_any _ w
     have htwo:∀ (w:World),Calls Tryz.prog 120 #[.int .i64 n.kind] w (fun e w' => e = .returned (.bool (inI n.kind 5 8)) ∧ w = w'):=fun w => s_two_any _ w
     cases hlf:inI n.kind 0 4
     ·obtain ⟨ca,hca⟩:=Int.eq_ofNat_of_zero_le (hka hlf).1
      have hcl:ca < us.length:=by have:=(hka hlf).2;omega
      have hua:useA us n = us.set ca (us[ca] + 1):=by
       unfold useA bump
       rw [hlf,hca]
       simp [List.getElem?_eq_getElem hcl]
      have hv1:us[ca] ≤ 2 * m:=hle _ (List.getElem_mem hcl)
      have hpa:=par_cell hpar2 ca hcl
      have hset:=set_ints hpar2 ca (us[ca] + 1)
      rw [← hua] at hset
      have hclI:(ca:Int) < (ns.length:Int):=by omega
      rw [hca] at ha2
      have hkB:=hkb
      clear hkb hka
      have huaH:=Lib.hid hua
      clear hua
      generalize us[ca] = va at *
      have hva:(va:Int) < 1000:=by omega
      have hfar:∀ o v,(w2.setCell ⟨w.heap.size,ca,none⟩ v).cell? ⟨nb,o,none⟩ = w2.cell? ⟨nb,o,none⟩:=fun o v => World.cell?_setCell_far _ _ _ _ (by show w.heap.size ≠ nb;omega)
      have hset':(w2.setCell ⟨w.heap.size,ca,none⟩ (.int .i64 ((va:Int) + 1))).heap[w.heap.size]? = some (.cells (ints (useA us n)) 2 (0,0)):=hset
      have hfz2:∀ o,(w2.setCell ⟨w.heap.size,ca,none⟩ (.int .i64 ((va:Int) + 1))).frozen? ⟨w.heap.size,o,none⟩ = false:=fun o => by simp [World.frozen?,hset']
      have hb3:=W2b.setCell (p:=⟨w.heap.size,ca,none⟩) (Nat.le_refl _) (Value.int .i64 ((va:Int) + 1))
      cases htw:inI n.kind 5 8
      ·have hub:useB (useA us n) n = useA us n:=by unfold useB;rw [htw];rfl
       rw [hub] at hrun hleB
       have hrunH:=Lib.hid hrun
       have hsetH:=Lib.hid hset'
       have hleH:=Lib.hid hleA
       clear hrun hset hset' hleA hleB hub hle hkB hpar2
       go_wp2_with (first
        | (go_at_call 119;refine (hleaf _).mono ?_;rintro _ w4 ⟨rfl,rfl⟩;rw [hlf])
        | (go_at_call 120;refine (htwo _).mono ?_;rintro _ w4 ⟨rfl,rfl⟩;rw [htw]))
       exact ⟨⟨m + 1,useA us n,by omega,by simp,by rw [useA_len];exact hus,fun x hx => by have:=hleH.out x hx;omega,hrunH.out,hsetH.out,hb3⟩,by simp [intOf];omega⟩
      ·obtain ⟨cb,hcb⟩:=Int.eq_ofNat_of_zero_le (hkB htw).1
       have hcl2:cb < (useA us n).length:=by rw [useA_len];have:=(hkB htw).2;omega
       have hub:useB (useA us n) n = (useA us n).set cb ((useA us n)[cb] + 1):=by
        unfold useB bump
        rw [htw,hcb]
        simp [List.getElem?_eq_getElem hcl2]
       have hv2:(useA us n)[cb] ≤ 2 * m + 1:=hleA _ (List.getElem_mem hcl2)
       have hpb:=par_cell hset' cb hcl2
       have hset2:=set_ints hset' cb ((useA us n)[cb] + 1)
       rw [← hub] at hset2
       have hclI2:(cb:Int) < (ns.length:Int):=by rw [useA_len] at hcl2;omega
       rw [hcb] at hb2'
       generalize (useA us n)[cb] = vb at *
       have hvb:(vb:Int) < 1000:=by omega
       have hset2':((w2.setCell ⟨w.heap.size,ca,none⟩ (.int .i64 ((va:Int) + 1))).setCell ⟨w.heap.size,cb,none⟩ (.int .i64 ((vb:Int) + 1))).heap[w.heap.size]? = some (.cells (ints (useB (useA us n) n)) 2 (0,0)):=hset2
       have hb4:=hb3.setCell (p:=⟨w.heap.size,cb,none⟩) (Nat.le_refl _) (Value.int .i64 ((vb:Int) + 1))
       have hrunH:=Lib.hid hrun
       have hsetH:=Lib.hid hset2'
       have hleH:=Lib.hid hleB
       have hlenH:Hid ((useB (useA us n) n).length = ns.length):=by unfold Hid;rw [useB_len,useA_len];exact hus
       clear hrun hset hset' hset2 hset2' hleA hleB hub hle hkB hpar2 hcl2 hcl hca hcb huaH
       go_wp2_with (first
        | (go_at_call 119;refine (hleaf _).mono ?_;rintro _ w4 ⟨rfl,rfl⟩;rw [hlf])
        | (go_at_call 120;refine (htwo _).mono ?_;rintro _ w4 ⟨rfl,rfl⟩;rw [htw]))
       exact ⟨⟨m + 1,useB (useA us n) n,by omega,by simp,hlenH.out,fun x hx => by have:=hleH.out x hx;omega,hrunH.out,hsetH.out,hb4⟩,by simp [intOf];omega⟩
     ·have htw:inI n.kind 5 8 = false:=by
       simp only [inI,Bool.and_eq_true,decide_eq_true_eq,Bool.and_eq_false_iff,decide_eq_false_iff_not] at hlf ⊢
       omega
      have hua:useA us n = us:=by unfold useA;rw [hlf];rfl
      have hub:useB us n = us:=by unfold useB;rw [htw];rfl
      rw [hua,hub] at hrun
      have hrunH:=Lib.hid hrun
      have hsetH:=Lib.hid hpar2
      have hleH:=Lib.hid hle
      clear hrun hpar2 hleA hleB hub hua hle hka hkb hfz
      go_wp2_with (first
       | (go_at_call 119;refine (hleaf _).mono ?_;rintro _ w4 ⟨rfl,rfl⟩;rw [hlf])
       | (go_at_call 120;refine (htwo _).mono ?_;rintro _ w4 ⟨rfl,rfl⟩;rw [htw]))
      exact ⟨⟨m + 1,us,by omega,by simp,hus,fun x hx => by have:=hleH.out x hx;omega,hrunH.out,hsetH.out,W2b⟩,by simp [intOf];omega⟩
   ·obtain rfl:m = ns.length:=by omega
    have hval:Hid (validS ns = !(us.take (ns.length - 1)).any (· != 1)):=by
     unfold Hid
     rw [List.drop_length] at hrun
     simp only [validS,← hrun,usesS,endS]
     simp [hr.1,hr.2]
    clear hrun hsh hnum hle
    go_wp2_with fail
    go_loopw [7] (fun i wr' => ∃ (k:Nat),k ≤ ns.length - 1 ∧ i = .int .i64 (k:Int) ∧ (us.take k).any (· != 1) = false ∧ wr' = wr) (fun i _ => ns.length - (intOf i).toNat)
    case atStart => exact ⟨0,by omega,rfl,rfl,rfl⟩
    case round =>
     obtain ⟨k,hk,rfl,hany,rfl⟩:=hrel
     by_cases hlt2:k < ns.length - 1
     ·have hlt2':(k:Int) < (ns.length:Int) - 1:=by omega
      have hk0:(0:Int) ≤ (k:Int):=by omega
      have hkl:(k:Int) < (ns.length:Int):=by omega
      have hku:k < us.length:=by omega
      have hpk:=par_cell hpar k hku
      have hyes:Hid (us[k] ≠ 1 → (us.take (ns.length - 1)).any (· != 1) = true):=fun h => List.any_eq_true.2 ⟨us[k],List.mem_take_iff_getElem.2 ⟨k,by omega,rfl⟩,by simpa using h⟩
      have hno:Hid (us[k] = 1 → (us.take (k + 1)).any (· != 1) = false):=fun h => any_take_succ _ us k hku hany (by rw [h];rfl)
      clear hpar hany
      generalize us[k] = v at *
      by_cases hv1:v = 1
      ·subst hv1
       go_wp2_with fail
       exact ⟨⟨k + 1,by omega,by simp,hno.out rfl,by first | rfl | trivial⟩,by simp [intOf];omega⟩
      ·have hv2:((v:Int) != 1) = true:=by simp;omega
       have hv3:(v:Int) ≠ 1:=by omega
       go_wp2_with fail
       go_ret
       exact ⟨by rw [hval.out,hyes.out hv1];rfl,Wb⟩
     ·obtain rfl:k = ns.length - 1:=by omega
      have hcast:((ns.length - 1:Nat):Int) = (ns.length:Int) - 1:=by omega
      have hH:=Lib.hid hany
      clear hany hpar
      rw [hcast]
      go_wp2_with fail
      go_ret
      exact ⟨by rw [hval.out,hH.out];rfl,Wb⟩
 ·have hv:validS ns = false:=by
   simp only [validS,Bool.and_eq_false_iff,decide_eq_false_iff_not]
   omega
  rw [hv]
  clear hbp hsh hnum hv
  by_cases h1:ns.length < 1
  ·have h1':(ns.length:Int) < 1:=by omega
   go_enter Tryz.func60,Tryz.ntmps60
   go_wp2_with fail
   go_ret
   exact ⟨rfl,(by repeat' (first | exact Below.refl _ _ | exact Nat.le_refl _ | refine below_drewN ?_ _ | refine Below.alloc ?_ (by first | (simp;done) | (simp;omega)) _ | refine Below.setCell ?_ (by first | (simp;done) | (simp;omega)) _ | refine below_step ?_ (by assumption)))⟩
  ·have h1':(1:Int) ≤ (ns.length:Int):=by omega
   have h2':(16:Int) < (ns.length:Int):=by omega
   go_enter Tryz.func60,Tryz.ntmps60
   go_wp2_with fail
   go_ret
   exact ⟨rfl,(by repeat' (first | exact Below.refl _ _ | exact Nat.le_refl _ | refine below_drewN ?_ _ | refine Below.alloc ?_ (by first | (simp;done) | (simp;omega)) _ | refine Below.setCell ?_ (by first | (simp;done) | (simp;omega)) _ | refine below_step ?_ (by assumption)))⟩
end Go.Proofs.YtbiacfkiakddiaaGreat

namespace Go.Proofs.YtbiacfkiakddiaaGreat
open Go.RowKit Go.Fl
theorem addKids_some (i:Nat):∀ (cs:List Int) (ps r:List Nat),addKids i cs ps = some r → ∀ c ∈ cs,0 ≤ c ∧ c < (i:Int)
 | [],_,_,_,c,hc => by cases hc
 | c :: cs,ps,r,h,x,hx => by
  rw [addKids] at h
  by_cases hc:0 ≤ c ∧ c < (i:Int)
  ·rw [if_pos hc] at h
   rcases List.mem_cons.1 hx with e | e
   ·rw [e];exact hc
   ·exact addKids_some i cs _ r h x e
  ·rw [if_neg hc] at h;cases h

theorem runNodes_some:∀ (l:List PN) (i:Nat) (ps r:List Nat),runNodes l i ps = some r → ∀ j (h:j < l.length),nodeOk l[j] = true ∧ ∀ c ∈ kidsOf l[j],0 ≤ c ∧ c < ((i + j:Nat):Int)
 | [],_,_,_,_,j,h => by simp at h
 | n :: rest,i,ps,r,h,j,hj => by
  rw [runNodes] at h
  by_cases hn:nodeOk n = true
  ·rw [if_pos hn] at h
   cases ha:addKids i (kidsOf n) ps with
   | none => rw [ha] at h;cases h
   | some ps' =>
    rw [ha] at h
    cases j with
    | zero => exact ⟨hn,fun c hc => addKids_some i _ _ _ ha c hc⟩
    | succ j =>
     have:=runNodes_some rest (i + 1) ps' r h j (by simpa using hj)
     refine ⟨this.1,fun c hc => ?_⟩
     have:=this.2 c hc
     omega
  ·rw [if_neg hn] at h;cases h

theorem node_ok {n:PN} (h:nodeOk n = true):n.ok:=by
 simp only [nodeOk,numOk,axOk,kindOk,Bool.and_eq_true,Bool.or_eq_true,decide_eq_true_eq] at h
 obtain ⟨⟨⟨⟨hk,hl⟩,_⟩,_⟩,_,ha⟩:=h
 refine ⟨hk,hl,?_⟩
 rcases ha with (h | h) | h
 ·exact Or.inl h
 ·exact Or.inr (Or.inl h)
 ·exact Or.inr (Or.inr h)

theorem valid_ok {ns:List PN} (h:validF ns = true):(1 ≤ ns.length ∧ ns.length ≤ 16) ∧ OkAll ns:=by
 simp only [validF,Bool.and_eq_true,decide_eq_true_eq] at h
 obtain ⟨hl,hr⟩:=h
 refine ⟨hl,?_⟩
 cases hc:runNodes ns 0 (List.replicate ns.length 0) with
 | none => rw [hc] at hr;cases hr
 | some r =>
  intro i hi
  obtain ⟨h1,h2⟩:=runNodes_some ns 0 _ r hc i hi
  have hk:=kids_cases ns[i].kind
  refine ⟨node_ok h1,fun hne => ?_,fun h2k => ?_⟩
  ·have:=h2 ns[i].a (by
    unfold kidsOf
    rcases hk with h | h | h
    ·exact absurd h hne
    ·rw [h];simp
    ·rw [h];simp)
   omega
  ·have:=h2 ns[i].b (by unfold kidsOf;rw [h2k];simp)
   omega

end Go.Proofs.YtbiacfkiakddiaaGreat
