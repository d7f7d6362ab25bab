/-
 Lemmas: W17,L2.
-/
import Derived.Test.YtbiacfkiakddiaaGreatMao
set_option linter.unusedVariables false
set_option linter.unusedSimpArgs false
namespace Go.Proofs.YtbiacfkiakddiaaGreat
open Go.RowKit Go.Fl
def kidsOf (n:PN):List Int:=[n.a,n.b].take (ruleF n.kind).2.1
def addKids (i:Nat):List Int → List Nat → Option (List Nat)
 | [],ps => some ps
 | c :: cs,ps => if 0 ≤ c ∧ c < (i:Int) then addKids i cs (ps.set c.toNat (ps.getD c.toNat 0 + 1)) else none
def nodeOk (n:PN):Bool:=numOk n.kind n.nums && axOk n.kind n.a n.b
def runNodes:List PN → Nat → List Nat → Option (List Nat)
 | [],_,ps => some ps
 | n :: rest,i,ps => if nodeOk n then (match addKids i (kidsOf n) ps with | none => none | some ps' => runNodes rest (i + 1) ps') else none
def endOk (l:Nat):Option (List Nat) → Bool
 | none => false
 | some ps => ps.getD (l - 1) 0 == 0 && !(ps.take (l - 1)).any (· != 1)
def validF (ns:List PN):Bool:=decide (1 ≤ ns.length) && decide (ns.length ≤ 16) && endOk ns.length (runNodes ns 0 (List.replicate ns.length 0))

def ints (ps:List Nat):Array Value:=(ps.map I64).toArray

inductive PhiV (n:PN):FuncId → Array Value → Value → Prop
 | num (k:Int) (v:Value):PhiV n 128 #[.int .i64 k,v] (.bool (numOk n.kind n.nums))

theorem numbersOk_node {n:PN} {b o:Nat} {w:World} (hn:NodeIn n b o w) (hl:n.nums.length < 10000000) (bp:Option Addr) (cap:Nat) (h:w.cell? ⟨b,o + 3,none⟩ = some (.slice bp n.nums.length cap)) :
  Calls Tryz.prog 128 #[.int .i64 n.kind,.slice bp n.nums.length cap] w (fun e w' => e = .returned (.bool (numOk n.kind n.nums)) ∧ Below w.heap.size w w'):=by
 obtain ⟨bp',bv,ov,cap',h1,h2,h3⟩:=hn.nums
 rw [h] at h1
 injection h1 with h1
 injection h1 with e1 e2 e3
 subst e1 e3
 exact numbersOk_any n.kind n.nums bp bv ov cap w h2 h3 hl

theorem heap_alloc_at (w:World) (o:Obj):(w.alloc o).heap[w.heap.size]? = some o:=by
 unfold World.alloc
 exact Array.getElem?_push_size
theorem par_cell {ps:List Nat} {w:World} {pb:Nat} {T:TypeId} (h:w.heap[pb]? = some (.cells (ints ps) T (0,0))) (i:Nat) (hi:i < ps.length):w.cell? ⟨pb,i,none⟩ = some (I64 ps[i]):=by
 simp [World.cell?,h,ints,hi]

theorem set_ints {ps:List Nat} {w:World} {pb:Nat} {T:TypeId} (h:w.heap[pb]? = some (.cells (ints ps) T (0,0))) (i v:Nat) :
  (w.setCell ⟨pb,i,none⟩ (.int .i64 ((v:Int)))).heap[pb]? = some (.cells (ints (ps.set i v)) T (0,0)):=by
 simp only [World.setCell,Array.getElem?_modify,if_true,h,Option.map_some]
 simp [ints,List.map_set]

set_option maxRecDepth 100000 in
theorem make_ints (n:Nat) (hn:n ≤ 16) (w:World):(Instr.makeSlice 188 (.int .i64 (n:Int)) (.int .i64 (n:Int))).run Tryz.prog w = .ok (.slice (some ⟨w.heap.size,0,none⟩) n n) (w.alloc (.cells (ints (List.replicate n 0)) 3)):=by
 have:n = 0 ∨ n = 1 ∨ n = 2 ∨ n = 3 ∨ n = 4 ∨ n = 5 ∨ n = 6 ∨ n = 7 ∨ n = 8 ∨ n = 9 ∨ n = 10 ∨ n = 11 ∨ n = 12 ∨ n = 13 ∨ n = 14 ∨ n = 15 ∨ n = 16:=by omega
 rcases this with h | h | h | h | h | h | h | h | h | h | h | h | h | h | h | h | h  <;> subst h <;> (first | rfl | (show _ = _;kernel_rfl))

set_option maxRecDepth 100000 in
set_option maxHeartbeats 4000000 in
theorem valid_any (ns:List PN) (hnum:∀ n ∈ ns,n.nums.length < 10000000) (nb no cap:Nat) (bp:Option Addr) (w:World) (hbp:ns ≠ [] → bp = some ⟨nb,no,none⟩) (hsh:∀ i (h:i < ns.length),NodeIn ns[i] nb (no + i * 4) w) (hlen:ns.length < 10000000) :
  Calls Tryz.prog 65 #[.agg #[.slice bp ns.length cap]] w (fun e w' => e = .returned (.bool (validF ns)) ∧ Below w.heap.size w w'):=by
 by_cases hr:1 ≤ ns.length ∧ ns.length ≤ 16
 ·have hne:ns ≠ []:=by intro h;rw [h] at hr;simp at hr
  have hb:=hbp hne
  subst hb
  have hr1:(1:Int) ≤ (ns.length:Int):=by omega
  have hr2:(ns.length:Int) ≤ 16:=by omega
  go_enter Tryz.func65,Tryz.ntmps65
  go_wp2_with (go_at_call 74;refine (in_any _ _ _ _).mono ?_;rintro _ w5 ⟨rfl,rfl⟩)
  rw [make_ints _ hr.2]
  generalize hZ:ints (List.replicate ns.length 0) = Z
  have W1b:Below w.heap.size w ((w.alloc (.cells #[.slice (some ⟨nb,no,none⟩) ns.length cap] 36)).alloc (.cells Z 3)):=(by repeat' (first | exact Below.refl _ _ | exact Nat.le_refl _ | refine below_drewN ?_ _ | refine Below.alloc ?_ (by simp <;> omega) _ | refine Below.setCell ?_ (by simp <;> omega) _ | refine below_step ?_ (by assumption)))

  have hbox:((w.alloc (.cells #[.slice (some ⟨nb,no,none⟩) ns.length cap] 36)).alloc (.cells Z 3)).cell? ⟨w.heap.size,0,none⟩ = some (.slice (some ⟨nb,no,none⟩) ns.length cap):=by simp
  have hpar:=heap_alloc_at (w.alloc (.cells #[.slice (some ⟨nb,no,none⟩) ns.length cap] 36)) (.cells Z 3)
  have hsz:((w.alloc (.cells #[.slice (some ⟨nb,no,none⟩) ns.length cap] 36))).heap.size = w.heap.size + 1:=by simp
  rw [hsz] at hpar ⊢
  generalize (w.alloc (.cells #[.slice (some ⟨nb,no,none⟩) ns.length cap] 36)).alloc (.cells Z 3) = W1 at *
  subst hZ
  clear hsz
  go_wp2_with fail
  go_loopw [21] (fun i wr => ∃ (m:Nat) (ps:List Nat),m ≤ ns.length ∧ i = .int .i64 (m:Int) ∧ ps.length = ns.length ∧ (∀ x ∈ ps,x ≤ 2 * m) ∧ runNodes (ns.drop m) m ps = runNodes ns 0 (List.replicate ns.length 0) ∧ wr.heap[w.heap.size + 1]? = some (.cells (ints ps) 3 (0,0)) ∧ Below w.heap.size w wr ∧ wr.cell? ⟨w.heap.size,0,none⟩ = some (.slice (some ⟨nb,no,none⟩) ns.length cap)) (fun i _ => ns.length - (intOf i).toNat)
  case atStart => exact ⟨0,_,by omega,rfl,by simp,by simp,rfl,hpar,W1b,hbox⟩
  case round =>
   obtain ⟨m,ps,hm,rfl,hps,hle,hrun,hpar,Wb,hbox⟩:=hrel
   clear W1b
   by_cases hlt:m < ns.length
   ·have hlt':(m:Int) < (ns.length:Int):=by omega
    have h0:(0:Int) ≤ (m:Int):=by omega
    have hn:=(hsh m hlt).keep Wb
    have hdrop:ns.drop m = ns[m] :: ns.drop (m + 1):=List.drop_eq_getElem_cons hlt
    rw [hdrop] at hrun
    have hmem:ns[m] ∈ ns:=List.getElem_mem _
    generalize ns[m] = n at *
    have hK1:=hn.kind
    obtain ⟨nbp,-,-,ncap,hK2,-,-⟩:=hn.nums
    have hkept:Kept [(⟨nb,no + m * 4,none⟩,.int .i64 n.kind),(⟨nb,no + m * 4 + 3,none⟩,.slice nbp n.nums.length ncap)] [] wr:=by
     simp only [Kept,ka,kb,kc,kd,ke,kf,kg]
     exact ⟨hK1,hK2⟩
    have hnl:n.nums.length < 10000000:=hnum n hmem
    go_wp2_with fail
    refine Qr.wp_below 10 (by kernel_rfl) (by kernel_rfl) (PhiV n) ?_
    repeat (first | (refine Qr.walk_plain rfl fun K hK => ?_;apply Qr.one_det;(focus (intro w' hw';have HK:=keep hkept hw';simp only [Kept,ka,kb,kc,kd,ke,kf,kg] at HK;go_simp;first | done | rfl));go_simp;refine hK _ ?_;clear hK K) | (refine Qr.walk_plain rfl fun K hK => ?_;apply Qr.one_call;(focus (intro w' hw';go_simp;first | done | exact ⟨rfl,rfl⟩));(focus (intro w' hw'; go_at_call 128;refine (numbersOk_node (hn.keep hw') hnl _ _ (by have HK:=keep hkept hw';simp only [Kept,ka,kb,kc,kd,ke,kf,kg] at HK;exact HK.2)).mono ?_;rintro _ w2 ⟨rfl,hb1⟩ ;exact ⟨_,rfl,by constructor <;> assumption,below_step hw' (by assumption),by assumption⟩));intro v hv;cases hv;go_simp;refine hK _ ?_;clear hK K))
    refine Qr.walk_nil fun w6 hw6 => ?_
    have W6b:=below_step Wb hw6
    have hn6:=hn.keep hw6
    have hbox6:w6.cell? ⟨w.heap.size,0,none⟩ = some (.slice (some ⟨nb,no,none⟩) ns.length cap):=by rw [lift hw6 _ (by rw [hbox];rfl)];exact hbox
    have hpar6:w6.heap[w.heap.size + 1]? = some (.cells (ints ps) 3 (0,0)):=by
     have:=hw6.block (w.heap.size + 1) (by have:=(Array.getElem?_eq_some_iff.1 hpar).1;omega)
     rw [this];exact hpar
    have hbad:nodeOk n = false → Hid (validF ns = false):=fun h => by
     unfold Hid
     simp only [validF,← hrun,runNodes,h]
     simp [endOk]
    clear hK1 hK2 hkept hpar hbox hn hw6 Wb
    cases hnv:numOk n.kind n.nums
    ·have hv:=hbad (by simp [nodeOk,hnv])
     clear hbad
     go_wp2_with fail
     go_ret
     exact ⟨by rw [hv.out];rfl,W6b⟩
    have hax:=axisOk_any nb (no + m * 4) n.kind n.a n.b w6 hn6.kind hn6.a hn6.b
    go_wp2_with fail
    refine hax.mono ?_
    rintro _ w7 ⟨rfl,hb7⟩
    have W7b:=below_step W6b hb7
    cases hav:axOk n.kind n.a n.b
    ·have hv:=hbad (by simp [nodeOk,hav])
     clear hbad
     go_wp2_with fail
     go_ret
     exact ⟨by rw [hv.out];rfl,W7b⟩
    go_wp2_with fail
    have hn7:=hn6.keep hb7
    have hchl:=children_any nb (no + m * 4) n.kind n.a n.b w7 hn7.kind hn7.a hn7.b
    refine hchl.mono ?_
    rintro _ w8 ⟨g,rfl,hg0,hg1,hgs,hb8⟩
    have W8b:=below_step W7b hb8
    have hpbs:w.heap.size + 1 < w6.heap.size:=(Array.getElem?_eq_some_iff.1 hpar6).1
    have hpar8:w8.heap[w.heap.size + 1]? = some (.cells (ints ps) 3 (0,0)):=by
     rw [hb8.block _ (by have:=hb7.size;omega),hb7.block _ hpbs];exact hpar6
    have hbox8:w8.cell? ⟨w.heap.size,0,none⟩ = some (.slice (some ⟨nb,no,none⟩) ns.length cap):=by
     rw [lift (below_step hb7 hb8) _ (by rw [hbox6];rfl)];exact hbox6
    have hgp:w.heap.size + 1 < g:=by have:=hb7.size;omega
    have hkl:(kidsOf n).length = (ruleF n.kind).2.1:=by
     have:=kids_cases n.kind
     simp only [kidsOf,List.length_take,List.length_cons,List.length_nil]
     omega
    have hnk2:(ruleF n.kind).2.1 ≤ 2:=by have:=kids_cases n.kind;omega
    have hkid:∀ j (h:j < (kidsOf n).length),w8.cell? ⟨g,j,none⟩ = some (.int .i64 (kidsOf n)[j]):=fun j hj => by
     have hj2:j = 0 ∨ j = 1:=by omega
     rcases hj2 with h | h <;> subst h
     ·simp only [kidsOf,List.getElem_take];exact hg0
     ·simp only [kidsOf,List.getElem_take];exact hg1
    have hno:nodeOk n = true:=by simp [nodeOk,hnv,hav]
    rw [runNodes,if_pos hno] at hrun
    clear hg0 hg1 hchl hn7 hn6 hax hbad hpar6 hbox6 hb7 hb8 W6b W7b hnv hav hno
    generalize (ruleF n.kind).2.1 = nk at *
    go_wp2_with fail
    go_loopw [46] (fun jv wr' => ∃ (j:Nat) (qs:List Nat),j ≤ nk ∧ jv = .int .i64 (j:Int) ∧ qs.length = ns.length ∧ (∀ x ∈ qs,x ≤ 2 * m + j) ∧ addKids m ((kidsOf n).drop j) qs = addKids m (kidsOf n) ps ∧ wr'.heap[w.heap.size + 1]? = some (.cells (ints qs) 3 (0,0)) ∧ Below w.heap.size w wr' ∧ wr'.cell? ⟨w.heap.size,0,none⟩ = some (.slice (some ⟨nb,no,none⟩) ns.length cap) ∧ (∀ j (h:j < (kidsOf n).length),wr'.cell? ⟨g,j,none⟩ = some (.int .i64 (kidsOf n)[j]))) (fun jv _ => nk - (intOf jv).toNat)
    case atStart => exact ⟨0,ps,by omega,rfl,hps,by simpa using hle,rfl,hpar8,W8b,hbox8,hkid⟩
    case round =>
     obtain ⟨j,qs,hj,rfl,hqs,hqle,hadd,hparj,Wj,hboxj,hkidj⟩:=hrel
     clear hpar8 hbox8 hkid W8b hle hps
     by_cases hjk:j < nk
     ·have hjl:j < (kidsOf n).length:=by omega
      have hcell:=hkidj j hjl
      have hdj:(kidsOf n).drop j = (kidsOf n)[j] :: (kidsOf n).drop (j + 1):=List.drop_eq_getElem_cons hjl
      rw [hdj,addKids] at hadd
      have hjk':(j:Int) < (nk:Int):=by omega
      have hj0:(0:Int) ≤ (j:Int):=by omega
      generalize (kidsOf n)[j] = c at *
      by_cases hc:0 ≤ c ∧ c < (m:Int)
      ·rw [if_pos hc] at hadd
       obtain ⟨hc0,hcm⟩:=hc
       obtain ⟨cn',rfl⟩:=Int.eq_ofNat_of_zero_le hc0
       have hcl:cn' < qs.length:=by omega
       have hclI:(cn':Int) < (ns.length:Int):=by omega
       have hpc:=par_cell hparj cn' hcl
       have hcm1:(cn':Int) ≤ (m:Int) - 1:=by omega
       have hfz:wr.frozen? ⟨w.heap.size + 1,cn',none⟩ = false:=by simp [World.frozen?,hparj]
       have hq1:qs[cn'] ≤ 34:=by have:=hqle _ (List.getElem_mem hcl);omega
       rw [Int.toNat_natCast,List.getD_eq_getElem?_getD,List.getElem?_eq_getElem hcl,Option.getD_some] at hadd
       generalize hqv:qs[cn'] = qv at *
       have hkd:Hid (∀ j (h:j < (kidsOf n).length),wr.cell? ⟨g,j,none⟩ = some (.int .i64 (kidsOf n)[j])):=hkidj
       clear hkidj
       go_wp2_with (go_at_call 74;refine (in_any _ _ _ _).mono ?_;rintro _ w5 ⟨rfl,rfl⟩)
       have hb2:=Wj.setCell (p:=⟨w.heap.size + 1,cn',none⟩) (by show w.heap.size ≤ w.heap.size + 1;omega) (Value.int .i64 ((qv:Int) + 1))
       refine ⟨⟨j + 1,qs.set cn' (qv + 1),by omega,by simp,by simp [hqs],fun x hx => ?_,hadd,?_,hb2,?_,fun j' h' => ?_⟩,by simp [intOf];omega⟩
       ·rcases List.mem_or_eq_of_mem_set hx with h | h
        ·have:=hqle x h;omega
        ·have:=hqle _ (List.getElem_mem hcl);omega
       ·exact set_ints hparj cn' (qv + 1)
       ·rw [World.cell?_setCell_far _ _ _ _ (by show w.heap.size + 1 ≠ w.heap.size;omega)];exact hboxj
       ·rw [World.cell?_setCell_far _ _ _ _ (by show w.heap.size + 1 ≠ g;omega)];exact hkd.out j' h'
      ·rw [if_neg hc] at hadd
       have hv:Hid (validF ns = false):=by
        unfold Hid
        rw [← hadd] at hrun
        simp only [validF,← hrun]
        simp [endOk]
       have hin:(decide ((0:Int) ≤ c) && decide (c ≤ (m:Int) - 1)) = false:=by
        simp only [Bool.and_eq_false_iff,decide_eq_false_iff_not]
        omega
       clear hkidj hdj
       go_wp2_with (go_at_call 74;refine (in_any _ _ _ _).mono ?_;rintro _ w5 ⟨rfl,rfl⟩;rw [hin])
       go_ret
       exact ⟨by rw [hv.out];rfl,Wj⟩
     ·obtain rfl:j = nk:=by omega
      have hdr:(kidsOf n).drop j = []:=List.drop_eq_nil_of_le (by omega)
      rw [hdr,addKids] at hadd
      rw [← hadd] at hrun
      simp only at hrun
      clear hkidj hdr hadd
      go_wp2_with fail
      exact ⟨⟨m + 1,qs,by omega,by simp,hqs,fun x hx => by have:=hqle x hx;omega,hrun,hparj,Wj,hboxj⟩,by simp [intOf];omega⟩
   ·obtain rfl:m = ns.length:=by omega
    have hp1:=par_cell hpar (ns.length - 1) (by omega)
    have he:((ns.length:Int) - 1).toNat = ns.length - 1:=by omega
    have hl0:(0:Int) ≤ (ns.length:Int) - 1:=by omega
    have hl1:(ns.length:Int) - 1 < (ns.length:Int):=by omega
    have hval:Hid (validF ns = (ps[ns.length - 1] == 0 && !(ps.take (ns.length - 1)).any (· != 1))):=by
     unfold Hid
     rw [List.drop_length] at hrun
     have hd:ps.getD (ns.length - 1) 0 = ps[ns.length - 1]:=by
      rw [List.getD_eq_getElem?_getD,List.getElem?_eq_getElem (by omega),Option.getD_some]
     simp only [validF,← hrun,runNodes,endOk,hd]
     simp [hr.1,hr.2]
    have hcon:=contains_int (· != 1) (ps.take (ns.length - 1)) (some ⟨w.heap.size + 1,0,none⟩) (w.heap.size + 1) 0 ns.length wr (fun _ => rfl) (fun i hi => by
     have hi':i < ps.length:=by rw [List.length_take] at hi;omega
     rw [List.getElem_take,Nat.zero_add]
     exact par_cell hpar i hi') (by rw [List.length_take];omega) (fun x w' _ => validc_any x w')
    have htl:(ps.take (ns.length - 1)).length = ns.length - 1:=by rw [List.length_take];omega
    rw [htl] at hcon
    generalize (ps.take (ns.length - 1)).any (· != 1) = anyb at hcon hval
    clear htl hrun hpar hsh hnum
    generalize ps[ns.length - 1] = pl at *
    by_cases hz:pl = 0
    ·subst hz
     go_wp2_with fail
     refine hcon.mono ?_
     rintro _ w5 ⟨rfl,hb5⟩
     go_wp2_with fail
     go_ret
     exact ⟨by rw [hval.out];simp,below_step Wb hb5⟩
    ·have hz':((pl:Int) == 0) = false:=by simp;omega
     have hz2:(pl == 0) = false:=by simpa using hz
     have hz3:(pl:Int) ≠ 0:=by omega
     clear hcon
     go_wp2_with fail
     go_ret
     exact ⟨by rw [hval.out,hz2];simp,Wb⟩
 ·have hv:validF ns = false:=by
   simp only [validF,Bool.and_eq_false_iff,decide_eq_false_iff_not]
   omega
  rw [hv]
  have hr':(decide ((1:Int) ≤ (ns.length:Int)) && decide ((ns.length:Int) ≤ 16)) = false:=by
   simp only [Bool.and_eq_false_iff,decide_eq_false_iff_not]
   omega
  clear hbp hsh hnum hv
  go_enter Tryz.func65,Tryz.ntmps65
  go_wp2_with (go_at_call 74;refine (in_any _ _ _ _).mono ?_;rintro _ w5 ⟨rfl,rfl⟩;rw [hr'])
  go_ret
  exact ⟨rfl,(by repeat' (first | exact Below.refl _ _ | exact Nat.le_refl _ | refine below_drewN ?_ _ | refine Below.alloc ?_ (by simp <;> omega) _ | refine Below.setCell ?_ (by simp <;> omega) _ | refine below_step ?_ (by assumption)))⟩
end Go.Proofs.YtbiacfkiakddiaaGreat

namespace Go.Proofs.YtbiacfkiakddiaaGreat
open Go.RowKit Go.Fl
theorem arr_set {w:World} {g:Nat} {A:Array Value} {T:TypeId} (h:w.heap[g]? = some (.cells A T (0,0))) (k:Nat) (v:Value):(w.setCell ⟨g,k,none⟩ v).heap[g]? = some (.cells (A.setIfInBounds k v) T (0,0)):=by
 simp only [World.setCell,Array.getElem?_modify,if_true,h,Option.map_some]
 rfl
theorem arr_cell {w:World} {g:Nat} {A:Array Value} {T:TypeId} (h:w.heap[g]? = some (.cells A T (0,0))) (k:Nat):w.cell? ⟨g,k,none⟩ = A[k]?:=by
 simp [World.cell?,h]
theorem arr_frozen {w:World} {g:Nat} {A:Array Value} {T:TypeId} (h:w.heap[g]? = some (.cells A T (0,0))) (k:Nat):w.frozen? ⟨g,k,none⟩ = false:=by
 simp [World.frozen?,h]

theorem make_floats (n:Nat) (hn:(n:Int) ≤ 1048576) (w:World):∃ A:Array Value,A.size = n ∧ (Instr.makeSlice 140 (.int .i64 (n:Int)) (.int .i64 (n:Int))).run Tryz.prog w = .ok (.slice (some ⟨w.heap.size,0,none⟩) n n) (w.alloc (.cells A 25)):=by
 obtain ⟨i0,hi,hz0,hz1,hz2⟩:=info_parts float_info
 have h:=run_make (P:=Tryz.prog) w 140 25 i0 (.float .f32 0) Tryz.underlying140 hi hz0 .i64 .i64 n n (by omega) (by omega) (by rw [hz2];omega) (by omega)
 rw [hz1] at h
 refine ⟨_,?_,h⟩
 simp [madeCells]

set_option maxRecDepth 100000 in
set_option maxHeartbeats 2000000 in
theorem to_floats (xs:List Nat) (hlen:(xs.length:Int) ≤ 1048576) (bp:Option Addr) (bv ov cap:Nat) (w:World) (h1:xs ≠ [] → bp = some ⟨bv,ov,none⟩) (h2:∀ i (h:i < xs.length),w.cell? ⟨bv,ov + i,none⟩ = some (.float .f32 xs[i])) :
  Calls Tryz.prog 203 #[.slice bp xs.length cap] w (fun e w' => ∃ g,e = .returned (.slice (some ⟨g,0,none⟩) xs.length xs.length) ∧ (∀ i (h:i < xs.length),w'.cell? ⟨g,0 + i,none⟩ = some (.float .f32 xs[i])) ∧ w.heap.size ≤ g ∧ Below w.heap.size w w'):=by
 obtain ⟨A,hA,hmk⟩:=make_floats xs.length hlen w
 go_enter Tryz.func203,Tryz.ntmps203
 go_wp2_with fail
 have W1b:Below w.heap.size w (w.alloc (.cells A 25)):=(by repeat' (first | exact Below.refl _ _ | exact Nat.le_refl _ | refine below_drewN ?_ _ | refine Below.alloc ?_ (by simp <;> omega) _ | refine Below.setCell ?_ (by simp <;> omega) _ | refine below_step ?_ (by assumption)))

 have hpar:=heap_alloc_at w (.cells A 25)
 generalize w.alloc (.cells A 25) = W1 at *
 clear hmk
 go_loopw [4] (fun i wr => ∃ (m:Nat) (A:Array Value),m ≤ xs.length ∧ i = .int .i64 (m:Int) ∧ A.size = xs.length ∧ wr.heap[w.heap.size]? = some (.cells A 25 (0,0)) ∧ (∀ k (h:k < xs.length),k < m → A[k]? = some (.float .f32 xs[k])) ∧ Below w.heap.size w wr) (fun i _ => xs.length - (intOf i).toNat)
 case atStart => exact ⟨0,A,by omega,rfl,hA,hpar,fun k _ h => by omega,W1b⟩
 case round =>
  obtain ⟨m,A',hm,rfl,hA',hpar',hk,Wb⟩:=hrel
  clear hpar W1b
  by_cases hlt:m < xs.length
  ·have hlt':(m:Int) < (xs.length:Int):=by omega
   have h0:(0:Int) ≤ (m:Int):=by omega
   have hne:xs ≠ []:=by intro h;rw [h] at hlt;simp at hlt
   have hbp:=h1 hne
   subst hbp
   have hc:wr.cell? ⟨bv,ov + m,none⟩ = some (.float .f32 xs[m]):=by rw [lift Wb _ (by rw [h2 m hlt];rfl)];exact h2 m hlt
   have hold:wr.cell? ⟨w.heap.size,m,none⟩ = some (A'[m]'(by omega)):=by rw [arr_cell hpar',Array.getElem?_eq_getElem (by omega)]
   have hfz:=arr_frozen hpar'
   have hset:=arr_set hpar' m (.float .f32 xs[m])
   have hb3:=Wb.setCell (p:=⟨w.heap.size,m,none⟩) (Nat.le_refl _) (Value.float .f32 xs[m])
   have hnew:Hid (∀ k (h:k < xs.length),k < m + 1 → (A'.setIfInBounds m (.float .f32 xs[m]))[k]? = some (.float .f32 xs[k])):=fun k h hkm => by
    by_cases hkm':k = m
    ·subst hkm'
     rw [Array.getElem?_setIfInBounds_self_of_lt (by omega)]
    ·rw [Array.getElem?_setIfInBounds_ne (by omega)]
     exact hk k h (by omega)
   have hH:=Lib.hid hset
   clear hk hset hpar' h2 h1
   generalize xs[m] = xv at hc hb3 hH hnew
   go_wp2_with fail
   exact ⟨⟨m + 1,_,by omega,by simp,by simpa using hA',hH.out,hnew.out,hb3⟩,by simp [intOf];omega⟩
  ·obtain rfl:m = xs.length:=by omega
   have hH:=Lib.hid hk
   have hP:=Lib.hid hpar'
   clear hk hpar' h1 h2
   go_wp2_with fail
   go_ret
   exact ⟨w.heap.size,rfl,fun i hi => by rw [Nat.zero_add,arr_cell hP.out];exact hH.out i hi hi,Nat.le_refl _,Wb⟩
end Go.Proofs.YtbiacfkiakddiaaGreat
