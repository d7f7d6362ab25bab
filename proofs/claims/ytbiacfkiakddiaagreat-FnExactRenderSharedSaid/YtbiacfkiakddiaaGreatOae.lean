/-
 Lemmas: Qs,Qt,Rt.
-/
import Derived.Test.YtbiacfkiakddiaaGreatOaa
import Derived.Test.YtbiacfkiakddiaaGreatOac
import Derived.BigRegion
import Derived.Carry
import Derived.ChangeAlike
import Derived.ChangeSame
import Derived.Deep.AppendLies
import Derived.Deep.DeepCutAuto
import Derived.Deep.Fields
import Derived.Deep.Onto
import Derived.Deep.RegionHeld
import Derived.Deep.Slices
import Derived.KernelRfl
import Derived.Laws.FloatArith
import Derived.Laws.MakeOwn
import Derived.Lib.Hide
import Derived.OpenShut
import Derived.Outline
import Derived.OwnWalk
import Derived.ProofKit
import Derived.RegionTactic
import Derived.Test.YtbiacfkiakddiaaGreatChecked
import Derived.Test.YtbiacfkiakddiaaGreatRows
set_option linter.unusedVariables false
set_option linter.unusedSimpArgs false
namespace Go.Qr
open Go
section
variable {P:Program} {ops:Array Oper} {md:Region.Mode} {C0 C1:World → Prop} {Phi:FuncId → Array Value → Value → Prop} {s:Nat}
/-- One operation;if it may come late,in both classes. -/
def oneL (P:Program) (C0 C1:World → Prop) (Phi:FuncId → Array Value → Value → Prop) (late:Bool) (o:Oper) (a:Act) (next:Act → Prop):Prop :=
 ∃ R:Value → Prop,((∀ w,C0 w → atw P C0 Phi o a w R) ∧ (late = true → ∀ w,C1 w → atw P C1 Phi o a w R)) ∧ ∀ v,R v → next (a.put o.dst v)

/-- The store. -/
def oneS (P:Program) (C0 C1:World → Prop) (o:Oper) (a:Act) (next:Act → Prop):Prop :=
 (∀ w,C0 w → ∃ w',(execOp a.eval o).run P w = .ok .skip w' ∧ C1 w') ∧ next (a.put o.dst undef)

/-- May it come late? -/
def lateB (md:Region.Mode) (ops:Array Oper) (s i:Nat):Bool:=!Region.waitsFor md ops s i

def walkL (P:Program) (md:Region.Mode) (ops:Array Oper) (s:Nat) (C0 C1:World → Prop) (Phi:FuncId → Array Value → Value → Prop) (Q:Act → Prop):Nat → List Oper → Act → Prop
 | _,[],a => Q a
 | k,o :: rest,a => if k = s then oneS P C0 C1 o a (walkL P md ops s C0 C1 Phi Q (k + 1) rest) else oneL P C0 C1 Phi (lateB md ops s k) o a (walkL P md ops s C0 C1 Phi Q (k + 1) rest)

def opAtL (P:Program) (md:Region.Mode) (ops:Array Oper) (s:Nat) (C0 C1:World → Prop) (Phi:FuncId → Array Value → Value → Prop) (i:Nat) (K:Act → Prop) (a:Act):Prop :=
 match ops[i]? with
 | none => K a
 | some o => if i = s then oneS P C0 C1 o a K else oneL P C0 C1 Phi (lateB md ops s i) o a K

theorem oneL_mono {l:Bool} {o:Oper} {a:Act} {K K':Act → Prop} (h:∀ a,K a → K' a) (hh:oneL P C0 C1 Phi l o a K):oneL P C0 C1 Phi l o a K' :=
 let ⟨R,h1,h2⟩:=hh
 ⟨R,h1,fun v hv => h _ (h2 v hv)⟩

theorem opAtL_mono {i:Nat} {a:Act} {K K':Act → Prop} (h:∀ a,K a → K' a) (hh:opAtL P md ops s C0 C1 Phi i K a):opAtL P md ops s C0 C1 Phi i K' a:=by
 cases ho:ops[i]? with
 | none => simp only [opAtL,ho] at hh ⊢;exact h _ hh
 | some o =>
  simp only [opAtL,ho] at hh ⊢
  by_cases hi:i = s
  ·rw [if_pos hi] at hh ⊢;exact ⟨hh.1,h _ hh.2⟩
  ·rw [if_neg hi] at hh ⊢;exact oneL_mono h hh

def YieldsL (P:Program) (C0 C1:World → Prop) (Phi:FuncId → Array Value → Value → Prop) (l:Bool) (o:Oper) (R:Value → Prop) (a:Act):Prop :=
 (∀ w,C0 w → atw P C0 Phi o a w R) ∧ (l = true → ∀ w,C1 w → atw P C1 Phi o a w R)

theorem yieldsL_some {l:Bool} {o:Oper} {R:Value → Prop} {a:Act} {w0:World} (h0:C0 w0) (hg:o.guard = none) (hy:YieldsL P C0 C1 Phi l o R a):∃ v,R v :=
 Yields.some (ops:=#[]) h0 (.inl ⟨by simp [Region.wanted,hg],hy.1⟩)

theorem atw_same {C:World → Prop} {o:Oper} {R:Value → Prop} {a a':Act} {w:World} (h:atw P C Phi o a w R) (he:execOp a'.eval o = execOp a.eval o):atw P C Phi o a' w R:=by
 unfold atw at *
 rw [he]
 exact h

theorem opAtL_put {l:Bool} {j:Nat} {oi oj:Oper} {R:Value → Prop} (hj:ops[j]? = some oj) (hap:oi.apart ops oj = true)
  (hsi:∀ cs b,oi.op ≠ .select cs b) (hsj:∀ cs b,oj.op ≠ .select cs b) {w0:World} (h0:C0 w0) (hgi:oi.guard = none) {K:Act → Prop} {a:Act}
  (hy:YieldsL P C0 C1 Phi l oi R a) (h:∀ v,R v → opAtL P md ops s C0 C1 Phi j K (a.put oi.dst v)) :
  opAtL P md ops s C0 C1 Phi j (fun a' => YieldsL P C0 C1 Phi l oi R a' ∧ ∀ v,R v → K (a'.put oi.dst v)) a:=by
 obtain ⟨h1,h2,h3⟩:=Oper.apart_spec hap
 have keep:∀ u,YieldsL P C0 C1 Phi l oi R (a.put oj.dst u):=fun u =>
  ⟨fun w hw => atw_same (hy.1 w hw) (execOp_put oi hsi a oj.dst u h3),fun hl w hw => atw_same (hy.2 hl w hw) (execOp_put oi hsi a oj.dst u h3)⟩
 obtain ⟨v0,hv0⟩:=yieldsL_some h0 hgi hy
 simp only [opAtL,hj] at h ⊢
 by_cases hjs:j = s
 ·rw [if_pos hjs]
  refine ⟨fun w hw => ?_,keep _,fun v hv => ?_⟩
  ·have hh:=h v0 hv0
   rw [if_pos hjs] at hh
   obtain ⟨w',e,hc⟩:=hh.1 w hw
   exact ⟨w',by rw [← execOp_put oj hsj a oi.dst v0 h1];exact e,hc⟩
  ·have hh:=h v hv
   rw [if_pos hjs] at hh
   rw [← Act.put_comm a v undef h2]
   exact hh.2
 ·rw [if_neg hjs]
  have hx:∀ x:{v // R v},∃ S:Value → Prop,((∀ w,C0 w → atw P C0 Phi oj a w S) ∧ (lateB md ops s j = true → ∀ w,C1 w → atw P C1 Phi oj a w S)) ∧ ∀ u,S u → K ((a.put oi.dst x.1).put oj.dst u):=fun x => by
   have hh:=h x.1 x.2
   rw [if_neg hjs] at hh
   obtain ⟨S,s1,s2⟩:=hh
   exact ⟨S,⟨fun w hw => atw_same (s1.1 w hw) (execOp_put oj hsj a oi.dst x.1 h1).symm,fun hl w hw => atw_same (s1.2 hl w hw) (execOp_put oj hsj a oi.dst x.1 h1).symm⟩,s2⟩
  have hS:=fun x => Classical.choose_spec (hx x)
  refine ⟨fun u => ∀ x:{v // R v},Classical.choose (hx x) u,⟨fun w hw => atw_inter ⟨v0,hv0⟩ fun x => (hS x).1.1 w hw,fun hl w hw => atw_inter ⟨v0,hv0⟩ fun x => (hS x).1.2 hl w hw⟩,fun u hu => ⟨keep u,fun v hv => ?_⟩⟩
  rw [← Act.put_comm a v u h2]
  exact (hS ⟨v,hv⟩).2 u (hu ⟨v,hv⟩)

def anyOrderL (P:Program) (md:Region.Mode) (ops:Array Oper) (s:Nat) (C0 C1:World → Prop) (Phi:FuncId → Array Value → Value → Prop) (n:Nat) (L:Array Bool → Act → Prop):Nat → Array Bool → Act → Prop
 | 0,listed,a => L listed a
 | f + 1,listed,a =>
  Region.ready md ops listed ≠ [] ∧ ∀ i ∈ Region.ready md ops listed,i < n ∧ opAtL P md ops s C0 C1 Phi i (anyOrderL P md ops s C0 C1 Phi n L f (listed.setIfInBounds i true)) a

theorem yieldsL_opAt {i:Nat} {o:Oper} {R:Value → Prop} {a:Act} (hi:ops[i]? = some o) (his:i ≠ s) (hy:YieldsL P C0 C1 Phi (lateB md ops s i) o R a) {K:Act → Prop} (h:∀ v,R v → K (a.put o.dst v)):opAtL P md ops s C0 C1 Phi i K a:=by
 simp only [opAtL,hi,if_neg his]
 exact ⟨R,hy,h⟩

theorem anyOrderL_first {n i:Nat} {oi:Oper} {R:Value → Prop} {L:Array Bool → Act → Prop} (hi:ops[i]? = some oi) (hsel:∀ (j:Nat) (o:Oper) cs b,ops[j]? = some o → o.op ≠ .select cs b)
  (hw:∀ listed,HeadInv md ops n listed → ∀ i,i < n → listed.getD i true = false → ∀ t,n ≤ t → t ∉ Region.ready md ops listed) (hin:i < n) (his:i ≠ s) (hgi:oi.guard = none) {w0:World} (h0:C0 w0)
  (hdone:∀ listed a,L listed a → ∀ j ∈ Region.ready md ops listed,n ≤ j) :
  ∀ (f:Nat) (listed:Array Bool) (a:Act),HeadInv md ops n listed →
   (∀ j oj,ops[j]? = some oj → j ≠ i → listed.getD j true = false → (∀ e ∈ oj.after,Region.binds md e = true → e.on ≠ i) → oi.apart ops oj = true) →
   i ∈ Region.ready md ops listed → YieldsL P C0 C1 Phi (lateB md ops s i) oi R a →
   (∀ v,R v → anyOrderL P md ops s C0 C1 Phi n L f (listed.setIfInBounds i true) (a.put oi.dst v)) → anyOrderL P md ops s C0 C1 Phi n L (f + 1) listed a:=by
 intro f
 induction f with
 | zero =>
  intro listed a inv _ hr hy H
  have hun:=(mem_ready.1 hr).1
  refine ⟨fun h => (by rw [h] at hr;cases hr),fun j hj => ?_⟩
  have hjn:j < n:=Nat.lt_of_not_le fun h => hw _ inv i hin hun j h hj
  refine ⟨hjn,?_⟩
  by_cases hji:j = i
  ·subst hji;exact yieldsL_opAt hi his hy H
  ·obtain ⟨v,hv⟩:=yieldsL_some h0 hgi hy
   exact absurd (hdone _ _ (H v hv) j (ready_mono hj hji)) (by omega)
 | succ f ih =>
  intro listed a inv hfree hr hy H
  have hun:=(mem_ready.1 hr).1
  refine ⟨fun h => (by rw [h] at hr;cases hr),fun j hj => ?_⟩
  have hjn:j < n:=Nat.lt_of_not_le fun h => hw _ inv i hin hun j h hj
  refine ⟨hjn,?_⟩
  by_cases hji:j = i
  ·subst hji;exact yieldsL_opAt hi his hy H
  ·have h1:=fun v hv => ((H v hv).2 j (ready_mono hj hji)).2
   obtain ⟨hjun,oj,hoj,hall⟩:=mem_ready.1 hj
   have hnot:∀ e ∈ oj.after,Region.binds md e = true → e.on ≠ i:=fun e he hb heq => by
    have h1:=hall e he hb
    rw [heq,getD_both hun] at h1
    cases h1
   have h2:=opAtL_put hoj (hfree j oj hoj hji hjun hnot) (fun cs b => hsel i oi cs b hi) (fun cs b => hsel j oj cs b hoj) h0 hgi hy h1
   have hfree':∀ k ok,ops[k]? = some ok → k ≠ i → (listed.setIfInBounds j true).getD k true = false →
     (∀ e ∈ ok.after,Region.binds md e = true → e.on ≠ i) → oi.apart ops ok = true:=fun k ok hk hki hun hno => by
    refine hfree k ok hk hki ?_ hno
    by_cases hjk:j = k
    ·subst hjk;exact hjun
    ·rw [getD_set_ne true hjk] at hun;exact hun
   refine opAtL_mono (fun a' h3 => ih (listed.setIfInBounds j true) a' (inv.set hj hjn) hfree' (ready_mono hr (Ne.symm hji)) h3.1 fun v hv => ?_) h2
   rw [Array.setIfInBounds_comm _ _ hji]
   exact h3.2 v hv

/-- The order of the head can be gone through in the text's order;the store alone is left last. -/
def lexS (md:Region.Mode) (ops:Array Oper) (g:Nat):Nat → Nat → Array Bool → Bool
 | 0,_,_ => false
 | 1,k,listed => decide (Region.ready md ops listed = [k]) && Region.seqB md ops g (k + 1) (listed.setIfInBounds k true)
 | f + 2,k,listed => (Region.ready md ops listed).contains k && Region.free md ops listed k && lexS md ops g (f + 1) (k + 1) (listed.setIfInBounds k true)

theorem anyOrderL_lex {n g:Nat} {Lq:Act → Prop} (hsel:Region.noSelect ops = true) (hw:∀ listed,HeadInv md ops n listed → ∀ i,i < n → listed.getD i true = false → ∀ t,n ≤ t → t ∉ Region.ready md ops listed) {w0:World} (h0:C0 w0)
  (hs:s + 1 = n) (hg:∀ i o,i < n → ops[i]? = some o → o.guard = none) :
  ∀ (l:List Oper) (k:Nat) (listed:Array Bool) (a:Act),(∀ j,j < l.length → l[j]? = ops[k + j]?) → k + l.length = n → HeadInv md ops n listed →
  lexS md ops g l.length k listed = true → walkL P md ops s C0 C1 Phi Lq k l a →
  anyOrderL P md ops s C0 C1 Phi n (fun listed' a' => Region.seqB md ops g n listed' = true ∧ Lq a') l.length listed a
 | [],k,listed,a,_,hk,_,hB,h => by simp [lexS] at hB
 | [o],k,listed,a,hl,hk,inv,hB,h => by
  have ho:ops[k]? = some o:=by simpa using (hl 0 (by simp)).symm
  have hk:k + 1 = n:=by simpa using hk
  have hks:k = s:=by omega
  simp only [List.length_cons,List.length_nil,Nat.zero_add,lexS,Bool.and_eq_true,decide_eq_true_eq] at hB
  refine ⟨by rw [hB.1];simp,fun i hi => ?_⟩
  rw [hB.1] at hi
  have hik:i = k:=by simpa using hi
  subst hik
  refine ⟨by omega,?_⟩
  unfold opAtL
  simp only [ho,if_pos hks]
  simp only [walkL,if_pos hks] at h
  exact ⟨h.1,by rw [← hk];exact hB.2,h.2⟩
 | o :: o2 :: l,k,listed,a,hl,hk,inv,hB,h => by
  have ho:ops[k]? = some o:=by simpa using (hl 0 (by simp)).symm
  simp only [List.length_cons,lexS,Bool.and_eq_true] at hB
  obtain ⟨⟨hr,hf⟩,hB'⟩:=hB
  have hkn:k + 1 < n:=by simp only [List.length_cons] at hk;omega
  have hks:k ≠ s:=by omega
  have hr':k ∈ Region.ready md ops listed:=by simpa using hr
  simp only [walkL,if_neg hks] at h
  obtain ⟨R,hy,hK⟩:=h
  exact anyOrderL_first ho (Region.noSelect_spec hsel) hw (by omega) hks (hg k o (by omega) ho) h0 (fun listed' a' hL => seqB_ready hL.1) (o2 :: l).length listed a inv (Region.free_spec ho hf) hr' hy
   fun v hv => anyOrderL_lex hsel hw h0 hs hg (o2 :: l) (k + 1) _ _ (fun j hj => by have:=hl (j + 1) (by simp at hj ⊢;omega);simpa [Nat.add_assoc,Nat.add_comm 1 j] using this) (by simp only [List.length_cons] at hk ⊢;omega) (inv.set hr' (by omega)) hB' (by simpa only [walkL] using hK v hv)

theorem wpAny_of_anyOrderL {n g:Nat} {L:Array Bool → Act → Prop} {Q':Exit → Act → World → Prop} (hL:∀ listed a w,HeadInv md ops n listed → (if listed.getD s false = true then C1 w else C0 w) → L listed a → wpAny P md ops Q' g listed a w)
  (hg:∀ i o,i < n → ops[i]? = some o → o.guard = none) :
  ∀ (f:Nat) (listed:Array Bool) (a:Act) (w:World),HeadInv md ops n listed → (if listed.getD s false = true then C1 w else C0 w) → anyOrderL P md ops s C0 C1 Phi n L f listed a → wpAny P md ops Q' (f + g) listed a w
 | 0,listed,a,w,inv,hw,h => by rw [Nat.zero_add];exact hL _ _ _ inv hw h
 | f + 1,listed,a,w,inv,hw,h => by
  rw [show f + 1 + g = (f + g) + 1 by omega]
  refine ⟨fun h0 => absurd h0 h.1,fun i hi => ?_⟩
  obtain ⟨hin,hop⟩:=h.2 i hi
  obtain ⟨hun,o,ho,hall⟩:=mem_ready.1 hi
  have hwn:Region.wanted o (yielded ops a.tmps) = true:=by simp [Region.wanted,hg i o hin ho]
  unfold wpOp
  simp only [opAtL,ho] at hop ⊢
  rw [if_pos hwn]
  refine .inl ?_
  by_cases his:i = s
  ·rw [if_pos his] at hop
   have hl0:listed.getD s false = false:=by rw [← his];exact getD_both hun
   rw [hl0,if_neg (by decide)] at hw
   obtain ⟨w',e,hc⟩:=hop.1 w hw
   unfold Oper.wp
   rw [e]
   refine wpAny_of_anyOrderL hL hg f _ _ w' (inv.set hi hin) ?_ hop.2
   have hlt:i < listed.size:=by rw [inv.size];exact (Array.getElem?_eq_some_iff.1 ho).1
   have:(listed.setIfInBounds i true).getD s false = true:=by
    rw [← his,Array.getD_eq_getD_getElem?,Array.getElem?_setIfInBounds_self_of_lt hlt];rfl
   rw [this,if_pos rfl];exact hc
  ·rw [if_neg his] at hop
   obtain ⟨R,hy,hK⟩:=hop
   have hset:(listed.setIfInBounds i true).getD s false = listed.getD s false:=getD_set_ne false his
   by_cases hl:listed.getD s false = true
   ·rw [hl,if_pos rfl] at hw
    have hlate:lateB md ops s i = true:=by
     unfold lateB
     cases hwf:Region.waitsFor md ops s i with
     | false => rfl
     | true =>
      obtain ⟨os,hos,e,he,hb,hon⟩:=Region.waitsFor_spec hwf
      have:=inv.closed s os hos hl e he hb
      rw [hon,getD_both hun] at this
      cases this
    exact wp_of_one (C:=C1) (Phi:=Phi) hw (fun a' w' hw' hk => wpAny_of_anyOrderL hL hg f _ a' w' (inv.set hi hin) (by rw [hset,hl,if_pos rfl];exact hw') hk) ⟨R,hy.2 hlate,hK⟩
   ·rw [if_neg hl] at hw
    exact wp_of_one (C:=C0) (Phi:=Phi) hw (fun a' w' hw' hk => wpAny_of_anyOrderL hL hg f _ a' w' (inv.set hi hin) (by rw [hset,if_neg hl];exact hw') hk) ⟨R,hy.1,hK⟩

/-- THE REGION: the head of n operations,the last of them the store;then the tail. -/
theorem wp_regionL {id:Nat} {Q:Exit → Act → World → Prop} {a:Act} {w:World} {l:List Oper} (n:Nat) (hm:P.follows .mixedOrders = true)
  (hB:(Region.noSelect l.toArray && decide (n + 1 < l.toArray.size) && Region.sinkB .any l.toArray (n + 1) && Region.chainB .any l.toArray (n + 1) && lexS .any l.toArray (l.toArray.size - (n + 1)) (n + 1) 0 (Array.replicate l.toArray.size false)) = true)
  (C0 C1:World → Prop) (Phi:FuncId → Array Value → Value → Prop) (hC:C0 { w with drawn:=w.drawn + 1 }) (hg:((l.take (n + 1)).all fun o => o.guard.isNone) = true)
  (h:walkL P .any l.toArray n C0 C1 Phi (fun a' => ∀ w',C1 w' → wpList P l.toArray Q (l.drop (n + 1)) a' w') 0 (l.take (n + 1)) a):(Code.region id l.toArray true).wp P Q a w:=by
 simp only [Bool.and_eq_true,decide_eq_true_eq] at hB
 obtain ⟨⟨⟨⟨hsel,hn⟩,hs⟩,hc⟩,hlex⟩:=hB
 have hn':n + 1 < l.length:=by simpa using hn
 have htl:(l.take (n + 1)).length = n + 1:=by simp;omega
 have hdl:(l.drop (n + 1)).length = l.toArray.size - (n + 1):=by simp
 have inv0:HeadInv .any l.toArray (n + 1) (Array.replicate l.toArray.size false) :=
  ⟨by simp,fun j oj _ hl => (by rw [getD_replicate_false] at hl;cases hl),fun t _ ht => getD_in (by simpa using ht) (getD_replicate_false _ _)⟩
 have hgg:∀ i o,i < n + 1 → l.toArray[i]? = some o → o.guard = none:=fun i o hi ho => by
  have h1:=List.all_eq_true.1 hg o (List.mem_of_getElem? (i:=i) (by rw [List.getElem?_take,if_pos hi];simpa using ho))
  exact Option.isNone_iff_eq_none.1 h1
 have hw:=fun listed (inv:HeadInv .any l.toArray (n + 1) listed) i hi hun => tail_waits hs hc hn inv _ i rfl hi hun
 have H:=anyOrderL_lex (md:=.any) (g:=l.toArray.size - (n + 1)) hsel hw hC rfl hgg (l.take (n + 1)) 0 _ a (fun j hj => by
  have hj':j < n + 1:=by rw [htl] at hj;exact hj
  simp [hj']) (by simpa using htl) inv0 (by rw [htl];exact hlex) h
 refine wp_region_any hm ?_
 have:=wpAny_of_anyOrderL (Q':=Q) (g:=l.toArray.size - (n + 1)) (fun listed a' w' inv hw' hL => by
  have hall:listed.getD n false = true:=by
   cases hb:listed.getD n false with
   | true => rfl
   | false =>
    exfalso
    have hsz:n < listed.size:=by rw [inv.size];simp;omega
    have hr:n + 1 ∈ Region.ready .any l.toArray listed:=by
     have h2:=hL.1
     rw [show l.toArray.size - (n + 1) = (l.toArray.size - (n + 1) - 1) + 1 by omega] at h2
     simp only [Region.seqB,Bool.and_eq_true,decide_eq_true_eq] at h2
     rw [h2.1];simp
    exact hw listed inv n (by omega) (getD_in hsz hb) (n + 1) (Nat.le_refl _) hr
  rw [hall,if_pos rfl] at hw'
  have:=wpAny_of_seq (md:=.any) (Q':=Q) (l.drop (n + 1)) (n + 1) listed a' w' (fun j => by simp [List.getElem?_drop]) (by rw [hdl];exact hL.1) (hL.2 w' hw')
  rwa [hdl] at this) hgg _ _ _ _ inv0 (by rw [getD_replicate_false,if_neg (by decide)];exact hC) H
 rw [htl,show n + 1 + (l.toArray.size - (n + 1)) = l.toArray.size by omega] at this
 exact this

theorem walkL_step {Q:Act → Prop} {a:Act} {o:Oper} {rest:List Oper} {k:Nat} {b:Bool} (hk:(k == s) = false) (hb:lateB md ops s k = b)
  (h:∀ K:Act → Prop,(∀ a,walkL P md ops s C0 C1 Phi Q (k + 1) rest a → K a) → oneL P C0 C1 Phi b o a K):walkL P md ops s C0 C1 Phi Q k (o :: rest) a:=by
 have hk':k ≠ s:=by simpa using hk
 simp only [walkL,if_neg hk',hb]
 exact h _ fun _ h => h
theorem walkL_store {Q:Act → Prop} {a:Act} {o:Oper} {rest:List Oper} {k:Nat} (hk:(k == s) = true)
  (h:∀ K:Act → Prop,(∀ a,walkL P md ops s C0 C1 Phi Q (k + 1) rest a → K a) → oneS P C0 C1 o a K):walkL P md ops s C0 C1 Phi Q k (o :: rest) a:=by
 have hk':k = s:=by simpa using hk
 simp only [walkL,if_pos hk']
 exact h _ fun _ h => h
theorem walkL_nil {Q:Act → Prop} {a:Act} {k:Nat} (h:Q a):walkL P md ops s C0 C1 Phi Q k [] a:=h

/-- An operation that must come ahead of the store: as elsewhere. -/
theorem oneL_early {o:Oper} {a:Act} {K:Act → Prop} (h:one P C0 Phi o a K):oneL P C0 C1 Phi false o a K:=by
 obtain ⟨R,h1,h2⟩:=h
 exact ⟨R,⟨h1,fun hf => by cases hf⟩,h2⟩
/-- One that yields one value in every world. -/
theorem oneL_det {o:Oper} {a:Act} {K:Act → Prop} {v:Value} {b:Bool} (h:∀ w,(execOp a.eval o).run P w = .ok (.value v) w) (hk:K (a.put o.dst v)):oneL P C0 C1 Phi b o a K:=by
 refine ⟨fun x => x = v,⟨fun w hw => ?_,fun _ w hw => ?_⟩,fun x hx => by rw [hx];exact hk⟩
 all_goals
  unfold atw
  rw [h w]
  exact ⟨⟨hw,Go.RowKit.Below.refl _ _⟩,rfl⟩
end
end Go.Qr

namespace Go.Qr
open Go
section
variable {P:Program} {ops:Array Oper} {md:Region.Mode} {C:World → Prop} {Phi:FuncId → Array Value → Value → Prop}
/-- What an operation has come to;of a call,its word. -/
def came2 (P:Program) (Phi:FuncId → Array Value → Value → Prop) (o:Oper) (a:Act) (w:World) (v:Value) (w':World):Prop :=
 Go.RowKit.Below w.heap.size w w' ∧ ((execOp a.eval o).run P w = .ok (.value v) w' ∨ (∃ f args w1,(execOp a.eval o).run P w = .ok (.enter f args) w1 ∧ Phi f args v) ∨ (∃ w1,(execOp a.eval o).run P w = .ok .skip w1))

theorem wp_of_oneF {E:Act → World → Prop} {o:Oper} {a:Act} {K:Act → Prop} {K':Act → World → Prop} {Q':Exit → Act → World → Prop} {w:World} (hw:C w)
  (hE:∀ v w',came2 P Phi o a w v w' → E (a.put o.dst v) w') (h:∀ v w',C w' → E (a.put o.dst v) w' → K (a.put o.dst v) → K' (a.put o.dst v) w') (hh:one P C Phi o a K):o.wp P a w K' Q':=by
 obtain ⟨R,h1,h2⟩:=hh
 have h3:=h1 w hw
 unfold atw at h3
 unfold came2 at hE
 unfold Oper.wp
 generalize (execOp a.eval o).run P w = r at h3 hE ⊢
 cases r with
 | ok n w' =>
  cases n with
  | value u => exact h _ _ h3.1.1 (hE _ _ ⟨h3.1.2,.inl rfl⟩) (h2 u h3.2)
  | skip => exact h _ _ h3.1.1 (hE _ _ ⟨h3.1.2,.inr (.inr ⟨_,rfl⟩)⟩) (h2 _ h3.2)
  | enter f args => exact h3.2.1.mono fun e w'' ⟨v,he,hp,hc,hl⟩ => by subst he;exact h _ _ hc (hE _ _ ⟨h3.1.2.trans (hl.mono h3.1.2.size),.inr (.inl ⟨f,args,w',rfl,hp⟩)⟩) (h2 v (h3.2.2 v hp))
  | _ => exact h3.elim
 | halt x w' => exact h3.elim

theorem wpAny_of_anyOrderF {E:Array Bool → Act → World → Prop} {n g:Nat} {L:Array Bool → Act → Prop} {Q':Exit → Act → World → Prop} (hL:∀ listed a w,C w → E listed a w → L listed a → wpAny P md ops Q' g listed a w)
  (hE:∀ i o a w v w' listed,i < n → ops[i]? = some o → i ∈ Region.ready md ops listed → C w → E listed a w → came2 P Phi o a w v w' → E (listed.setIfInBounds i true) (a.put o.dst v) w') (hg:∀ i o,i < n → ops[i]? = some o → o.guard = none) :
  ∀ (f:Nat) (listed:Array Bool) (a:Act) (w:World),C w → E listed a w → anyOrder P md ops C Phi n L f listed a → wpAny P md ops Q' (f + g) listed a w
 | 0,listed,a,w,hw,he,h => by rw [Nat.zero_add];exact hL _ _ _ hw he h
 | f + 1,listed,a,w,hw,he,h => by
  rw [show f + 1 + g = (f + g) + 1 by omega]
  refine ⟨fun h0 => absurd h0 h.1,fun i hi => ?_⟩
  obtain ⟨hin,hop⟩:=h.2 i hi
  unfold wpOp
  cases ho:ops[i]? with
  | none =>
   obtain ⟨_,o,ho',_⟩:=mem_ready.1 hi
   rw [ho] at ho';cases ho'
  | some o =>
   simp only [opAt,ho] at hop ⊢
   have hwn:Region.wanted o (yielded ops a.tmps) = true:=by simp [Region.wanted,hg i o hin ho]
   rw [if_pos hwn] at hop;rw [if_pos hwn]
   exact .inl (wp_of_oneF hw (fun v w' hc => hE i o a w v w' listed hin ho hi hw he hc) (fun v w' hw' he' hk => wpAny_of_anyOrderF hL hE hg f _ _ w' hw' he' hk) hop)

theorem wp_regionF {id:Nat} {Q:Exit → Act → World → Prop} {a:Act} {w:World} {l:List Oper} (n:Nat) (hm:P.follows .mixedOrders = true) (hB:Region.lexTailB .any l.toArray n = true)
  (C:World → Prop) (Phi:FuncId → Array Value → Value → Prop) (E:Array Bool → Act → World → Prop) (hC:C { w with drawn:=w.drawn + 1 }) (hE0:E (Array.replicate l.toArray.size false) a { w with drawn:=w.drawn + 1 })
  (hE:∀ i o a w v w' listed,i < n → l[i]? = some o → i ∈ Region.ready .any l.toArray listed → C w → E listed a w → came2 P Phi o a w v w' → E (listed.setIfInBounds i true) (a.put o.dst v) w') (hg:((l.take n).all fun o => o.guard.isNone) = true)
  (h:walk P l.toArray C Phi (fun a' => ∀ w',C w' → (∃ listed,n ∈ Region.ready .any l.toArray listed ∧ E listed a' w') → wpList P l.toArray Q (l.drop n) a' w') (l.take n) a):(Code.region id l.toArray true).wp P Q a w:=by
 simp only [Region.lexTailB,Bool.and_eq_true,decide_eq_true_eq] at hB
 obtain ⟨⟨⟨⟨hsel,hn⟩,hs⟩,hc⟩,hlex⟩:=hB
 have hn':n < l.length:=by simpa using hn
 have htl:(l.take n).length = n:=by simp;omega
 have hdl:(l.drop n).length = l.toArray.size - n:=by simp
 have inv0:HeadInv .any l.toArray n (Array.replicate l.toArray.size false) :=
  ⟨by simp,fun j oj _ hl => (by rw [getD_replicate_false] at hl;cases hl),fun t _ ht => getD_in (by simpa using ht) (getD_replicate_false _ _)⟩
 have H:=anyOrder_lex (md:=.any) (g:=l.toArray.size - n) hsel (fun listed inv i hi hun => tail_waits hs hc hn inv _ i rfl hi hun) hC (l.take n) 0 _ a (fun j hj => by
  have hj':j < n:=by rw [htl] at hj;exact hj
  simp [hj']) (by simpa using htl) inv0 (by rw [htl];exact hlex) h
 refine wp_region_any hm ?_
 have:=wpAny_of_anyOrderF (Q':=Q) (E:=E) (g:=l.toArray.size - n) (fun listed a' w' hw' he hL => by
  have:=wpAny_of_seq (md:=.any) (Q':=Q) (l.drop n) n listed a' w' (fun j => by simp [List.getElem?_drop]) (by rw [hdl];exact hL.1) (hL.2 w' hw' ⟨_,by
   have h1:=hL.1
   obtain ⟨g',hg'⟩:∃ g',l.toArray.size - n = g' + 1:=⟨l.toArray.size - n - 1,by simp;omega⟩
   rw [hg'] at h1
   simp only [Region.seqB,Bool.and_eq_true,decide_eq_true_eq] at h1
   rw [h1.1];simp,he⟩)
  rwa [hdl] at this) (fun i o a w v w' listed hi ho => hE i o a w v w' listed hi (by simpa using ho)) (fun i o hi ho => by
   have h1:=List.all_eq_true.1 hg o (List.mem_of_getElem? (i:=i) (by rw [List.getElem?_take,if_pos hi];simpa using ho))
   exact Option.isNone_iff_eq_none.1 h1) _ _ _ _ hC hE0 H
 rw [htl,show n + (l.toArray.size - n) = l.toArray.size by omega] at this
 exact this

theorem walk_weaken {Q Q':Act → Prop} (hq:∀ a,Q a → Q' a):∀ {l:List Oper} {a:Act},walk P ops C Phi Q l a → walk P ops C Phi Q' l a
 | [],_,h => hq _ h
 | o :: rest,a,h => by
  unfold walk at h ⊢
  by_cases hw:Region.wanted o (yielded ops a.tmps) = true
  ·rw [if_pos hw] at h ⊢;exact one_mono (fun _ h => walk_weaken hq h) h
  ·rw [if_neg hw] at h ⊢;exact walk_weaken hq h

/-- Slot d is a new slice of one cell,of R. -/
def MadeS (W:World) (d:Tmp) (R:Value → Prop) (T:TypeId) (a:Act) (w:World):Prop :=
 ∃ g v,a.tmps.getD d undef = .slice (some ⟨g,0,none⟩) 1 1 ∧ W.heap.size ≤ g ∧ R v ∧ w.heap[g]? = some (.cells #[v] T (0,0))

theorem put_size (a:Act) (x:Option Tmp) (v:Value):(a.put x v).tmps.size = a.tmps.size:=by
 cases x with
 | none => rfl
 | some y => simp [Act.put]

theorem getD_put_self (a:Act) (d:Tmp) (v:Value) (h:d < a.tmps.size):(a.put (some d) v).tmps.getD d undef = v:=by
 simp only [Act.put,Array.getD_eq_getD_getElem?]
 rw [Array.getElem?_setIfInBounds_self_of_lt h]
 rfl

/-- THE REGION with a new slice of one cell,made by operation m in slot d of what call c has left in slot e. -/
theorem wp_madeS {id:Nat} {Q:Exit → Act → World → Prop} {a:Act} {w:World} {l:List Oper} (n m c:Nat) (d e:Tmp) (R:Value → Prop) (T:TypeId) (hm:P.follows .mixedOrders = true) (hB:Region.lexTailB .any l.toArray n = true)
  (Phi:FuncId → Array Value → Value → Prop) (hsz:d < a.tmps.size ∧ e < a.tmps.size)
  (hd:((List.range n).all fun i => i == m || ((l[i]?).bind (·.dst)) != some d) = true)
  (he:((List.range n).all fun i => i == c || ((l[i]?).bind (·.dst)) != some e) = true)
  (hdep:∃ om,l[m]? = some om ∧ (om.after.any fun x => x.on == c && Region.binds .any x) = true ∧ om.dst = some d ∧ ∀ (a:Act) (w:World) (v:Value),R v → a.tmps.getD e undef = v → (execOp a.eval om).run P w = .ok (.value (.slice (some ⟨w.heap.size,0,none⟩) 1 1)) (w.alloc (.cells #[v] T)))
  (hcall:∃ oc,l[c]? = some oc ∧ oc.dst = some e ∧ ∀ (a:Act) (w:World),∃ args f,(execOp a.eval oc).run P w = .ok (.enter f args) w)
  (hend:∃ on,l[n]? = some on ∧ (on.after.any fun x => x.on == m && Region.binds .any x) = true) (hphi:∀ f args v,Phi f args v → R v)
  (hg:((l.take n).all fun o => o.guard.isNone) = true)
  (h:walk P l.toArray (fun w' => Go.RowKit.Below w.heap.size w w') Phi (fun a' => ∀ w',Go.RowKit.Below w.heap.size w w' → MadeS w d R T a' w' → wpList P l.toArray Q (l.drop n) a' w') (l.take n) a):(Code.region id l.toArray true).wp P Q a w:=by
 refine wp_regionF n hm hB (fun w' => Go.RowKit.Below w.heap.size w w') Phi (fun listed a w' => (d < a.tmps.size ∧ e < a.tmps.size) ∧ (listed.getD c false = true → R (a.tmps.getD e undef)) ∧ (listed.getD m false = true → MadeS w d R T a w')) ((Go.RowKit.Below.refl _ _).drew)
  ⟨hsz,(fun h => by rw [getD_replicate_false] at h;cases h),(fun h => by rw [getD_replicate_false] at h;cases h)⟩ ?_ hg ?_
 ·intro i o a' w1 v w2 listed hi ho hready hw1 hE hc
  obtain ⟨hs,hE1,hE2⟩:=hE
  obtain ⟨om,hom,hdepm,hdstm,hrunm⟩:=hdep
  obtain ⟨oc,hoc,hdstc,hrunc⟩:=hcall
  refine ⟨by rw [put_size];exact hs,?_,?_⟩
  ·by_cases hic:i = c
   ·subst hic
    have:o = oc:=Option.some.inj (ho.symm.trans hoc)
    subst this
    intro _
    rw [hdstc,getD_put_self _ _ _ hs.2]
    obtain ⟨args,f,hr⟩:=hrunc a' w1
    rcases hc.2 with h1 | ⟨f',args',w3,h1,h2⟩ | ⟨w3,h1⟩
    ·rw [hr] at h1;cases h1
    ·exact hphi _ _ _ h2
    ·rw [hr] at h1;cases h1
   ·rw [getD_set_ne false hic]
    intro hl
    have hne:o.dst ≠ some e:=by
     have h1:=List.all_eq_true.1 he i (List.mem_range.2 hi)
     simp only [ho,Bool.or_eq_true,beq_iff_eq,bne_iff_ne,Option.bind_some] at h1
     rcases h1 with h1 | h1
     ·exact absurd h1 hic
     ·exact h1
    rw [getD_put _ _ _ _ hne]
    exact hE1 hl
  ·by_cases him:i = m
   ·subst him
    have:o = om:=Option.some.inj (ho.symm.trans hom)
    subst this
    obtain ⟨_,oj,hoj,hall⟩:=mem_ready.1 hready
    have:oj = o:=by
     have h1:l.toArray[i]? = some o:=by simpa using ho
     exact Option.some.inj (hoj.symm.trans h1)
    subst this
    obtain ⟨x,hx,hxc⟩:=Array.any_eq_true'.1 hdepm
    rw [Bool.and_eq_true,beq_iff_eq] at hxc
    have hlc:listed.getD c false = true:=by rw [← hxc.1];exact hall x hx hxc.2
    have hR:=hE1 hlc
    have hr:=hrunm a' w1 _ hR rfl
    rcases hc.2 with h1 | ⟨f',args',w3,h1,h2⟩ | ⟨w3,h1⟩
    ·rw [hr] at h1
     injection h1 with e1 e2
     injection e1 with e1
     subst e1;subst e2
     intro _
     exact ⟨w1.heap.size,_,by rw [hdstm,getD_put_self _ _ _ hs.1],hw1.size,hR,by show (w1.heap.push _)[w1.heap.size]? = _;simp⟩
    ·rw [hr] at h1;cases h1
    ·rw [hr] at h1;cases h1
   ·have hne:o.dst ≠ some d:=by
     have h1:=List.all_eq_true.1 hd i (List.mem_range.2 hi)
     simp only [ho,Bool.or_eq_true,beq_iff_eq,bne_iff_ne,Option.bind_some] at h1
     rcases h1 with h1 | h1
     ·exact absurd h1 him
     ·exact h1
    have hle:Go.RowKit.Below w1.heap.size w1 w2:=hc.1
    rw [getD_set_ne false him]
    intro hl
    obtain ⟨g,v',hg1,hg4,hg5,hg6⟩:=hE2 hl
    refine ⟨g,v',by rw [getD_put _ _ _ _ hne];exact hg1,hg4,hg5,?_⟩
    have hlt:g < w1.heap.size:=by
     rcases Nat.lt_or_ge g w1.heap.size with h' | h'
     ·exact h'
     ·rw [Array.getElem?_eq_none h'] at hg6;cases hg6
    rw [hle.block g hlt];exact hg6
 ·refine walk_weaken (fun a' h => ?_) h
  intro w' hw' ⟨listed,hr,hE⟩
  refine h w' hw' (hE.2.2 ?_)
  obtain ⟨on,hon,honm⟩:=hend
  obtain ⟨_,oj,hoj,hall⟩:=mem_ready.1 hr
  have:oj = on:=by
   have h1:l.toArray[n]? = some on:=by simpa using hon
   exact Option.some.inj (hoj.symm.trans h1)
  subst this
  obtain ⟨x,hx,hxm⟩:=Array.any_eq_true'.1 honm
  rw [Bool.and_eq_true,beq_iff_eq] at hxm
  rw [← hxm.1];exact hall x hx hxm.2

end
end Go.Qr

namespace Go.Proofs.YtbiacfkiakddiaaGreat
open Go.RowKit Go.Fl Go.ChangeShapes Go.WideShapes Go.ChangeAt
theorem trodAll_1 {H:Type} {enc:TypeId × Value → H} {P:Program} {w:World} {base:Nat} {spare:Nat → Bool} {held:Bool} {t0:TypeId} {args:Array Value} {ds:List (DataW H)} {ps:List MemPlace} (h:DataW.TrodAll enc P w base spare held [t0] args.toList ds ps) :
  ∃ v0 d0 p0,args = #[v0] ∧ ds = [d0] ∧ ps = p0 ++ [] ∧ DataW.Trod enc P w base spare held t0 v0 d0 p0:=by
 obtain ⟨v0,vs0,d0,ds0,p0,q0,hargs,rfl,rfl,hd0,hrest⟩:=trodAll_cons h
 obtain ⟨rfl,rfl,rfl⟩:=trodAll_nil hrest
 exact ⟨v0,d0,p0,by cases args;simp_all,rfl,rfl,hd0⟩

end Go.Proofs.YtbiacfkiakddiaaGreat
