/-
 Lemmas: Qr.
-/
import Derived.Below
import Derived.StillTail
set_option linter.unusedVariables false
set_option linter.unusedSimpArgs false
namespace Go.Qr
open Go
section
variable {P:Program} {ops:Array Oper} {md:Region.Mode} {C:World → Prop} {Phi:FuncId → Array Value → Value → Prop}
/-- What is asked of what an operation comes to: a value of R and a world of C;or a call whose contract stands in the table. -/
def upon (P:Program) (C:World → Prop) (Phi:FuncId → Array Value → Value → Prop) (w:World) (R:Value → Prop):Result Next → Prop
 | .ok (.value u) w' => (C w' ∧ Go.RowKit.Below w.heap.size w w') ∧ R u
 | .ok .skip w' => (C w' ∧ Go.RowKit.Below w.heap.size w w') ∧ R undef
 | .ok (.enter f args) w' => (C w' ∧ Go.RowKit.Below w.heap.size w w') ∧ Calls P f args w' (fun e w'' => ∃ v,e = .returned v ∧ Phi f args v ∧ C w'' ∧ Go.RowKit.Below w'.heap.size w' w'') ∧ ∀ v,Phi f args v → R v
 | _ => False

def atw (P:Program) (C:World → Prop) (Phi:FuncId → Array Value → Value → Prop) (o:Oper) (a:Act) (w:World) (R:Value → Prop):Prop :=
 upon P C Phi w R ((execOp a.eval o).run P w)

/-- One operation: every value of R is gone on with. -/
def one (P:Program) (C:World → Prop) (Phi:FuncId → Array Value → Value → Prop) (o:Oper) (a:Act) (next:Act → Prop):Prop :=
 ∃ R:Value → Prop,(∀ w,C w → atw P C Phi o a w R) ∧ ∀ v,R v → next (a.put o.dst v)

/-- The lexical walk of the head. -/
def walk (P:Program) (ops:Array Oper) (C:World → Prop) (Phi:FuncId → Array Value → Value → Prop) (Q:Act → Prop):List Oper → Act → Prop
 | [],a => Q a
 | o :: rest,a => if Region.wanted o (yielded ops a.tmps) then one P C Phi o a (walk P ops C Phi Q rest) else walk P ops C Phi Q rest (a.put o.dst undef)

theorem walk_nil {Q:Act → Prop} {a:Act} (h:Q a):walk P ops C Phi Q [] a:=h
theorem walk_step {Q:Act → Prop} {a:Act} {o:Oper} {rest:List Oper}
  (h:∀ K:Act → Prop,(∀ a,walk P ops C Phi Q rest a → K a) → if Region.wanted o (yielded ops a.tmps) then one P C Phi o a K else K (a.put o.dst undef)):walk P ops C Phi Q (o :: rest) a :=
 h _ (fun _ h => h)

/-- The same,of an operation without a guard. -/
theorem walk_plain {Q:Act → Prop} {a:Act} {o:Oper} {rest:List Oper} (hg:o.guard = none)
  (h:∀ K:Act → Prop,(∀ a,walk P ops C Phi Q rest a → K a) → one P C Phi o a K):walk P ops C Phi Q (o :: rest) a:=by
 refine walk_step fun K hK => ?_
 simp only [Region.wanted,hg,if_true]
 exact h K hK

/-- One operation that yields one value and leaves the world. -/
theorem one_det {o:Oper} {a:Act} {K:Act → Prop} {v:Value} (h:∀ w,C w → (execOp a.eval o).run P w = .ok (.value v) w) (hk:K (a.put o.dst v)):one P C Phi o a K:=by
 refine ⟨fun x => x = v,fun w hw => ?_,fun x hx => by rw [hx];exact hk⟩
 unfold atw
 rw [h w hw]
 exact ⟨⟨hw,Go.RowKit.Below.refl _ _⟩,rfl⟩

/-- One operation that yields a value of R. -/
theorem one_rel {o:Oper} {a:Act} {K:Act → Prop} (R:Value → Prop) (h:∀ w,C w → ∃ v w',(execOp a.eval o).run P w = .ok (.value v) w' ∧ R v ∧ C w' ∧ Go.RowKit.Below w.heap.size w w') (hk:∀ v,R v → K (a.put o.dst v)):one P C Phi o a K:=by
 refine ⟨R,fun w hw => ?_,hk⟩
 obtain ⟨v,w',e,hr,hc⟩:=h w hw
 unfold atw
 rw [e]
 exact ⟨hc,hr⟩

/-- One call. -/
theorem one_call {o:Oper} {a:Act} {K:Act → Prop} (f:FuncId) (args:Array Value) (h:∀ w,C w → (execOp a.eval o).run P w = .ok (.enter f args) w)
  (hc:∀ w,C w → Calls P f args w (fun e w'' => ∃ v,e = .returned v ∧ Phi f args v ∧ C w'' ∧ Go.RowKit.Below w.heap.size w w'')) (hk:∀ v,Phi f args v → K (a.put o.dst v)):one P C Phi o a K:=by
 refine ⟨fun v => Phi f args v,fun w hw => ?_,hk⟩
 unfold atw
 rw [h w hw]
 exact ⟨⟨hw,Go.RowKit.Below.refl _ _⟩,hc w hw,fun _ h => h⟩

/-- Operation number i comes up in state a. -/
def opAt (P:Program) (ops:Array Oper) (C:World → Prop) (Phi:FuncId → Array Value → Value → Prop) (i:Nat) (K:Act → Prop) (a:Act):Prop :=
 match ops[i]? with
 | none => K a
 | some o => if Region.wanted o (yielded ops a.tmps) then one P C Phi o a K else K (a.put o.dst undef)

theorem one_mono {o:Oper} {a:Act} {K K':Act → Prop} (h:∀ a,K a → K' a) (hh:one P C Phi o a K):one P C Phi o a K' :=
 let ⟨R,h1,h2⟩:=hh
 ⟨R,h1,fun v hv => h _ (h2 v hv)⟩

theorem opAt_mono {i:Nat} {a:Act} {K K':Act → Prop} (h:∀ a,K a → K' a) (hh:opAt P ops C Phi i K a):opAt P ops C Phi i K' a:=by
 cases ho:ops[i]? with
 | none => simp only [opAt,ho] at hh ⊢;exact h _ hh
 | some o =>
  simp only [opAt,ho] at hh ⊢
  by_cases hw:Region.wanted o (yielded ops a.tmps) = true
  ·rw [if_pos hw] at hh ⊢;exact one_mono h hh
  ·rw [if_neg hw] at hh ⊢;exact h _ hh

/-- In state a,in every world of C,operation o leaves a value of R,and a world of C. -/
def Yields (P:Program) (ops:Array Oper) (C:World → Prop) (Phi:FuncId → Array Value → Value → Prop) (o:Oper) (R:Value → Prop) (a:Act):Prop :=
 (Region.wanted o (yielded ops a.tmps) = true ∧ ∀ w,C w → atw P C Phi o a w R) ∨ (Region.wanted o (yielded ops a.tmps) = false ∧ R = fun v => v = undef)

theorem Yields.opAt {i:Nat} {o:Oper} {R:Value → Prop} {a:Act} (hi:ops[i]? = some o) (hy:Yields P ops C Phi o R a) {K:Act → Prop} (h:∀ v,R v → K (a.put o.dst v)):opAt P ops C Phi i K a:=by
 simp only [Qr.opAt,hi]
 rcases hy with ⟨hw,hv⟩ | ⟨hw,hr⟩
 ·rw [if_pos hw];exact ⟨R,hv,h⟩
 ·rw [hw,if_neg (by decide)];exact h _ (by rw [hr])

theorem yields_of_opAt {i:Nat} {o:Oper} {a:Act} {K:Act → Prop} (hi:ops[i]? = some o) (h:opAt P ops C Phi i K a):∃ R,Yields P ops C Phi o R a ∧ ∀ v,R v → K (a.put o.dst v):=by
 simp only [Qr.opAt,hi] at h
 by_cases hw:Region.wanted o (yielded ops a.tmps) = true
 ·rw [if_pos hw] at h
  obtain ⟨R,h1,h2⟩:=h
  exact ⟨R,.inl ⟨hw,h1⟩,h2⟩
 ·rw [if_neg hw] at h
  exact ⟨fun v => v = undef,.inr ⟨by simpa using hw,rfl⟩,fun v hv => by rw [hv];exact h⟩

/-- There is a value (as there is a world of C). -/
theorem Yields.some {o:Oper} {R:Value → Prop} {a:Act} {w0:World} (h0:C w0) (hy:Yields P ops C Phi o R a):∃ v,R v:=by
 rcases hy with ⟨_,hv⟩ | ⟨_,hr⟩
 ·have h:=hv w0 h0
  unfold atw at h
  generalize (execOp a.eval o).run P w0 = r at h
  cases r with
  | ok n w' =>
   cases n with
   | value u => exact ⟨u,h.2⟩
   | skip => exact ⟨_,h.2⟩
   | enter f args =>
    obtain ⟨e,w'',fr,⟨v,_,hp,_,_⟩,_⟩:=h.2.1 []
    exact ⟨v,h.2.2 v hp⟩
   | _ => exact h.elim
  | halt x w' => exact h.elim
 ·exact ⟨undef,by rw [hr]⟩

theorem atw_inter {o:Oper} {a:Act} {w:World} {I:Type} (i0:I) {R:I → Value → Prop} (h:∀ i,atw P C Phi o a w (R i)):atw P C Phi o a w (fun v => ∀ i,R i v):=by
 unfold atw at h ⊢
 generalize (execOp a.eval o).run P w = r at h
 cases r with
 | ok n w' =>
  cases n with
  | value u => exact ⟨(h i0).1,fun i => (h i).2⟩
  | skip => exact ⟨(h i0).1,fun i => (h i).2⟩
  | enter f args => exact ⟨(h i0).1,(h i0).2.1,fun v hv i => (h i).2.2 v hv⟩
  | _ => exact (h i0).elim
 | halt x w' => exact (h i0).elim

theorem Yields.of_same {o:Oper} {R:Value → Prop} {a a':Act} (hy:Yields P ops C Phi o R a) (he:execOp a'.eval o = execOp a.eval o)
  (hw:Region.wanted o (yielded ops a'.tmps) = Region.wanted o (yielded ops a.tmps)):Yields P ops C Phi o R a':=by
 unfold Yields atw at *
 rw [he,hw]
 exact hy

/-- An operation oj apart from oi may come first. -/
theorem opAt_put {j:Nat} {oi oj:Oper} {R:Value → Prop} (hj:ops[j]? = some oj) (hap:oi.apart ops oj = true)
  (hsi:∀ cs b,oi.op ≠ .select cs b) (hsj:∀ cs b,oj.op ≠ .select cs b) {w0:World} (h0:C w0) {K:Act → Prop} {a:Act}
  (hy:Yields P ops C Phi oi R a) (h:∀ v,R v → opAt P ops C Phi j K (a.put oi.dst v)) :
  opAt P ops C Phi j (fun a' => Yields P ops C Phi oi R a' ∧ ∀ v,R v → K (a'.put oi.dst v)) a:=by
 obtain ⟨h1,h2,h3⟩:=Oper.apart_spec hap
 have keep:∀ u,Yields P ops C Phi oi R (a.put oj.dst u):=fun u => hy.of_same (execOp_put oi hsi a oj.dst u h3) (wanted_put oi a oj.dst u h3)
 obtain ⟨v0,hv0⟩:=hy.some h0
 simp only [Qr.opAt,hj] at h ⊢
 by_cases hw:Region.wanted oj (yielded ops a.tmps) = true
 ·rw [if_pos hw]
  have hx:∀ x:{v // R v},∃ S:Value → Prop,(∀ w,C w → atw P C Phi oj a w S) ∧ ∀ u,S u → K ((a.put oi.dst x.1).put oj.dst u):=fun x => by
   have hh:=h x.1 x.2
   rw [wanted_put oj a oi.dst x.1 h1,if_pos hw] at hh
   obtain ⟨S,s1,s2⟩:=hh
   refine ⟨S,fun w hw' => ?_,s2⟩
   have:=s1 w hw'
   unfold atw at this ⊢
   rwa [execOp_put oj hsj a oi.dst x.1 h1] at this
  have hS:=fun x => Classical.choose_spec (hx x)
  refine ⟨fun u => ∀ x:{v // R v},Classical.choose (hx x) u,fun w hw' => atw_inter ⟨v0,hv0⟩ fun x => (hS x).1 w hw',fun u hu => ⟨keep u,fun v hv => ?_⟩⟩
  rw [← Act.put_comm a v u h2]
  exact (hS ⟨v,hv⟩).2 u (hu ⟨v,hv⟩)
 ·rw [if_neg hw]
  refine ⟨keep _,fun v hv => ?_⟩
  have hh:=h v hv
  rw [wanted_put oj a oi.dst v h1,if_neg hw] at hh
  rw [← Act.put_comm a v undef h2]
  exact hh

/-- Whatever order is picked in the head. -/
def anyOrder (P:Program) (md:Region.Mode) (ops:Array Oper) (C:World → Prop) (Phi:FuncId → Array Value → Value → Prop) (n:Nat) (L:Array Bool → Act → Prop):Nat → Array Bool → Act → Prop
 | 0,listed,a => L listed a
 | f + 1,listed,a =>
  Region.ready md ops listed ≠ [] ∧ ∀ i ∈ Region.ready md ops listed,i < n ∧ opAt P ops C Phi i (anyOrder P md ops C Phi n L f (listed.setIfInBounds i true)) a

theorem wp_of_one {o:Oper} {a:Act} {K:Act → Prop} {K':Act → World → Prop} {Q':Exit → Act → World → Prop} {w:World} (hw:C w) (h:∀ a w',C w' → K a → K' a w') (hh:one P C Phi o a K):o.wp P a w K' Q':=by
 obtain ⟨R,h1,h2⟩:=hh
 have h3:=h1 w hw
 unfold atw at h3
 unfold Oper.wp
 generalize (execOp a.eval o).run P w = r at h3 ⊢
 cases r with
 | ok n w' =>
  cases n with
  | value u => exact h _ _ h3.1.1 (h2 u h3.2)
  | skip => exact h _ _ h3.1.1 (h2 _ h3.2)
  | enter f args => exact h3.2.1.mono fun e w'' ⟨v,he,hp,hc,_⟩ => by subst he;exact h _ _ hc (h2 v (h3.2.2 v hp))
  | _ => exact h3.elim
 | halt x w' => exact h3.elim

theorem wpOp_of_opAt {i:Nat} {a:Act} {K:Act → Prop} {K':Act → World → Prop} {Q':Exit → Act → World → Prop} {w:World} (hC:C w) (h:∀ a w',C w' → K a → K' a w') (hh:opAt P ops C Phi i K a):wpOp P ops Q' i K' a w:=by
 unfold wpOp
 cases ho:ops[i]? with
 | none => simp only [opAt,ho] at hh;exact h _ _ hC hh
 | some o =>
  simp only [opAt,ho] at hh ⊢
  by_cases hw:Region.wanted o (yielded ops a.tmps) = true
  ·rw [if_pos hw] at hh;rw [if_pos hw];exact .inl (wp_of_one hC h hh)
  ·rw [if_neg hw] at hh;rw [if_neg hw];exact h _ _ hC hh

theorem wpAny_of_anyOrder {n g:Nat} {L:Array Bool → Act → Prop} {Q':Exit → Act → World → Prop} (hL:∀ listed a w,C w → L listed a → wpAny P md ops Q' g listed a w) :
  ∀ (f:Nat) (listed:Array Bool) (a:Act) (w:World),C w → anyOrder P md ops C Phi n L f listed a → wpAny P md ops Q' (f + g) listed a w
 | 0,listed,a,w,hw,h => by rw [Nat.zero_add];exact hL _ _ _ hw h
 | f + 1,listed,a,w,hw,h => by
  rw [show f + 1 + g = (f + g) + 1 by omega]
  exact ⟨fun h0 => absurd h0 h.1,fun i hi => wpOp_of_opAt hw (fun a' w' hw' h' => wpAny_of_anyOrder hL f _ a' w' hw' h') (h.2 i hi).2⟩

/-- What may come up now may be taken first. -/
theorem anyOrder_first {n i:Nat} {oi:Oper} {R:Value → Prop} {L:Array Bool → Act → Prop} (hi:ops[i]? = some oi) (hsel:∀ (j:Nat) (o:Oper) cs b,ops[j]? = some o → o.op ≠ .select cs b)
  (hw:∀ listed,HeadInv md ops n listed → ∀ i,i < n → listed.getD i true = false → ∀ t,n ≤ t → t ∉ Region.ready md ops listed) (hin:i < n) {w0:World} (h0:C w0)
  (hdone:∀ listed a,L listed a → ∀ j ∈ Region.ready md ops listed,n ≤ j) :
  ∀ (f:Nat) (listed:Array Bool) (a:Act),HeadInv md ops n listed →
   (∀ j oj,ops[j]? = some oj → j ≠ i → listed.getD j true = false → (∀ e ∈ oj.after,Region.binds md e = true → e.on ≠ i) → oi.apart ops oj = true) →
   i ∈ Region.ready md ops listed → Yields P ops C Phi oi R a →
   (∀ v,R v → anyOrder P md ops C Phi n L f (listed.setIfInBounds i true) (a.put oi.dst v)) → anyOrder P md ops C Phi n L (f + 1) listed a:=by
 intro f
 induction f with
 | zero =>
  intro listed a inv _ hr hy H
  have hun:=(mem_ready.1 hr).1
  refine ⟨fun h => (by rw [h] at hr;cases hr),fun j hj => ?_⟩
  have hjn:j < n:=Nat.lt_of_not_le fun h => hw _ inv i hin hun j h hj
  refine ⟨hjn,?_⟩
  by_cases hji:j = i
  ·subst hji;exact hy.opAt hi H
  ·obtain ⟨v,hv⟩:=hy.some h0
   exact absurd (hdone _ _ (H v hv) j (ready_mono hj hji)) (by omega)
 | succ f ih =>
  intro listed a inv hfree hr hy H
  have hun:=(mem_ready.1 hr).1
  refine ⟨fun h => (by rw [h] at hr;cases hr),fun j hj => ?_⟩
  have hjn:j < n:=Nat.lt_of_not_le fun h => hw _ inv i hin hun j h hj
  refine ⟨hjn,?_⟩
  by_cases hji:j = i
  ·subst hji;exact hy.opAt hi H
  ·have h1:=fun v hv => ((H v hv).2 j (ready_mono hj hji)).2
   obtain ⟨hjun,oj,hoj,hall⟩:=mem_ready.1 hj
   have hnot:∀ e ∈ oj.after,Region.binds md e = true → e.on ≠ i:=fun e he hb heq => by
    have h1:=hall e he hb
    rw [heq,getD_both hun] at h1
    cases h1
   have h2:=opAt_put hoj (hfree j oj hoj hji hjun hnot) (fun cs b => hsel i oi cs b hi) (fun cs b => hsel j oj cs b hoj) h0 hy h1
   have hfree':∀ k ok,ops[k]? = some ok → k ≠ i → (listed.setIfInBounds j true).getD k true = false →
     (∀ e ∈ ok.after,Region.binds md e = true → e.on ≠ i) → oi.apart ops ok = true:=fun k ok hk hki hun hno => by
    refine hfree k ok hk hki ?_ hno
    by_cases hjk:j = k
    ·subst hjk;exact hjun
    ·rw [getD_set_ne true hjk] at hun;exact hun
   refine opAt_mono (fun a' h3 => ih (listed.setIfInBounds j true) a' (inv.set hj hjn) hfree' (ready_mono hr (Ne.symm hji)) h3.1 fun v hv => ?_) h2
   rw [Array.setIfInBounds_comm _ _ hji]
   exact h3.2 v hv

theorem anyOrder_lex {n g:Nat} {Lq:Act → Prop} (hsel:Region.noSelect ops = true) (hw:∀ listed,HeadInv md ops n listed → ∀ i,i < n → listed.getD i true = false → ∀ t,n ≤ t → t ∉ Region.ready md ops listed) {w0:World} (h0:C w0) :
  ∀ (l:List Oper) (k:Nat) (listed:Array Bool) (a:Act),(∀ j,j < l.length → l[j]? = ops[k + j]?) → k + l.length = n → HeadInv md ops n listed →
  Region.lexHead md ops g l.length k listed = true → walk P ops C Phi Lq l a →
  anyOrder P md ops C Phi n (fun listed' a' => Region.seqB md ops g n listed' = true ∧ Lq a') l.length listed a
 | [],k,listed,a,_,hk,_,hB,h => by
  obtain rfl:k = n:=by simpa using hk
  exact ⟨by simpa [Region.lexHead] using hB,h⟩
 | o :: l,k,listed,a,hl,hk,inv,hB,h => by
  have ho:ops[k]? = some o:=by simpa using (hl 0 (by simp)).symm
  simp only [List.length_cons,Region.lexHead,Bool.and_eq_true] at hB
  obtain ⟨⟨hr,hf⟩,hB'⟩:=hB
  have hkn:k < n:=by simp only [List.length_cons] at hk;omega
  have hr':k ∈ Region.ready md ops listed:=by simpa using hr
  have hst:opAt P ops C Phi k (walk P ops C Phi Lq l) a:=by unfold opAt;simp only [ho];exact h
  obtain ⟨R,hy,hK⟩:=yields_of_opAt ho hst
  exact anyOrder_first ho (Region.noSelect_spec hsel) hw hkn h0 (fun listed' a' hL => seqB_ready hL.1) l.length listed a inv (Region.free_spec ho hf) hr' hy
   fun v hv => anyOrder_lex hsel hw h0 l (k + 1) _ _ (fun j hj => by have:=hl (j + 1) (by simp;omega);simpa [Nat.add_assoc,Nat.add_comm 1 j] using this) (by simp only [List.length_cons] at hk;omega) (inv.set hr' hkn) hB' (hK v hv)

/-- THE REGION: the head of n operations in the lexical order,in the class C;then the tail,in every world of C. -/
theorem wp_region {id:Nat} {Q:Exit → Act → World → Prop} {a:Act} {w:World} {l:List Oper} (n:Nat) (hm:P.follows .mixedOrders = true) (hB:Region.lexTailB .any l.toArray n = true)
  (C:World → Prop) (Phi:FuncId → Array Value → Value → Prop) (hC:C { w with drawn:=w.drawn + 1 })
  (h:walk P l.toArray C Phi (fun a' => ∀ w',C w' → wpList P l.toArray Q (l.drop n) a' w') (l.take n) a):(Code.region id l.toArray true).wp P Q a w:=by
 simp only [Region.lexTailB,Bool.and_eq_true,decide_eq_true_eq] at hB
 obtain ⟨⟨⟨⟨hsel,hn⟩,hs⟩,hc⟩,hlex⟩:=hB
 have hn':n < l.length:=by simpa using hn
 have htl:(l.take n).length = n:=by simp;omega
 have hdl:(l.drop n).length = l.toArray.size - n:=by simp
 have inv0:HeadInv .any l.toArray n (Array.replicate l.toArray.size false) :=
  ⟨by simp,fun j oj _ hl => (by rw [getD_replicate_false] at hl;cases hl),fun t _ ht => getD_in (by simpa using ht) (getD_replicate_false _ _)⟩
 have H:=anyOrder_lex (md:=.any) (g:=l.toArray.size - n) hsel (fun listed inv i hi hun => tail_waits hs hc hn inv _ i rfl hi hun) hC (l.take n) 0 _ a (fun j hj => by
  have hj':j < n:=by rw [htl] at hj;exact hj
  simp [hj']) (by simpa using htl) inv0 (by rw [htl];exact hlex) h
 refine wp_region_any hm ?_
 have:=wpAny_of_anyOrder (Q':=Q) (g:=l.toArray.size - n) (fun listed a' w' hw' hL => by
  have:=wpAny_of_seq (md:=.any) (Q':=Q) (l.drop n) n listed a' w' (fun j => by simp [List.getElem?_drop]) (by rw [hdl];exact hL.1) (hL.2 w' hw')
  rwa [hdl] at this) _ _ _ _ hC H
 rw [htl,show n + (l.toArray.size - n) = l.toArray.size by omega] at this
 exact this

/-- A region all of whose operations are of the head. -/
theorem wp_region_all {id:Nat} {Q:Exit → Act → World → Prop} {a:Act} {w:World} {l:List Oper} (hm:P.follows .mixedOrders = true)
  (hB:(Region.noSelect l.toArray && Region.lexHead .any l.toArray 0 l.length 0 (Array.replicate l.toArray.size false)) = true)
  (C:World → Prop) (Phi:FuncId → Array Value → Value → Prop) (hC:C { w with drawn:=w.drawn + 1 })
  (h:walk P l.toArray C Phi (fun a' => ∀ w',C w' → Q .normal a' w') l a):(Code.region id l.toArray true).wp P Q a w:=by
 simp only [Bool.and_eq_true] at hB
 obtain ⟨hsel,hlex⟩:=hB
 have inv0:HeadInv .any l.toArray l.length (Array.replicate l.toArray.size false) :=
  ⟨by simp,fun j oj _ hl => (by rw [getD_replicate_false] at hl;cases hl),fun t _ ht => getD_in (by simpa using ht) (getD_replicate_false _ _)⟩
 have H:=anyOrder_lex (md:=.any) (g:=0) hsel (fun listed inv i hi hun t ht hr => by
  obtain ⟨_,o,ho,_⟩:=mem_ready.1 hr
  have:=(Array.getElem?_eq_some_iff.1 ho).1
  simp at this
  omega) hC l 0 _ a (fun j hj => by simp) (by simp) inv0 hlex h
 refine wp_region_any hm ?_
 have:=wpAny_of_anyOrder (Q':=Q) (g:=0) (fun listed a' w' hw' hL => (by
  refine ⟨by have:=hL.1;simpa [Region.seqB] using this,hL.2 w' hw'⟩:wpAny P .any l.toArray Q 0 listed a' w')) _ _ _ _ hC H
 simpa using this

theorem wp_below_all {id:Nat} {Q:Exit → Act → World → Prop} {a:Act} {w:World} {l:List Oper} (hm:P.follows .mixedOrders = true)
  (hB:(Region.noSelect l.toArray && Region.lexHead .any l.toArray 0 l.length 0 (Array.replicate l.toArray.size false)) = true)
  (Phi:FuncId → Array Value → Value → Prop)
  (h:walk P l.toArray (fun w' => Go.RowKit.Below w.heap.size w w') Phi (fun a' => ∀ w',Go.RowKit.Below w.heap.size w w' → Q .normal a' w') l a):(Code.region id l.toArray true).wp P Q a w :=
 wp_region_all hm hB _ Phi ((Go.RowKit.Below.refl _ _).drew) h

/-- The same,in the class of the worlds in which nothing of what was there has turned. -/
theorem wp_below {id:Nat} {Q:Exit → Act → World → Prop} {a:Act} {w:World} {l:List Oper} (n:Nat) (hm:P.follows .mixedOrders = true) (hB:Region.lexTailB .any l.toArray n = true)
  (Phi:FuncId → Array Value → Value → Prop)
  (h:walk P l.toArray (fun w' => Go.RowKit.Below w.heap.size w w') Phi (fun a' => ∀ w',Go.RowKit.Below w.heap.size w w' → wpList P l.toArray Q (l.drop n) a' w') (l.take n) a):(Code.region id l.toArray true).wp P Q a w :=
 wp_region n hm hB _ Phi ((Go.RowKit.Below.refl _ _).drew) h

/-- What an operation has come to. -/
def came (P:Program) (o:Oper) (a:Act) (w:World) (v:Value) (w':World):Prop :=
 Go.RowKit.Below w.heap.size w w' ∧ ((execOp a.eval o).run P w = .ok (.value v) w' ∨ (∃ f args w1,(execOp a.eval o).run P w = .ok (.enter f args) w1) ∨ (∃ w1,(execOp a.eval o).run P w = .ok .skip w1))

/-- .. with a word E on the frame and the world,that every operation hands on. -/
theorem wp_of_oneE {E:Act → World → Prop} {o:Oper} {a:Act} {K:Act → Prop} {K':Act → World → Prop} {Q':Exit → Act → World → Prop} {w:World} (hw:C w)
  (hE:∀ v w',came P o a w v w' → E (a.put o.dst v) w') (h:∀ v w',C w' → E (a.put o.dst v) w' → K (a.put o.dst v) → K' (a.put o.dst v) w') (hh:one P C Phi o a K):o.wp P a w K' Q':=by
 obtain ⟨R,h1,h2⟩:=hh
 have h3:=h1 w hw
 unfold atw at h3
 unfold came at hE
 unfold Oper.wp
 generalize (execOp a.eval o).run P w = r at h3 hE ⊢
 cases r with
 | ok n w' =>
  cases n with
  | value u => exact h _ _ h3.1.1 (hE _ _ ⟨h3.1.2,.inl rfl⟩) (h2 u h3.2)
  | skip => exact h _ _ h3.1.1 (hE _ _ ⟨h3.1.2,.inr (.inr ⟨_,rfl⟩)⟩) (h2 _ h3.2)
  | enter f args => exact h3.2.1.mono fun e w'' ⟨v,he,hp,hc,hl⟩ => by subst he;exact h _ _ hc (hE _ _ ⟨h3.1.2.trans (hl.mono h3.1.2.size),.inr (.inl ⟨f,args,w',rfl⟩)⟩) (h2 v (h3.2.2 v hp))
  | _ => exact h3.elim
 | halt x w' => exact h3.elim

theorem wpAny_of_anyOrderE {E:Act → World → Prop} {n g:Nat} {L:Array Bool → Act → Prop} {Q':Exit → Act → World → Prop} (hL:∀ listed a w,C w → E a w → L listed a → wpAny P md ops Q' g listed a w)
  (hE:∀ i o a w v w',i < n → ops[i]? = some o → C w → E a w → came P o a w v w' → E (a.put o.dst v) w') (hg:∀ i o,i < n → ops[i]? = some o → o.guard = none) :
  ∀ (f:Nat) (listed:Array Bool) (a:Act) (w:World),C w → E a w → anyOrder P md ops C Phi n L f listed a → wpAny P md ops Q' (f + g) listed a w
 | 0,listed,a,w,hw,he,h => by rw [Nat.zero_add];exact hL _ _ _ hw he h
 | f + 1,listed,a,w,hw,he,h => by
  rw [show f + 1 + g = (f + g) + 1 by omega]
  refine ⟨fun h0 => absurd h0 h.1,fun i hi => ?_⟩
  obtain ⟨hin,hop⟩:=h.2 i hi
  unfold wpOp
  cases ho:ops[i]? with
  | none =>
   obtain ⟨_,o,ho',_⟩:=mem_ready.1 hi
   rw [ho] at ho';cases ho'
  | some o =>
   simp only [opAt,ho] at hop ⊢
   have hwn:Region.wanted o (yielded ops a.tmps) = true:=by simp [Region.wanted,hg i o hin ho]
   rw [if_pos hwn] at hop;rw [if_pos hwn]
   exact .inl (wp_of_oneE hw (fun v w' hc => hE i o a w v w' hin ho hw he hc) (fun v w' hw' he' hk => wpAny_of_anyOrderE hL hE hg f _ _ w' hw' he' hk) hop)

/-- THE REGION,with such a word. -/
theorem wp_regionE {id:Nat} {Q:Exit → Act → World → Prop} {a:Act} {w:World} {l:List Oper} (n:Nat) (hm:P.follows .mixedOrders = true) (hB:Region.lexTailB .any l.toArray n = true)
  (C:World → Prop) (Phi:FuncId → Array Value → Value → Prop) (E:Act → World → Prop) (hC:C { w with drawn:=w.drawn + 1 }) (hE0:E a { w with drawn:=w.drawn + 1 })
  (hE:∀ i o a w v w',i < n → l[i]? = some o → C w → E a w → came P o a w v w' → E (a.put o.dst v) w') (hg:((l.take n).all fun o => o.guard.isNone) = true)
  (h:walk P l.toArray C Phi (fun a' => ∀ w',C w' → E a' w' → wpList P l.toArray Q (l.drop n) a' w') (l.take n) a):(Code.region id l.toArray true).wp P Q a w:=by
 simp only [Region.lexTailB,Bool.and_eq_true,decide_eq_true_eq] at hB
 obtain ⟨⟨⟨⟨hsel,hn⟩,hs⟩,hc⟩,hlex⟩:=hB
 have hn':n < l.length:=by simpa using hn
 have htl:(l.take n).length = n:=by simp;omega
 have hdl:(l.drop n).length = l.toArray.size - n:=by simp
 have inv0:HeadInv .any l.toArray n (Array.replicate l.toArray.size false) :=
  ⟨by simp,fun j oj _ hl => (by rw [getD_replicate_false] at hl;cases hl),fun t _ ht => getD_in (by simpa using ht) (getD_replicate_false _ _)⟩
 have H:=anyOrder_lex (md:=.any) (g:=l.toArray.size - n) hsel (fun listed inv i hi hun => tail_waits hs hc hn inv _ i rfl hi hun) hC (l.take n) 0 _ a (fun j hj => by
  have hj':j < n:=by rw [htl] at hj;exact hj
  simp [hj']) (by simpa using htl) inv0 (by rw [htl];exact hlex) h
 refine wp_region_any hm ?_
 have:=wpAny_of_anyOrderE (Q':=Q) (E:=E) (g:=l.toArray.size - n) (fun listed a' w' hw' he hL => by
  have:=wpAny_of_seq (md:=.any) (Q':=Q) (l.drop n) n listed a' w' (fun j => by simp [List.getElem?_drop]) (by rw [hdl];exact hL.1) (hL.2 w' hw' he)
  rwa [hdl] at this) (fun i o a w v w' hi ho => hE i o a w v w' hi (by simpa using ho)) (fun i o hi ho => by
   have h1:=List.all_eq_true.1 hg o (List.mem_of_getElem? (i:=i) (by rw [List.getElem?_take,if_pos hi];simpa using ho))
   exact Option.isNone_iff_eq_none.1 h1) _ _ _ _ hC hE0 H
 rw [htl,show n + (l.toArray.size - n) = l.toArray.size by omega] at this
 exact this

/-- Slot d,once it is a pointer,points to a new block of these cells. -/
def Made (W:World) (d:Tmp) (zs:Array Value) (T:TypeId) (a:Act) (w:World):Prop :=
 ∀ p,a.tmps.getD d undef = .pointer p → ∃ g,p = some ⟨g,0,none⟩ ∧ W.heap.size ≤ g ∧ w.heap[g]? = some (.cells zs T (0,0))

theorem getD_put (a:Act) (x:Option Tmp) (v:Value) (d:Tmp) (h:x ≠ some d):(a.put x v).tmps.getD d undef = a.tmps.getD d undef:=by
 cases x with
 | none => rfl
 | some y =>
  have hy:y ≠ d:=fun e => h (by rw [e])
  simp only [Act.put,Array.getD_eq_getD_getElem?]
  rw [Array.getElem?_setIfInBounds_ne hy]

/-- THE REGION with one new variable,made by operation m,in slot d. -/
theorem wp_made {id:Nat} {Q:Exit → Act → World → Prop} {a:Act} {w:World} {l:List Oper} (n m:Nat) (d:Tmp) (zs:Array Value) (T:TypeId) (hm:P.follows .mixedOrders = true) (hB:Region.lexTailB .any l.toArray n = true)
  (Phi:FuncId → Array Value → Value → Prop) (h0:a.tmps.getD d undef = undef) (hd:((List.range n).all fun i => i == m || ((l[i]?).bind (·.dst)) != some d) = true)
  (hop:∃ om,l[m]? = some om ∧ om.dst = some d ∧ ∀ (a:Act) (w:World),(execOp a.eval om).run P w = .ok (.value (.pointer (some ⟨w.heap.size,0,none⟩))) (w.alloc (.cells zs T)))
  (hg:((l.take n).all fun o => o.guard.isNone) = true)
  (h:walk P l.toArray (fun w' => Go.RowKit.Below w.heap.size w w') Phi (fun a' => ∀ w',Go.RowKit.Below w.heap.size w w' → Made w d zs T a' w' → wpList P l.toArray Q (l.drop n) a' w') (l.take n) a):(Code.region id l.toArray true).wp P Q a w:=by
 refine wp_regionE n hm hB _ Phi (Made w d zs T) ((Go.RowKit.Below.refl _ _).drew) (fun p hp => by rw [h0] at hp;cases hp) ?_ hg h
 intro i o a' w1 v w2 hi ho hw1 hE hc
 by_cases him:i = m
 ·subst him
  obtain ⟨om,hom,hdst,hrun⟩:=hop
  have:o = om:=Option.some.inj (ho.symm.trans hom)
  subst this
  unfold came at hc
  rw [hrun] at hc
  rcases hc.2 with hc | ⟨f,args,w3,hc⟩ | ⟨w3,hc⟩
  ·injection hc with e1 e2
   injection e1 with e1
   subst e1;subst e2
   intro p hp
   by_cases hlt:d < a'.tmps.size
   ·rw [hdst] at hp
    simp only [Act.put,Array.getD_eq_getD_getElem?] at hp
    rw [Array.getElem?_setIfInBounds_self_of_lt hlt] at hp
    simp only [Option.getD_some] at hp
    injection hp with hp
    exact ⟨w1.heap.size,hp.symm,hw1.size,by show (w1.heap.push _)[w1.heap.size]? = _;simp⟩
   ·rw [hdst] at hp
    simp only [Act.put,Array.getD_eq_getD_getElem?] at hp
    rw [Array.getElem?_eq_none (by rw [Array.size_setIfInBounds];exact Nat.le_of_not_lt hlt)] at hp
    cases hp
  ·cases hc
  ·cases hc
 ·have hne:o.dst ≠ some d:=by
   have h1:=List.all_eq_true.1 hd i (List.mem_range.2 hi)
   simp only [ho,Bool.or_eq_true,beq_iff_eq,bne_iff_ne,Option.bind_some] at h1
   rcases h1 with h1 | h1
   ·exact absurd h1 him
   ·exact h1
  have hle:Go.RowKit.Below w1.heap.size w1 w2:=hc.1
  intro p hp
  rw [getD_put _ _ _ _ hne] at hp
  obtain ⟨g,hg1,hg2,hg3⟩:=hE p hp
  refine ⟨g,hg1,hg2,?_⟩
  have hlt:g < w1.heap.size:=by
   rcases Nat.lt_or_ge g w1.heap.size with h' | h'
   ·exact h'
   ·rw [Array.getElem?_eq_none h'] at hg3;cases hg3
  rw [hle.block g hlt];exact hg3

end
end Go.Qr
