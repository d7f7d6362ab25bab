/-
 Lemmas: Qr,Fl.
-/
import Derived.Below
import Derived.Deep.Draws
import Derived.StillTail
import Derived.WalkKit
import Derived.WalkLawsBesides
set_option linter.unusedVariables false
set_option linter.unusedSimpArgs false
namespace Go.Qr
open Go
section
variable {P:Program} {ops:Array Oper} {md:Region.Mode} {C:World→Prop} {Phi:FuncId→Array Value→Value→Prop}
def upon (P:Program) (C:World→Prop) (Phi:FuncId→Array Value→Value→Prop) (w:World) (R:Value→Prop):Result Next→Prop
 | .ok (.value u) w'=>(C w'∧Go.RowKit.Below w.heap.size w w')∧R u
 | .ok .skip w'=>(C w'∧Go.RowKit.Below w.heap.size w w')∧R undef
 | .ok (.enter f args) w'=>(C w'∧Go.RowKit.Below w.heap.size w w')∧Calls P f args w' (fun e w''=>∃ v,e=.returned v∧Phi f args v∧C w''∧Go.RowKit.Below w'.heap.size w' w'')∧∀ v,Phi f args v→R v
 | _=>False

def atw (P:Program) (C:World→Prop) (Phi:FuncId→Array Value→Value→Prop) (o:Oper) (a:Act) (w:World) (R:Value→Prop):Prop :=
 upon P C Phi w R ((execOp a.eval o).run P w)

def one (P:Program) (C:World→Prop) (Phi:FuncId→Array Value→Value→Prop) (o:Oper) (a:Act) (next:Act→Prop):Prop :=
 ∃ R:Value→Prop,(∀ w,C w→atw P C Phi o a w R)∧∀ v,R v→next (a.put o.dst v)

def walk (P:Program) (ops:Array Oper) (C:World→Prop) (Phi:FuncId→Array Value→Value→Prop) (Q:Act→Prop):List Oper→Act→Prop
 | [],a=>Q a
 | o::rest,a=>if Region.wanted o (yielded ops a.tmps) then one P C Phi o a (walk P ops C Phi Q rest) else walk P ops C Phi Q rest (a.put o.dst undef)

theorem walk_nil {Q:Act→Prop} {a:Act} (h:Q a):walk P ops C Phi Q [] a:=h
theorem walk_step {Q:Act→Prop} {a:Act} {o:Oper} {rest:List Oper}
  (h:∀ K:Act→Prop,(∀ a,walk P ops C Phi Q rest a→K a)→if Region.wanted o (yielded ops a.tmps) then one P C Phi o a K else K (a.put o.dst undef)):walk P ops C Phi Q (o::rest) a :=
 h _ (fun _ h=>h)

theorem walk_plain {Q:Act→Prop} {a:Act} {o:Oper} {rest:List Oper} (hg:o.guard=none)
  (h:∀ K:Act→Prop,(∀ a,walk P ops C Phi Q rest a→K a)→one P C Phi o a K):walk P ops C Phi Q (o::rest) a:=by
 refine walk_step fun K hK=>?_
 simp only[Region.wanted,hg,if_true]
 exact h K hK

theorem one_det {o:Oper} {a:Act} {K:Act→Prop} {v:Value} (h:∀ w,C w→(execOp a.eval o).run P w=.ok (.value v) w) (hk:K (a.put o.dst v)):one P C Phi o a K:=by
 refine⟨fun x=>x=v,fun w hw=>?_,fun x hx=>by rw[hx];exact hk⟩
 unfold atw
 rw[h w hw]
 exact⟨⟨hw,Go.RowKit.Below.refl _ _⟩,rfl⟩

theorem one_rel {o:Oper} {a:Act} {K:Act→Prop} (R:Value→Prop) (h:∀ w,C w→∃ v w',(execOp a.eval o).run P w=.ok (.value v) w'∧R v∧C w'∧Go.RowKit.Below w.heap.size w w') (hk:∀ v,R v→K (a.put o.dst v)):one P C Phi o a K:=by
 refine⟨R,fun w hw=>?_,hk⟩
 obtain⟨v,w',e,hr,hc⟩:=h w hw
 unfold atw
 rw[e]
 exact⟨hc,hr⟩

theorem one_call {o:Oper} {a:Act} {K:Act→Prop} (f:FuncId) (args:Array Value) (h:∀ w,C w→(execOp a.eval o).run P w=.ok (.enter f args) w)
  (hc:∀ w,C w→Calls P f args w (fun e w''=>∃ v,e=.returned v∧Phi f args v∧C w''∧Go.RowKit.Below w.heap.size w w'')) (hk:∀ v,Phi f args v→K (a.put o.dst v)):one P C Phi o a K:=by
 refine⟨fun v=>Phi f args v,fun w hw=>?_,hk⟩
 unfold atw
 rw[h w hw]
 exact⟨⟨hw,Go.RowKit.Below.refl _ _⟩,hc w hw,fun _ h=>h⟩

def opAt (P:Program) (ops:Array Oper) (C:World→Prop) (Phi:FuncId→Array Value→Value→Prop) (i:Nat) (K:Act→Prop) (a:Act):Prop :=
 match ops[i]? with
 | none=>K a
 | some o=>if Region.wanted o (yielded ops a.tmps) then one P C Phi o a K else K (a.put o.dst undef)

theorem znf {o:Oper} {a:Act} {K K':Act→Prop} (h:∀ a,K a→K' a) (hh:one P C Phi o a K):one P C Phi o a K' :=
 let ⟨R,h1,h2⟩:=hh
 ⟨R,h1,fun v hv=>h _ (h2 v hv)⟩

theorem opAt_mono {i:Nat} {a:Act} {K K':Act→Prop} (h:∀ a,K a→K' a) (hh:opAt P ops C Phi i K a):opAt P ops C Phi i K' a:=by
 cases ho:ops[i]? with
 | none=>simp only[opAt,ho]at hh ⊢;exact h _ hh
 | some o =>
  simp only[opAt,ho]at hh ⊢
  by_cases hw:Region.wanted o (yielded ops a.tmps)=true
  ·rw[if_pos hw]at hh ⊢;exact znf h hh
  ·rw[if_neg hw]at hh ⊢;exact h _ hh

def Yields (P:Program) (ops:Array Oper) (C:World→Prop) (Phi:FuncId→Array Value→Value→Prop) (o:Oper) (R:Value→Prop) (a:Act):Prop :=
 (Region.wanted o (yielded ops a.tmps)=true∧∀ w,C w→atw P C Phi o a w R)∨(Region.wanted o (yielded ops a.tmps)=false∧R=fun v=>v=undef)

theorem Yields.opAt {i:Nat} {o:Oper} {R:Value→Prop} {a:Act} (hi:ops[i]? = some o) (hy:Yields P ops C Phi o R a) {K:Act→Prop} (h:∀ v,R v→K (a.put o.dst v)):opAt P ops C Phi i K a:=by
 simp only[Qr.opAt,hi]
 rcases hy with⟨hw,hv⟩|⟨hw,hr⟩
 ·rw[if_pos hw];exact⟨R,hv,h⟩
 ·rw[hw,if_neg (by decide)];exact h _ (by rw[hr])

theorem zgf {i:Nat} {o:Oper} {a:Act} {K:Act→Prop} (hi:ops[i]? = some o) (h:opAt P ops C Phi i K a):∃ R,Yields P ops C Phi o R a∧∀ v,R v→K (a.put o.dst v):=by
 simp only[Qr.opAt,hi]at h
 by_cases hw:Region.wanted o (yielded ops a.tmps)=true
 ·rw[if_pos hw]at h
  obtain⟨R,h1,h2⟩:=h
  exact⟨R,.inl ⟨hw,h1⟩,h2⟩
 ·rw[if_neg hw]at h
  exact⟨fun v=>v=undef,.inr ⟨by simpa using hw,rfl⟩,fun v hv=>by rw[hv];exact h⟩

theorem Yields.some {o:Oper} {R:Value→Prop} {a:Act} {w0:World} (h0:C w0) (hy:Yields P ops C Phi o R a):∃ v,R v:=by
 rcases hy with⟨_,hv⟩|⟨_,hr⟩
 ·have h:=hv w0 h0
  unfold atw at h
  generalize (execOp a.eval o).run P w0=r at h
  cases r with
  | ok n w' =>
   cases n with
   | value u=>exact⟨u,h.2⟩
   | skip=>exact⟨_,h.2⟩
   | enter f args =>
    obtain⟨e,w'',fr,⟨v,_,hp,_,_⟩,_⟩:=h.2.1 []
    exact⟨v,h.2.2 v hp⟩
   | _=>exact h.elim
  | halt x w'=>exact h.elim
 ·exact⟨undef,by rw[hr]⟩

theorem zbl {o:Oper} {a:Act} {w:World} {I:Type} (i0:I) {R:I→Value→Prop} (h:∀ i,atw P C Phi o a w (R i)):atw P C Phi o a w (fun v=>∀ i,R i v):=by
 unfold atw at h ⊢
 generalize (execOp a.eval o).run P w=r at h
 cases r with
 | ok n w' =>
  cases n with
  | value u=>exact⟨(h i0).1,fun i=>(h i).2⟩
  | skip=>exact⟨(h i0).1,fun i=>(h i).2⟩
  | enter f args=>exact⟨(h i0).1,(h i0).2.1,fun v hv i=>(h i).2.2 v hv⟩
  | _=>exact (h i0).elim
 | halt x w'=>exact (h i0).elim

theorem Yields.of_same {o:Oper} {R:Value→Prop} {a a':Act} (hy:Yields P ops C Phi o R a) (he:execOp a'.eval o=execOp a.eval o)
  (hw:Region.wanted o (yielded ops a'.tmps)=Region.wanted o (yielded ops a.tmps)):Yields P ops C Phi o R a':=by
 unfold Yields atw at *
 rw[he,hw]
 exact hy

theorem opAt_put {j:Nat} {oi oj:Oper} {R:Value→Prop} (hj:ops[j]? = some oj) (hap:oi.apart ops oj=true)
  (hsi:∀ cs b,oi.op ≠ .select cs b) (hsj:∀ cs b,oj.op ≠ .select cs b) {w0:World} (h0:C w0) {K:Act→Prop} {a:Act}
  (hy:Yields P ops C Phi oi R a) (h:∀ v,R v→opAt P ops C Phi j K (a.put oi.dst v)) :
  opAt P ops C Phi j (fun a'=>Yields P ops C Phi oi R a'∧∀ v,R v→K (a'.put oi.dst v)) a:=by
 obtain⟨h1,h2,h3⟩:=Oper.apart_spec hap
 have keep:∀ u,Yields P ops C Phi oi R (a.put oj.dst u):=fun u=>hy.of_same (execOp_put oi hsi a oj.dst u h3) (wanted_put oi a oj.dst u h3)
 obtain⟨v0,hv0⟩:=hy.some h0
 simp only[Qr.opAt,hj]at h ⊢
 by_cases hw:Region.wanted oj (yielded ops a.tmps)=true
 ·rw[if_pos hw]
  have hx:∀ x:{v // R v},∃ S:Value→Prop,(∀ w,C w→atw P C Phi oj a w S)∧∀ u,S u→K ((a.put oi.dst x.1).put oj.dst u):=fun x=>by
   have hh:=h x.1 x.2
   rw[wanted_put oj a oi.dst x.1 h1,if_pos hw]at hh
   obtain⟨S,s1,s2⟩:=hh
   refine⟨S,fun w hw'=>?_,s2⟩
   have:=s1 w hw'
   unfold atw at this ⊢
   rwa [execOp_put oj hsj a oi.dst x.1 h1]at this
  have hS:=fun x=>Classical.choose_spec (hx x)
  refine⟨fun u=>∀ x:{v // R v},Classical.choose (hx x) u,fun w hw'=>zbl ⟨v0,hv0⟩ fun x=>(hS x).1 w hw',fun u hu=>⟨keep u,fun v hv=>?_⟩⟩
  rw[← Act.put_comm a v u h2]
  exact (hS ⟨v,hv⟩).2 u (hu ⟨v,hv⟩)
 ·rw[if_neg hw]
  refine⟨keep _,fun v hv=>?_⟩
  have hh:=h v hv
  rw[wanted_put oj a oi.dst v h1,if_neg hw]at hh
  rw[← Act.put_comm a v undef h2]
  exact hh

def anyOrder (P:Program) (md:Region.Mode) (ops:Array Oper) (C:World→Prop) (Phi:FuncId→Array Value→Value→Prop) (n:Nat) (L:Array Bool→Act→Prop):Nat→Array Bool→Act→Prop
 | 0,listed,a=>L listed a
 | f+1,listed,a =>
  Region.ready md ops listed ≠ []∧∀ i∈Region.ready md ops listed,i<n∧opAt P ops C Phi i (anyOrder P md ops C Phi n L f (listed.setIfInBounds i true)) a

theorem zbq {o:Oper} {a:Act} {K:Act→Prop} {K':Act→World→Prop} {Q':Exit→Act→World→Prop} {w:World} (hw:C w) (h:∀ a w',C w'→K a→K' a w') (hh:one P C Phi o a K):o.wp P a w K' Q':=by
 obtain⟨R,h1,h2⟩:=hh
 have h3:=h1 w hw
 unfold atw at h3
 unfold Oper.wp
 generalize (execOp a.eval o).run P w=r at h3 ⊢
 cases r with
 | ok n w' =>
  cases n with
  | value u=>exact h _ _ h3.1.1 (h2 u h3.2)
  | skip=>exact h _ _ h3.1.1 (h2 _ h3.2)
  | enter f args=>exact h3.2.1.mono fun e w'' ⟨v,he,hp,hc,_⟩=>by subst he;exact h _ _ hc (h2 v (h3.2.2 v hp))
  | _=>exact h3.elim
 | halt x w'=>exact h3.elim

theorem zja {i:Nat} {a:Act} {K:Act→Prop} {K':Act→World→Prop} {Q':Exit→Act→World→Prop} {w:World} (hC:C w) (h:∀ a w',C w'→K a→K' a w') (hh:opAt P ops C Phi i K a):wpOp P ops Q' i K' a w:=by
 unfold wpOp
 cases ho:ops[i]? with
 | none=>simp only[opAt,ho]at hh;exact h _ _ hC hh
 | some o =>
  simp only[opAt,ho]at hh ⊢
  by_cases hw:Region.wanted o (yielded ops a.tmps)=true
  ·rw[if_pos hw]at hh;rw[if_pos hw];exact .inl (zbq hC h hh)
  ·rw[if_neg hw]at hh;rw[if_neg hw];exact h _ _ hC hh

theorem wpAny_of_anyOrder {n g:Nat} {L:Array Bool→Act→Prop} {Q':Exit→Act→World→Prop} (hL:∀ listed a w,C w→L listed a→wpAny P md ops Q' g listed a w) :
  ∀ (f:Nat) (listed:Array Bool) (a:Act) (w:World),C w→anyOrder P md ops C Phi n L f listed a→wpAny P md ops Q' (f+g) listed a w
 | 0,listed,a,w,hw,h=>by rw[Nat.zero_add];exact hL _ _ _ hw h
 | f+1,listed,a,w,hw,h=>by
  rw[show f+1+g=(f+g)+1 by omega]
  exact⟨fun h0=>absurd h0 h.1,fun i hi=>zja hw (fun a' w' hw' h'=>wpAny_of_anyOrder hL f _ a' w' hw' h') (h.2 i hi).2⟩

theorem anyOrder_first {n i:Nat} {oi:Oper} {R:Value→Prop} {L:Array Bool→Act→Prop} (hi:ops[i]? = some oi) (hsel:∀ (j:Nat) (o:Oper) cs b,ops[j]? = some o→o.op ≠ .select cs b)
  (hw:∀ listed,HeadInv md ops n listed→∀ i,i<n→listed.getD i true=false→∀ t,n≤t→t ∉ Region.ready md ops listed) (hin:i<n) {w0:World} (h0:C w0)
  (hdone:∀ listed a,L listed a→∀ j∈Region.ready md ops listed,n≤j) :
  ∀ (f:Nat) (listed:Array Bool) (a:Act),HeadInv md ops n listed →
   (∀ j oj,ops[j]? = some oj→j ≠ i→listed.getD j true=false→(∀ e∈oj.after,Region.binds md e=true→e.on ≠ i)→oi.apart ops oj=true) →
   i∈Region.ready md ops listed→Yields P ops C Phi oi R a →
   (∀ v,R v→anyOrder P md ops C Phi n L f (listed.setIfInBounds i true) (a.put oi.dst v))→anyOrder P md ops C Phi n L (f+1) listed a:=by
 intro f
 induction f with
 | zero =>
  intro listed a inv _ hr hy H
  have hun:=(mem_ready.1 hr).1
  refine⟨fun h=>(by rw[h]at hr;cases hr),fun j hj=>?_⟩
  have hjn:j<n:=Nat.lt_of_not_le fun h=>hw _ inv i hin hun j h hj
  refine⟨hjn,?_⟩
  by_cases hji:j=i
  ·subst hji;exact hy.opAt hi H
  ·obtain⟨v,hv⟩:=hy.some h0
   exact absurd (hdone _ _ (H v hv) j (ready_mono hj hji)) (by omega)
 | succ f ih =>
  intro listed a inv hfree hr hy H
  have hun:=(mem_ready.1 hr).1
  refine⟨fun h=>(by rw[h]at hr;cases hr),fun j hj=>?_⟩
  have hjn:j<n:=Nat.lt_of_not_le fun h=>hw _ inv i hin hun j h hj
  refine⟨hjn,?_⟩
  by_cases hji:j=i
  ·subst hji;exact hy.opAt hi H
  ·have h1:=fun v hv=>((H v hv).2 j (ready_mono hj hji)).2
   obtain⟨hjun,oj,hoj,hall⟩:=mem_ready.1 hj
   have hnot:∀ e∈oj.after,Region.binds md e=true→e.on ≠ i:=fun e he hb heq=>by
    have h1:=hall e he hb
    rw[heq,getD_both hun]at h1
    cases h1
   have h2:=opAt_put hoj (hfree j oj hoj hji hjun hnot) (fun cs b=>hsel i oi cs b hi) (fun cs b=>hsel j oj cs b hoj) h0 hy h1
   have hfree':∀ k ok,ops[k]? = some ok→k ≠ i→(listed.setIfInBounds j true).getD k true=false →
     (∀ e∈ok.after,Region.binds md e=true→e.on ≠ i)→oi.apart ops ok=true:=fun k ok hk hki hun hno=>by
    refine hfree k ok hk hki ?_ hno
    by_cases hjk:j=k
    ·subst hjk;exact hjun
    ·rw[getD_set_ne true hjk]at hun;exact hun
   refine opAt_mono (fun a' h3=>ih (listed.setIfInBounds j true) a' (inv.set hj hjn) hfree' (ready_mono hr (Ne.symm hji)) h3.1 fun v hv=>?_) h2
   rw[Array.setIfInBounds_comm _ _ hji]
   exact h3.2 v hv

theorem anyOrder_lex {n g:Nat} {Lq:Act→Prop} (hsel:Region.noSelect ops=true) (hw:∀ listed,HeadInv md ops n listed→∀ i,i<n→listed.getD i true=false→∀ t,n≤t→t ∉ Region.ready md ops listed) {w0:World} (h0:C w0) :
  ∀ (l:List Oper) (k:Nat) (listed:Array Bool) (a:Act),(∀ j,j<l.length→l[j]? = ops[k+j]?)→k+l.length=n→HeadInv md ops n listed →
  Region.lexHead md ops g l.length k listed=true→walk P ops C Phi Lq l a →
  anyOrder P md ops C Phi n (fun listed' a'=>Region.seqB md ops g n listed'=true∧Lq a') l.length listed a
 | [],k,listed,a,_,hk,_,hB,h=>by
  obtain rfl:k=n:=by simpa using hk
  exact⟨by simpa [Region.lexHead] using hB,h⟩
 | o::l,k,listed,a,hl,hk,inv,hB,h=>by
  have ho:ops[k]? = some o:=by simpa using (hl 0 (by simp)).symm
  simp only[List.length_cons,Region.lexHead,Bool.and_eq_true]at hB
  obtain⟨⟨hr,hf⟩,hB'⟩:=hB
  have hkn:k<n:=by simp only[List.length_cons]at hk;omega
  have hr':k∈Region.ready md ops listed:=by simpa using hr
  have hst:opAt P ops C Phi k (walk P ops C Phi Lq l) a:=by unfold opAt;simp only[ho];exact h
  obtain⟨R,hy,hK⟩:=zgf ho hst
  exact anyOrder_first ho (Region.noSelect_spec hsel) hw hkn h0 (fun listed' a' hL=>seqB_ready hL.1) l.length listed a inv (Region.free_spec ho hf) hr' hy
   fun v hv=>anyOrder_lex hsel hw h0 l (k+1) _ _ (fun j hj=>by have:=hl (j+1) (by simp;omega);simpa [Nat.add_assoc,Nat.add_comm 1 j] using this) (by simp only[List.length_cons]at hk;omega) (inv.set hr' hkn) hB' (hK v hv)

theorem zs4 {id:Nat} {Q:Exit→Act→World→Prop} {a:Act} {w:World} {l:List Oper} (n:Nat) (hm:P.follows .mixedOrders=true) (hB:Region.lexTailB .any l.toArray n=true)
  (C:World→Prop) (Phi:FuncId→Array Value→Value→Prop) (hC:C { w with drawn:=w.drawn+1 })
  (h:walk P l.toArray C Phi (fun a'=>∀ w',C w'→wpList P l.toArray Q (l.drop n) a' w') (l.take n) a):(Code.region id l.toArray true).wp P Q a w:=by
 simp only[Region.lexTailB,Bool.and_eq_true,decide_eq_true_eq]at hB
 obtain⟨⟨⟨⟨hsel,hn⟩,hs⟩,hc⟩,hlex⟩:=hB
 have hn':n<l.length:=by simpa using hn
 have htl:(l.take n).length=n:=by simp;omega
 have hdl:(l.drop n).length=l.toArray.size-n:=by simp
 have inv0:HeadInv .any l.toArray n (Array.replicate l.toArray.size false) :=
  ⟨by simp,fun j oj _ hl=>(by rw[getD_replicate_false]at hl;cases hl),fun t _ ht=>getD_in (by simpa using ht) (getD_replicate_false _ _)⟩
 have H:=anyOrder_lex (md:=.any) (g:=l.toArray.size-n) hsel (fun listed inv i hi hun=>tail_waits hs hc hn inv _ i rfl hi hun) hC (l.take n) 0 _ a (fun j hj=>by
  have hj':j<n:=by rw[htl]at hj;exact hj
  simp[hj']) (by simpa using htl) inv0 (by rw[htl];exact hlex) h
 refine wp_region_any hm ?_
 have:=wpAny_of_anyOrder (Q':=Q) (g:=l.toArray.size-n) (fun listed a' w' hw' hL=>by
  have:=wpAny_of_seq (md:=.any) (Q':=Q) (l.drop n) n listed a' w' (fun j=>by simp[List.getElem?_drop]) (by rw[hdl];exact hL.1) (hL.2 w' hw')
  rwa [hdl]at this) _ _ _ _ hC H
 rw[htl,show n+(l.toArray.size-n)=l.toArray.size by omega]at this
 exact this

theorem zhc {id:Nat} {Q:Exit→Act→World→Prop} {a:Act} {w:World} {l:List Oper} (hm:P.follows .mixedOrders=true)
  (hB:(Region.noSelect l.toArray && Region.lexHead .any l.toArray 0 l.length 0 (Array.replicate l.toArray.size false))=true)
  (C:World→Prop) (Phi:FuncId→Array Value→Value→Prop) (hC:C { w with drawn:=w.drawn+1 })
  (h:walk P l.toArray C Phi (fun a'=>∀ w',C w'→Q .normal a' w') l a):(Code.region id l.toArray true).wp P Q a w:=by
 simp only[Bool.and_eq_true]at hB
 obtain⟨hsel,hlex⟩:=hB
 have inv0:HeadInv .any l.toArray l.length (Array.replicate l.toArray.size false) :=
  ⟨by simp,fun j oj _ hl=>(by rw[getD_replicate_false]at hl;cases hl),fun t _ ht=>getD_in (by simpa using ht) (getD_replicate_false _ _)⟩
 have H:=anyOrder_lex (md:=.any) (g:=0) hsel (fun listed inv i hi hun t ht hr=>by
  obtain⟨_,o,ho,_⟩:=mem_ready.1 hr
  have:=(Array.getElem?_eq_some_iff.1 ho).1
  simp at this
  omega) hC l 0 _ a (fun j hj=>by simp) (by simp) inv0 hlex h
 refine wp_region_any hm ?_
 have:=wpAny_of_anyOrder (Q':=Q) (g:=0) (fun listed a' w' hw' hL=>(by
  refine⟨by have:=hL.1;simpa [Region.seqB] using this,hL.2 w' hw'⟩:wpAny P .any l.toArray Q 0 listed a' w')) _ _ _ _ hC H
 simpa using this

theorem wp_below_all {id:Nat} {Q:Exit→Act→World→Prop} {a:Act} {w:World} {l:List Oper} (hm:P.follows .mixedOrders=true)
  (hB:(Region.noSelect l.toArray && Region.lexHead .any l.toArray 0 l.length 0 (Array.replicate l.toArray.size false))=true)
  (Phi:FuncId→Array Value→Value→Prop)
  (h:walk P l.toArray (fun w'=>Go.RowKit.Below w.heap.size w w') Phi (fun a'=>∀ w',Go.RowKit.Below w.heap.size w w'→Q .normal a' w') l a):(Code.region id l.toArray true).wp P Q a w :=
 zhc hm hB _ Phi ((Go.RowKit.Below.refl _ _).drew) h

theorem wp_below {id:Nat} {Q:Exit→Act→World→Prop} {a:Act} {w:World} {l:List Oper} (n:Nat) (hm:P.follows .mixedOrders=true) (hB:Region.lexTailB .any l.toArray n=true)
  (Phi:FuncId→Array Value→Value→Prop)
  (h:walk P l.toArray (fun w'=>Go.RowKit.Below w.heap.size w w') Phi (fun a'=>∀ w',Go.RowKit.Below w.heap.size w w'→wpList P l.toArray Q (l.drop n) a' w') (l.take n) a):(Code.region id l.toArray true).wp P Q a w :=
 zs4 n hm hB _ Phi ((Go.RowKit.Below.refl _ _).drew) h

def zur (P:Program) (o:Oper) (a:Act) (w:World) (v:Value) (w':World):Prop :=
 Go.RowKit.Below w.heap.size w w'∧((execOp a.eval o).run P w=.ok (.value v) w'∨(∃ f args w1,(execOp a.eval o).run P w=.ok (.enter f args) w1)∨(∃ w1,(execOp a.eval o).run P w=.ok .skip w1))

theorem zps {E:Act→World→Prop} {o:Oper} {a:Act} {K:Act→Prop} {K':Act→World→Prop} {Q':Exit→Act→World→Prop} {w:World} (hw:C w)
  (hE:∀ v w',zur P o a w v w'→E (a.put o.dst v) w') (h:∀ v w',C w'→E (a.put o.dst v) w'→K (a.put o.dst v)→K' (a.put o.dst v) w') (hh:one P C Phi o a K):o.wp P a w K' Q':=by
 obtain⟨R,h1,h2⟩:=hh
 have h3:=h1 w hw
 unfold atw at h3
 unfold zur at hE
 unfold Oper.wp
 generalize (execOp a.eval o).run P w=r at h3 hE ⊢
 cases r with
 | ok n w' =>
  cases n with
  | value u=>exact h _ _ h3.1.1 (hE _ _ ⟨h3.1.2,.inl rfl⟩) (h2 u h3.2)
  | skip=>exact h _ _ h3.1.1 (hE _ _ ⟨h3.1.2,.inr (.inr ⟨_,rfl⟩)⟩) (h2 _ h3.2)
  | enter f args=>exact h3.2.1.mono fun e w'' ⟨v,he,hp,hc,hl⟩=>by subst he;exact h _ _ hc (hE _ _ ⟨h3.1.2.trans (hl.mono h3.1.2.size),.inr (.inl ⟨f,args,w',rfl⟩)⟩) (h2 v (h3.2.2 v hp))
  | _=>exact h3.elim
 | halt x w'=>exact h3.elim

theorem zar {E:Act→World→Prop} {n g:Nat} {L:Array Bool→Act→Prop} {Q':Exit→Act→World→Prop} (hL:∀ listed a w,C w→E a w→L listed a→wpAny P md ops Q' g listed a w)
  (hE:∀ i o a w v w',i<n→ops[i]? = some o→C w→E a w→zur P o a w v w'→E (a.put o.dst v) w') (hg:∀ i o,i<n→ops[i]? = some o→o.guard=none) :
  ∀ (f:Nat) (listed:Array Bool) (a:Act) (w:World),C w→E a w→anyOrder P md ops C Phi n L f listed a→wpAny P md ops Q' (f+g) listed a w
 | 0,listed,a,w,hw,he,h=>by rw[Nat.zero_add];exact hL _ _ _ hw he h
 | f+1,listed,a,w,hw,he,h=>by
  rw[show f+1+g=(f+g)+1 by omega]
  refine⟨fun h0=>absurd h0 h.1,fun i hi=>?_⟩
  obtain⟨hin,hop⟩:=h.2 i hi
  unfold wpOp
  cases ho:ops[i]? with
  | none =>
   obtain⟨_,o,ho',_⟩:=mem_ready.1 hi
   rw[ho]at ho';cases ho'
  | some o =>
   simp only[opAt,ho]at hop ⊢
   have hwn:Region.wanted o (yielded ops a.tmps)=true:=by simp[Region.wanted,hg i o hin ho]
   rw[if_pos hwn]at hop;rw[if_pos hwn]
   exact .inl (zps hw (fun v w' hc=>hE i o a w v w' hin ho hw he hc) (fun v w' hw' he' hk=>zar hL hE hg f _ _ w' hw' he' hk) hop)

theorem zn5 {id:Nat} {Q:Exit→Act→World→Prop} {a:Act} {w:World} {l:List Oper} (n:Nat) (hm:P.follows .mixedOrders=true) (hB:Region.lexTailB .any l.toArray n=true)
  (C:World→Prop) (Phi:FuncId→Array Value→Value→Prop) (E:Act→World→Prop) (hC:C { w with drawn:=w.drawn+1 }) (hE0:E a { w with drawn:=w.drawn+1 })
  (hE:∀ i o a w v w',i<n→l[i]? = some o→C w→E a w→zur P o a w v w'→E (a.put o.dst v) w') (hg:((l.take n).all fun o=>o.guard.isNone)=true)
  (h:walk P l.toArray C Phi (fun a'=>∀ w',C w'→E a' w'→wpList P l.toArray Q (l.drop n) a' w') (l.take n) a):(Code.region id l.toArray true).wp P Q a w:=by
 simp only[Region.lexTailB,Bool.and_eq_true,decide_eq_true_eq]at hB
 obtain⟨⟨⟨⟨hsel,hn⟩,hs⟩,hc⟩,hlex⟩:=hB
 have hn':n<l.length:=by simpa using hn
 have htl:(l.take n).length=n:=by simp;omega
 have hdl:(l.drop n).length=l.toArray.size-n:=by simp
 have inv0:HeadInv .any l.toArray n (Array.replicate l.toArray.size false) :=
  ⟨by simp,fun j oj _ hl=>(by rw[getD_replicate_false]at hl;cases hl),fun t _ ht=>getD_in (by simpa using ht) (getD_replicate_false _ _)⟩
 have H:=anyOrder_lex (md:=.any) (g:=l.toArray.size-n) hsel (fun listed inv i hi hun=>tail_waits hs hc hn inv _ i rfl hi hun) hC (l.take n) 0 _ a (fun j hj=>by
  have hj':j<n:=by rw[htl]at hj;exact hj
  simp[hj']) (by simpa using htl) inv0 (by rw[htl];exact hlex) h
 refine wp_region_any hm ?_
 have:=zar (Q':=Q) (E:=E) (g:=l.toArray.size-n) (fun listed a' w' hw' he hL=>by
  have:=wpAny_of_seq (md:=.any) (Q':=Q) (l.drop n) n listed a' w' (fun j=>by simp[List.getElem?_drop]) (by rw[hdl];exact hL.1) (hL.2 w' hw' he)
  rwa [hdl]at this) (fun i o a w v w' hi ho=>hE i o a w v w' hi (by simpa using ho)) (fun i o hi ho=>by
   have h1:=List.all_eq_true.1 hg o (List.mem_of_getElem? (i:=i) (by rw[List.getElem?_take,if_pos hi];simpa using ho))
   exact Option.isNone_iff_eq_none.1 h1) _ _ _ _ hC hE0 H
 rw[htl,show n+(l.toArray.size-n)=l.toArray.size by omega]at this
 exact this

def zx7 (W:World) (d:Tmp) (zs:Array Value) (T:TypeId) (a:Act) (w:World):Prop :=
 ∀ p,a.tmps.getD d undef=.pointer p→∃ g,p=some ⟨g,0,none⟩∧W.heap.size≤g∧w.heap[g]? = some (.cells zs T (0,0))

theorem getD_put (a:Act) (x:Option Tmp) (v:Value) (d:Tmp) (h:x ≠ some d):(a.put x v).tmps.getD d undef=a.tmps.getD d undef:=by
 cases x with
 | none=>rfl
 | some y =>
  have hy:y ≠ d:=fun e=>h (by rw[e])
  simp only[Act.put,Array.getD_eq_getD_getElem?]
  rw[Array.getElem?_setIfInBounds_ne hy]

theorem wp_made {id:Nat} {Q:Exit→Act→World→Prop} {a:Act} {w:World} {l:List Oper} (n m:Nat) (d:Tmp) (zs:Array Value) (T:TypeId) (hm:P.follows .mixedOrders=true) (hB:Region.lexTailB .any l.toArray n=true)
  (Phi:FuncId→Array Value→Value→Prop) (h0:a.tmps.getD d undef=undef) (hd:((List.range n).all fun i=>i==m || ((l[i]?).bind (·.dst)) != some d)=true)
  (hop:∃ om,l[m]? = some om∧om.dst=some d∧∀ (a:Act) (w:World),(execOp a.eval om).run P w=.ok (.value (.pointer (some ⟨w.heap.size,0,none⟩))) (w.alloc (.cells zs T)))
  (hg:((l.take n).all fun o=>o.guard.isNone)=true)
  (h:walk P l.toArray (fun w'=>Go.RowKit.Below w.heap.size w w') Phi (fun a'=>∀ w',Go.RowKit.Below w.heap.size w w'→zx7 w d zs T a' w'→wpList P l.toArray Q (l.drop n) a' w') (l.take n) a):(Code.region id l.toArray true).wp P Q a w:=by
 refine zn5 n hm hB _ Phi (zx7 w d zs T) ((Go.RowKit.Below.refl _ _).drew) (fun p hp=>by rw[h0]at hp;cases hp) ?_ hg h
 intro i o a' w1 v w2 hi ho hw1 hE hc
 by_cases him:i=m
 ·subst him
  obtain⟨om,hom,hdst,hrun⟩:=hop
  have:o=om:=Option.some.inj (ho.symm.trans hom)
  subst this
  unfold zur at hc
  rw[hrun]at hc
  rcases hc.2 with hc|⟨f,args,w3,hc⟩|⟨w3,hc⟩
  ·injection hc with e1 e2
   injection e1 with e1
   subst e1;subst e2
   intro p hp
   by_cases hlt:d<a'.tmps.size
   ·rw[hdst]at hp
    simp only[Act.put,Array.getD_eq_getD_getElem?]at hp
    rw[Array.getElem?_setIfInBounds_self_of_lt hlt]at hp
    simp only[Option.getD_some]at hp
    injection hp with hp
    exact⟨w1.heap.size,hp.symm,hw1.size,by show (w1.heap.push _)[w1.heap.size]? = _;simp⟩
   ·rw[hdst]at hp
    simp only[Act.put,Array.getD_eq_getD_getElem?]at hp
    rw[Array.getElem?_eq_none (by rw[Array.size_setIfInBounds];exact Nat.le_of_not_lt hlt)]at hp
    cases hp
  ·cases hc
  ·cases hc
 ·have hne:o.dst ≠ some d:=by
   have h1:=List.all_eq_true.1 hd i (List.mem_range.2 hi)
   simp only[ho,Bool.or_eq_true,beq_iff_eq,bne_iff_ne,Option.bind_some]at h1
   rcases h1 with h1|h1
   ·exact absurd h1 him
   ·exact h1
  have hle:Go.RowKit.Below w1.heap.size w1 w2:=hc.1
  intro p hp
  rw[getD_put _ _ _ _ hne]at hp
  obtain⟨g,hg1,hg2,hg3⟩:=hE p hp
  refine⟨g,hg1,hg2,?_⟩
  have hlt:g<w1.heap.size:=by
   rcases Nat.lt_or_ge g w1.heap.size with h'|h'
   ·exact h'
   ·rw[Array.getElem?_eq_none h']at hg3;cases hg3
  rw[hle.block g hlt];exact hg3

end
end Go.Qr

namespace Go.Fl
open Go Go.RowKit
def vd:FloatKind→Nat
 | .f32=>2143289344
 | .f64=>9221120237041090560

def cn (k:FloatKind) (x:Nat):Nat:=if (k.decode x).isNaN then vd k else x

theorem qu (k:FloatKind):(k.decode (vd k)).isNaN=true:=by cases k<;>decide +kernel

theorem jh (k:FloatKind) (x:Nat):(k.decode (cn k x)).isNaN=(k.decode x).isNaN:=by
 unfold cn
 split
 ·rename_i h;rw[qu,h]
 ·rfl

theorem xh {k:FloatKind} {x:Nat} (h:(k.decode x).isNaN=false):cn k x=x:=by unfold cn;rw[h];rfl
theorem uz {k:FloatKind} {x:Nat} (h:(k.decode x).isNaN=true):cn k x=vd k:=by unfold cn;rw[h];rfl
theorem zyf (k:FloatKind) (x:Nat):cn k (cn k x)=cn k x:=by
 cases h:(k.decode x).isNaN
 ·rw[xh h,xh h]
 ·rw[uz h,uz (qu k)]

theorem uj {d:Ieee.Datum} (h:d.isNaN=true):∃ s t,d=.nan s t:=by
 cases d with
 | nan s t=>exact⟨s,t,rfl⟩
 | _=>cases h

theorem zc9 {d e:Ieee.Datum} (h:d.isNaN=true):d.sum e=none:=by obtain⟨s,t,rfl⟩:=uj h;cases e<;>rfl
theorem zc2 {d e:Ieee.Datum} (h:e.isNaN=true):d.sum e=none:=by obtain⟨s,t,rfl⟩:=uj h;cases d<;>rfl
theorem za6 {d:Ieee.Datum}:d.opposite.isNaN=d.isNaN:=by cases d<;>rfl
theorem zhr {d e:Ieee.Datum} (h:d.isNaN=true):d.product e=none:=by obtain⟨s,t,rfl⟩:=uj h;cases e<;>rfl
theorem zhv {d e:Ieee.Datum} (h:e.isNaN=true):d.product e=none:=by obtain⟨s,t,rfl⟩:=uj h;cases d<;>rfl
theorem zgq {n:Nat} {d e:Ieee.Datum} (h:d.isNaN=true):d.quotient n e=none:=by obtain⟨s,t,rfl⟩:=uj h;cases e<;>rfl
theorem zgt {n:Nat} {d e:Ieee.Datum} (h:e.isNaN=true):d.quotient n e=none:=by obtain⟨s,t,rfl⟩:=uj h;cases d<;>rfl
theorem zcr {d e:Ieee.Datum} (h:d.isNaN=true):d.order e=none:=by obtain⟨s,t,rfl⟩:=uj h;cases e<;>rfl
theorem zli {d e:Ieee.Datum} (h:e.isNaN=true):d.order e=none:=by obtain⟨s,t,rfl⟩:=uj h;cases d<;>rfl
theorem zg3 {n:Nat} {d:Ieee.Datum} (h:d.isNaN=true):d.root n=none:=by obtain⟨s,t,rfl⟩:=uj h;rfl

theorem ziu (k:FloatKind) (x:Nat):k.decode x=k.format.read x:=rfl

theorem zgj {α:Type} (k:FloatKind) (f:Ieee.Datum→Ieee.Datum→α) (z:α) (hl:∀ d e,d.isNaN=true→f d e=z) (hr:∀ d e,e.isNaN=true→f d e=z) (x y:Nat) :
  f (k.format.read (cn k x)) (k.format.read (cn k y))=f (k.format.read x) (k.format.read y):=by
 cases hx:(k.decode x).isNaN
 ·cases hy:(k.decode y).isNaN
  ·rw[xh hx,xh hy]
  ·rw[hr _ _ (by rw[← ziu,jh];exact hy),hr _ (k.format.read y) hy]
 ·rw[hl _ _ (by rw[← ziu,jh];exact hx),hl (k.format.read x) _ hx]

theorem zd4 (op:BinOp) (k:FloatKind) (x y:Nat):floatBits op k (cn k x) (cn k y)=floatBits op k x y:=by
 unfold floatBits
 cases op<;>try rfl
 ·exact zgj k (fun d e=>(d.sum e).map k.format.write) none (fun d e h=>by rw[zc9 h];rfl) (fun d e h=>by rw[zc2 h];rfl) x y
 ·exact zgj k (fun d e=>(d.sum e.opposite).map k.format.write) none (fun d e h=>by rw[zc9 h];rfl) (fun d e h=>by rw[zc2 (by rw[za6];exact h)];rfl) x y
 ·exact zgj k (fun d e=>(d.product e).map k.format.write) none (fun d e h=>by rw[zhr h];rfl) (fun d e h=>by rw[zhv h];rfl) x y
 ·exact zgj k (fun d e=>(d.quotient (k.format.fractionBits+2) e).map k.format.write) none (fun d e h=>by rw[zgq h];rfl) (fun d e h=>by rw[zgt h];rfl) x y

theorem um (k:FloatKind) (x y:Nat):k.format.order (cn k x) (cn k y)=k.format.order x y :=
 zgj k (fun d e=>d.order e) none (fun _ _ h=>zcr h) (fun _ _ h=>zli h) x y

theorem read_word (f:Ieee.Format) (neg:Bool) (r:Nat) (h:r≤f.infRung):(f.read (f.word neg r)).isNaN=false:=by
 have hlt:r<f.signWeight:=Nat.lt_of_le_of_lt h (Ieee.Format.infRung_lt f)
 have hm:f.word neg r % f.signWeight=r:=by
  unfold Ieee.Format.word
  split
  ·rw[Nat.add_mod_left];exact Nat.mod_eq_of_lt hlt
  ·exact Nat.mod_eq_of_lt hlt
 unfold Ieee.Format.read
 simp only[hm]
 split
 ·rfl
 ·split
  ·rfl
  ·split
   ·rfl
   ·omega

theorem zl8 (f:Ieee.Format) (neg:Bool) (m:Nat) (e:Int):(f.read (f.nearest neg m e)).isNaN=false:=by
 unfold Ieee.Format.nearest
 split
 ·exact read_word f neg 0 (Nat.zero_le _)
 ·exact read_word f neg _ (Nat.min_le_right _ _)

theorem qg (f:Ieee.Format) {d:Ieee.Datum} (h:d.isNaN=false):(f.read (f.write d)).isNaN=false:=by
 cases d with
 | number s m e=>exact zl8 f s m e
 | infinity s=>exact read_word f s _ (Nat.le_refl _)
 | nan s t=>cases h

theorem kt {d e r:Ieee.Datum} (h:d.sum e=some r):r.isNaN=false:=by
 cases d<;>cases e<;>simp only[Ieee.Datum.sum]at h<;>first|(cases h;done)|(cases h;rfl)|(split at h<;>cases h<;>rfl)
theorem zl5 {d e r:Ieee.Datum} (h:d.product e=some r):r.isNaN=false:=by
 cases d<;>cases e<;>simp only[Ieee.Datum.product]at h<;>first|(cases h;done)|(cases h;rfl)|(split at h<;>cases h<;>rfl)
theorem zb2 {n:Nat} {d e r:Ieee.Datum} (h:d.quotient n e=some r):r.isNaN=false:=by
 cases d<;>cases e<;>simp only[Ieee.Datum.quotient]at h<;>first|(cases h;done)|(cases h;rfl)|(split at h<;>(try split at h)<;>cases h<;>rfl)
theorem zuk {n:Nat} {d r:Ieee.Datum} (h:d.root n=some r):r.isNaN=false:=by
 cases d<;>simp only[Ieee.Datum.root]at h<;>first|(cases h;done)|(cases h;rfl)|(split at h<;>(try split at h)<;>cases h<;>rfl)

theorem zh2 {op:BinOp} {k:FloatKind} {x y r:Nat} (h:floatBits op k x y=some r):(k.decode r).isNaN=false:=by
 unfold floatBits at h
 split at h
 ·obtain⟨d,hd,rfl⟩:=Option.map_eq_some_iff.1 h;exact qg _ (kt hd)
 ·obtain⟨d,hd,rfl⟩:=Option.map_eq_some_iff.1 h;exact qg _ (kt hd)
 ·obtain⟨d,hd,rfl⟩:=Option.map_eq_some_iff.1 h;exact qg _ (zl5 hd)
 ·obtain⟨d,hd,rfl⟩:=Option.map_eq_some_iff.1 h;exact qg _ (zb2 hd)
 ·cases h

def bin (op:BinOp) (k:FloatKind) (x y:Nat):Nat:=(floatBits op k x y).getD (vd k)

theorem zo0 (s m:Nat) (h0:0<m) (h1:m<8388608):(Ieee.single.read (s % 2*2147483648+(2139095040+m))).isNaN=true:=by
 have e1:Ieee.single.signWeight=2147483648:=by decide
 have e2:Ieee.single.binade=8388608:=by decide
 have e3:Ieee.single.infRung=2139095040:=by decide
 have hm:(s % 2*2147483648+(2139095040+m)) % 2147483648=2139095040+m:=by omega
 unfold Ieee.Format.read
 simp only[e1,e2,e3,hm]
 rw[if_neg (by omega),if_neg (by omega),if_neg (by omega)]
 rfl

theorem zgm (s m:Nat) (h0:0<m) (h1:m<4503599627370496):(Ieee.double.read (s % 2*9223372036854775808+(9218868437227405312+m))).isNaN=true:=by
 have e1:Ieee.double.signWeight=9223372036854775808:=by decide
 have e2:Ieee.double.binade=4503599627370496:=by decide
 have e3:Ieee.double.infRung=9218868437227405312:=by decide
 have hm:(s % 2*9223372036854775808+(9218868437227405312+m)) % 9223372036854775808=9218868437227405312+m:=by omega
 unfold Ieee.Format.read
 simp only[e1,e2,e3,hm]
 rw[if_neg (by omega),if_neg (by omega),if_neg (by omega)]
 rfl

theorem zfq (k:FloatKind) (x y t:Nat):(k.decode (Question.cut (.nanBits k x y) t)).isNaN=true:=by
 cases k
 ·have h:t / 2 % 8388607<8388607:=Nat.mod_lt _ (by decide)
  have:=zo0 t (1+t / 2 % 8388607) (by omega) (by omega)
  have e:t % 2*2147483648+(2139095040+(1+t / 2 % 8388607))=Question.cut (.nanBits .f32 x y) t:=by
   show _=t % 2*2 ^ 31+0x7f800000+1+t / 2 % (2 ^ 23-1)
   omega
  rw[e]at this;exact this
 ·have h:t / 2 % 4503599627370495<4503599627370495:=Nat.mod_lt _ (by decide)
  have:=zgm t (1+t / 2 % 4503599627370495) (by omega) (by omega)
  have e:t % 2*9223372036854775808+(9218868437227405312+(1+t / 2 % 4503599627370495))=Question.cut (.nanBits .f64 x y) t:=by
   show _=t % 2*2 ^ 63+0x7ff0000000000000+1+t / 2 % (2 ^ 52-1)
   omega
  rw[e]at this;exact this

theorem zuq (k:FloatKind) (x t:Nat):(k.decode (Question.cut (.nanConv k x) t)).isNaN=true:=by
 cases k
 ·exact zfq .f32 x x t
 ·exact zfq .f64 x x t

def zik:BinOp→Bool
 | .add|.sub|.mul|.quo=>true
 | _=>false

section
variable {P:Program}
theorem zfm (w:World) (op:BinOp) (t:TypeId) (k:FloatKind) (x y:Nat) (h:zik op=true) :
  ∃ r n,(binOp op t (.float k x) (.float k y)).run P w=.ok (.float k r) (w.drewN n)∧cn k r=bin op k (cn k x) (cn k y):=by
 cases hb:floatBits op k x y with
 | some r =>
  refine⟨r,0,by rw[run_float_arith w op t k x y r hb];rfl,?_⟩
  unfold bin
  rw[zd4,hb,xh (zh2 hb)]
  rfl
 | none =>
  refine⟨Question.cut (.nanBits k x y) (w.tape w.drawn (.nanBits k x y)),1,?_,?_⟩
  ·unfold floatBits at hb
   cases op<;>first|(cases h;done)|skip
   all_goals simp only at hb;simp[binOp,Op.floatArith,hb,choose,Sem.run,Question.forced,World.drewN,World.ask]
  ·unfold bin
   rw[zd4,hb,uz (zfq k x y _)]
   rfl

theorem wp_op {ops:Array Oper} {rest:List Oper} {o:Oper} {a:Act} {Q:Exit→Act→World→Prop} {w:World} (hgd:o.guard=none) (v:Value) (w':World)
  (hr:(execOp a.eval o).run P w=.ok (.value v) w') (h:wpList P ops Q rest (a.put o.dst v) w'):wpList P ops Q (o::rest) a w :=
 wpList_plain hgd fun K hK=>by unfold Oper.wp;rw[hr];exact hK _ _ h

theorem zf8 (o:Oper) (a:Act) (op:BinOp) (t t2:TypeId) (x y:Operand) (ho:o.op=.binOp op t x y t2) (hop:zik op=true) (w:World) (v:Value) (w':World)
  (hr:(binOp op t (a.eval x) (a.eval y)).run P w=.ok v w'):(execOp a.eval o).run P w=.ok (.value v) w':=by
 cases op<;>first|(cases hop;done)|skip
 all_goals simp[execOp,ho,eqGuard,hr]

theorem k8 (o:Oper) (a:Act) (s d:TypeId) (x:Operand) (ho:o.op=.convert s d x) (w:World) (v:Value) (w':World)
  (hr:(convert s d (a.eval x)).run P w=.ok v w'):(execOp a.eval o).run P w=.ok (.value v) w':=by
 simp[execOp,ho,hr]

theorem z6 {ops:Array Oper} {rest:List Oper} {o:Oper} {a:Act} {Q:Exit→Act→World→Prop} {w:World} (hgd:o.guard=none) (op:BinOp) (t t2:TypeId) (x y:Operand)
  (ho:o.op=.binOp op t x y t2) (k:FloatKind) (u v:Nat) (hx:a.eval x=.float k u) (hy:a.eval y=.float k v) (hop:zik op=true)
  (h:∀ r n,cn k r=bin op k (cn k u) (cn k v)→wpList P ops Q rest (a.put o.dst (.float k r)) (w.drewN n)):wpList P ops Q (o::rest) a w:=by
 obtain⟨r,n,hr,hc⟩:=zfm (P:=P) w op t k u v hop
 exact wp_op hgd _ _ (zf8 o a op t t2 x y ho hop w _ _ (by rw[hx,hy];exact hr)) (h r n hc)

def wid (x:Nat):Nat:=if (FloatKind.f32.decode x).isNaN then vd .f64 else FloatKind.f64.encode (FloatKind.f32.decode x)
def nar (x:Nat):Nat:=if (FloatKind.f64.decode x).isNaN then vd .f32 else FloatKind.f32.encode (FloatKind.f64.decode x)
def zco (x:Nat):Prop:=∀ s m e,FloatKind.f64.decode x=.number s m e→(FloatKind.f32.decode (FloatKind.f32.encode (.number s m e))).isInfinity=false
def zxe (x:Nat):Prop:=∀ s m e,FloatKind.f32.decode x=.number s m e→(FloatKind.f64.decode (FloatKind.f64.encode (.number s m e))).isInfinity=false

theorem zhb (w:World) (s d:TypeId) (ks kd:FloatKind) (hne:ks ≠ kd) (hs:(P.underlying s).isSome=true) (hd:P.underlying d=some (.float kd)) (x:Nat)
  (hf:∀ s m e,ks.decode x=.number s m e→(kd.decode (kd.encode (.number s m e))).isInfinity=false) :
  ∃ r n,(convert s d (.float ks x)).run P w=.ok (.float kd r) (w.drewN n)∧cn kd r=if (ks.decode x).isNaN then vd kd else kd.encode (ks.decode x):=by
 obtain⟨u,hs'⟩:=Option.isSome_iff_exists.1 hs
 cases hx:ks.decode x with
 | nan sg t =>
  refine⟨Question.cut (.nanConv kd x) (w.tape w.drawn (.nanConv kd x)),1,?_,by rw[uz (zuq kd x _)];rfl⟩
  cases u<;>simp[convert,run_underlying hs',run_underlying hd,Conv.floatToFloat,hx,hne,choose,Sem.run,Question.forced,World.drewN,World.ask]
 | infinity sg =>
  refine⟨kd.encode (.infinity sg),0,?_,by rw[xh (show (kd.decode (kd.encode _)).isNaN=false from qg kd.format rfl)];rfl⟩
  rw[run_convert_float_float w s d ks kd x _ hs hd (by unfold floatToFloatBits;rw[if_neg hne,hx])]
  rfl
 | number sg m e =>
  refine⟨kd.encode (.number sg m e),0,?_,by rw[xh (show (kd.decode (kd.encode _)).isNaN=false from qg kd.format rfl)];rfl⟩
  rw[run_convert_float_float w s d ks kd x _ hs hd (by unfold floatToFloatBits;rw[if_neg hne,hx];simp only[hf _ _ _ hx];rfl)]
  rfl

theorem kx {k:FloatKind} {x:Nat} (h:(k.decode x).isNaN=false):k.decode (cn k x)=k.decode x:=by rw[xh h]

theorem zjg (ks kd:FloatKind) (x:Nat):(if (ks.decode (cn ks x)).isNaN then vd kd else kd.encode (ks.decode (cn ks x)))=if (ks.decode x).isNaN then vd kd else kd.encode (ks.decode x):=by
 rw[jh]
 cases h:(ks.decode x).isNaN
 ·rw[kx h]
 ·rfl

theorem zbb {ops:Array Oper} {rest:List Oper} {o:Oper} {a:Act} {Q:Exit→Act→World→Prop} {w:World} (hgd:o.guard=none) (s d:TypeId) (x:Operand)
  (ho:o.op=.convert s d x) (u:Nat) (hx:a.eval x=.float .f32 u) (hs:(P.underlying s).isSome=true) (hd:P.underlying d=some (.float .f64)) (hf:∀ x,zxe x)
  (h:∀ r n,cn .f64 r=wid (cn .f32 u)→wpList P ops Q rest (a.put o.dst (.float .f64 r)) (w.drewN n)):wpList P ops Q (o::rest) a w:=by
 obtain⟨r,n,hr,hc⟩:=zhb (P:=P) w s d .f32 .f64 (by decide) hs hd u (hf u)
 refine wp_op hgd _ _ (k8 o a s d x ho w _ _ (by rw[hx];exact hr)) (h r n ?_)
 rw[hc];exact (zjg .f32 .f64 u).symm

theorem zww {x:Nat} (h:zco (cn .f64 x)):zco x:=by
 intro s m e hx
 refine h s m e ?_
 rw[kx (by rw[hx];rfl)];exact hx

theorem vq {ops:Array Oper} {rest:List Oper} {o:Oper} {a:Act} {Q:Exit→Act→World→Prop} {w:World} (hgd:o.guard=none) (s d:TypeId) (x:Operand)
  (ho:o.op=.convert s d x) (u:Nat) (hx:a.eval x=.float .f64 u) (hs:(P.underlying s).isSome=true) (hd:P.underlying d=some (.float .f32)) (hf:zco (cn .f64 u))
  (h:∀ r n,cn .f32 r=nar (cn .f64 u)→wpList P ops Q rest (a.put o.dst (.float .f32 r)) (w.drewN n)):wpList P ops Q (o::rest) a w:=by
 obtain⟨r,n,hr,hc⟩:=zhb (P:=P) w s d .f64 .f32 (by decide) hs hd u (zww hf)
 refine wp_op hgd _ _ (k8 o a s d x ho w _ _ (by rw[hx];exact hr)) (h r n ?_)
 rw[hc];exact (zjg .f64 .f32 u).symm

theorem znx (o:Oper) (a:Act) (f:FuncId) (x:Operand) (ats:Array TypeId) (ho:o.op=.call { callee:=.value (.func f),args:=#[x],argTypes:=ats }) (hf:a.eval (.func f)=.func (.func f) #[] #[])
  (e:Array Value→Sem Value) (hcf:∀ args w,(callFunc f args).run P w=((e args).run P w).andThen fun v w'=>.ok (.value v) w') (w:World) (v:Value) (w':World)
  (hr:(e #[a.eval x]).run P w=.ok v w'):(execOp a.eval o).run P w=.ok (.value v) w':=by
 simp only[execOp,ho,resolve,invoke,Deferred.ofValue,hf,Sem.run_bind,Sem.run_pure,Result.andThen_ok]
 simp only[List.map_toArray,List.map_cons,List.map_nil,Array.empty_append,Array.append_empty,hcf,hr]
 rfl

theorem jz {ops:Array Oper} {rest:List Oper} {o:Oper} {a:Act} {Q:Exit→Act→World→Prop} {w:World} (hgd:o.guard=none) (f:FuncId) (x:Operand) (ats:Array TypeId)
  (ho:o.op=.call { callee:=.value (.func f),args:=#[x],argTypes:=ats }) (hf:a.eval (.func f)=.func (.func f) #[] #[])
  (e:Array Value→Sem Value) (hcf:∀ args w,(callFunc f args).run P w=((e args).run P w).andThen fun v w'=>.ok (.value v) w') (R:Value→Prop)
  (hr:∃ v n,(e #[a.eval x]).run P w=.ok v (w.drewN n)∧R v) (h:∀ v n,R v→wpList P ops Q rest (a.put o.dst v) (w.drewN n)):wpList P ops Q (o::rest) a w:=by
 obtain⟨v,n,h1,h2⟩:=hr
 exact wp_op hgd _ _ (znx o a f x ats ho hf e hcf w _ _ h1) (h v n h2)

def sqr (x:Nat):Nat:=(FloatKind.f64.format.sqrt x).getD (vd .f64)
theorem zp3 (x:Nat):FloatKind.f64.format.sqrt (cn .f64 x)=FloatKind.f64.format.sqrt x:=by
 cases h:(FloatKind.f64.decode x).isNaN
 ·rw[xh h]
 ·have h2:(FloatKind.f64.decode (cn .f64 x)).isNaN=true:=by rw[jh];exact h
  show ((FloatKind.f64.decode (cn .f64 x)).root _).map _=((FloatKind.f64.decode x).root _).map _
  rw[zg3 h,zg3 h2]
theorem zti {x r:Nat} (h:FloatKind.f64.format.sqrt x=some r):(FloatKind.f64.decode r).isNaN=false:=by
 obtain⟨d,hd,rfl⟩:=Option.map_eq_some_iff.1 h
 exact qg _ (zuk hd)
theorem zto (w:World) (x:Nat):∃ v n,(Extern.MathSqrt.sqrt #[.float .f64 x]).run P w=.ok v (w.drewN n)∧∃ r,v=.float .f64 r∧cn .f64 r=sqr (cn .f64 x):=by
 cases hb:FloatKind.f64.format.sqrt x with
 | some r =>
  refine⟨.float .f64 r,0,?_,r,rfl,by unfold sqr;rw[zp3,hb,xh (zti hb)];rfl⟩
  show Sem.run P (match FloatKind.f64.format.sqrt x with|some r=>pure (Value.float .f64 r)|none=>do pure (.float .f64 (← choose (.nanBits .f64 x x)))) w=_
  rw[hb];rfl
 | none =>
  refine⟨.float .f64 (Question.cut (.nanBits .f64 x x) (w.tape w.drawn (.nanBits .f64 x x))),1,?_,_,rfl,by unfold sqr;rw[zp3,hb,uz (zfq .f64 x x _)];rfl⟩
  show Sem.run P (match FloatKind.f64.format.sqrt x with|some r=>pure (Value.float .f64 r)|none=>do pure (.float .f64 (← choose (.nanBits .f64 x x)))) w=_
  rw[hb]
  simp[choose,Sem.run,Question.forced,World.drewN,World.ask]

def whole (way:Ieee.Toward) (x:Nat):Nat:=if (FloatKind.f64.decode x).isNaN then vd .f64 else FloatKind.f64.encode ((FloatKind.f64.decode x).integral way)
theorem zun (way:Ieee.Toward) (x:Nat):whole way (cn .f64 x)=whole way x:=by
 unfold whole
 rw[jh]
 cases h:(FloatKind.f64.decode x).isNaN
 ·rw[kx h]
 ·rfl

theorem zk4 (t:Nat) (h:t<4503599627370496):Ieee.double.quiet t<4503599627370496:=by
 have:t ||| 2 ^ 51<2 ^ 52:=Nat.or_lt_two_pow h (by decide)
 exact this
theorem zrs (t:Nat):0<Ieee.double.quiet t:=by
 have:2 ^ 51≤t ||| 2 ^ 51:=Nat.right_le_or
 exact Nat.lt_of_lt_of_le (by decide) this

theorem zms {x:Nat} {s:Bool} {t:Nat} (h:FloatKind.f64.decode x=.nan s t):t<4503599627370496:=by
 have e1:Ieee.double.signWeight=9223372036854775808:=by decide
 have e2:Ieee.double.binade=4503599627370496:=by decide
 have e3:Ieee.double.infRung=9218868437227405312:=by decide
 change Ieee.double.read x=_ at h
 unfold Ieee.Format.read at h
 simp only[e1,e2,e3]at h
 split at h
 ·cases h
 ·split at h
  ·cases h
  ·split at h
   ·cases h
   ·injection h with h1 h2
    omega

theorem zsx (s:Bool) (t:Nat) (h:t<4503599627370496):Ieee.double.write (.nan s t)=(if s then 1 else 0) % 2*9223372036854775808+(9218868437227405312+t):=by
 have e1:Ieee.double.signWeight=9223372036854775808:=by decide
 have e2:Ieee.double.binade=4503599627370496:=by decide
 have e3:Ieee.double.infRung=9218868437227405312:=by decide
 have hm:t % 4503599627370496=t:=Nat.mod_eq_of_lt h
 simp only[Ieee.Format.write,Ieee.Format.word,e1,e2,e3,hm]
 cases s
 ·simp only[Bool.false_eq_true,if_false];omega
 ·simp only[if_true];try omega

theorem zo6 {k:FloatKind} {d:Ieee.Datum} (h:d.isNaN=false):cn k (k.encode d)=k.encode d:=xh (qg k.format h)

theorem zbf (w:World) (name:String) (way:Ieee.Toward) (x:Nat):∃ v n,(Extern.MathFloor.toIntegral name way #[.float .f64 x]).run P w=.ok v (w.drewN n)∧∃ r,v=.float .f64 r∧cn .f64 r=whole way (cn .f64 x):=by
 have hd:(Extern.MathFloor.toIntegral name way #[.float .f64 x]).run P w=Sem.run P (match FloatKind.f64.decode x with
  | .nan s t=>if FloatKind.f64.format.quiet t=t then pure (Value.float .f64 x) else do
    let kept ← choose (.extern "math.Floor,Ceil,Trunc,RoundToEven.signallingNaN kept" 2)
    pure (.float .f64 (if kept==1 then x else FloatKind.f64.encode (.nan s (FloatKind.f64.format.quiet t))))
  | d=>pure (.float .f64 (FloatKind.f64.encode (d.integral way)))) w:=rfl
 rw[hd,zun]
 cases hx:FloatKind.f64.decode x with
 | nan s t =>
  have hn:(FloatKind.f64.decode x).isNaN=true:=by rw[hx];rfl
  have hw:whole way x=vd .f64:=by unfold whole;rw[hn];rfl
  by_cases hq:FloatKind.f64.format.quiet t=t
  ·exact⟨.float .f64 x,0,by simp only[hq,if_true];rfl,x,rfl,by rw[hw,uz hn]⟩
  ·refine⟨_,1,by simp only[hq,if_false];simp only[choose,Sem.run,Sem.run_bind,Question.forced];try rfl,_,rfl,?_⟩
   rw[hw]
   split
   ·exact uz hn
   ·refine uz ?_
    have hl:=zms hx
    have h2:=zgm (if s then 1 else 0) (Ieee.double.quiet t) (zrs t) (zk4 t hl)
    have e:FloatKind.f64.encode (.nan s (FloatKind.f64.format.quiet t))=(if s then 1 else 0) % 2*9223372036854775808+(9218868437227405312+Ieee.double.quiet t):=by
     exact zsx s _ (zk4 t hl)
    rw[e];exact h2
 | infinity s=>exact⟨.float .f64 (FloatKind.f64.encode ((Ieee.Datum.infinity s).integral way)),0,rfl,_,rfl,(zo6 (d:=(Ieee.Datum.infinity s).integral way) rfl).trans (by unfold whole;rw[hx,if_neg (by intro h;cases h)])⟩
 | number s m e=>exact⟨.float .f64 (FloatKind.f64.encode ((Ieee.Datum.number s m e).integral way)),0,rfl,_,rfl,(zo6 (d:=(Ieee.Datum.number s m e).integral way) rfl).trans (by unfold whole;rw[hx,if_neg (by intro h;cases h)])⟩
end
@[go_sem] theorem run_store_float (P:Program) (w:World) (a:Addr) (m:Mode) (k:FloatKind) (b:Nat):(store a (.float k b) m).run P w=stored P w a (.float k b) m:=run_store P w a _ m rfl
@[go_sem] theorem run_neg_float (P:Program) (w:World) (k:FloatKind) (b:Nat):(Op.unary .neg (.float k b)).run P w=.ok (.float k (Op.negFloat k b)) w:=rfl
def Ret (k:FloatKind) (v:Nat) (w:World) (e:Ending) (w':World):Prop:=∃ r,e=.returned (.float k r)∧cn k r=v∧Below w.heap.size w w'

theorem zt (w:World) (o1:Obj):Below w.heap.size w (w.alloc o1):=(Below.refl _ _).alloc (Nat.le_refl _) _
theorem xa (w:World) (o1:Obj) (o2:Obj):Below w.heap.size w ((w.alloc o1).alloc o2):=(zt w o1).alloc (by simp<;>omega) _
theorem vc (w:World) (o1:Obj) (o2:Obj) (o3:Obj):Below w.heap.size w (((w.alloc o1).alloc o2).alloc o3):=(xa w o1 o2).alloc (by simp<;>omega) _
theorem zgn (w:World) (o1:Obj) (o2:Obj) (o3:Obj) (o4:Obj):Below w.heap.size w ((((w.alloc o1).alloc o2).alloc o3).alloc o4):=(vc w o1 o2 o3).alloc (by simp<;>omega) _
theorem zye (w:World) (o1:Obj) (o2:Obj) (o3:Obj) (o4:Obj) (o5:Obj):Below w.heap.size w (((((w.alloc o1).alloc o2).alloc o3).alloc o4).alloc o5):=(zgn w o1 o2 o3 o4).alloc (by simp<;>omega) _
theorem zy7 (w:World) (o1:Obj) (o2:Obj) (o3:Obj) (o4:Obj) (o5:Obj) (o6:Obj):Below w.heap.size w ((((((w.alloc o1).alloc o2).alloc o3).alloc o4).alloc o5).alloc o6):=(zye w o1 o2 o3 o4 o5).alloc (by simp<;>omega) _
theorem za {A B C:World} (h1:Below A.heap.size A B) (h2:Below B.heap.size B C):Below A.heap.size A C:=h1.trans (h2.mono h1.size)

theorem zg {w:World} {a:Addr} (h:(w.cell? a).isSome=true):a.block<w.heap.size:=by
 rcases Nat.lt_or_ge a.block w.heap.size with h'|h'
 ·exact h'
 ·exfalso
  unfold World.cell? at h
  have e:w.heap[a.block]? = none:=Array.getElem?_eq_none h'
  rw[e]at h
  cases h

theorem yc {W w':World} (h:Below W.heap.size W w'):∀ a:Addr,(W.cell? a).isSome=true→w'.cell? a=W.cell? a:=fun _ ha=>h.cell (zg ha)
theorem z9 {W w':World} (h:Below W.heap.size W w'):∀ a:Addr,(W.cell? a).isSome=true→w'.frozen? a=W.frozen? a:=fun _ ha=>h.frozen (zg ha)

def zc (cs:List (Addr × Value)) (fs:List Addr) (w:World):Prop:=(∀ p∈cs,w.cell? p.1=some p.2)∧∀ a∈fs,(w.cell? a).isSome=true∧w.frozen? a=false
theorem ka {α:Type _} {p:α→Prop} {xs ys:List α}:(∀ (x:α),x∈xs++ys→p x)↔(∀ (x:α),x∈xs→p x)∧∀ (x:α),x∈ys→p x:=List.forall_mem_append
theorem kb {α:Type _} {p:α→Prop} {a:α} {l:List α}:(∀ (x:α),x∈a::l→p x)↔p a∧∀ (x:α),x∈l→p x:=List.forall_mem_cons
theorem kc {α:Type _} {a:α}:¬a∈[]:=List.not_mem_nil
theorem kd (p:Prop):(False→p)=True:=false_implies p
theorem ke (α:Sort _):(α→True)=True:=implies_true α
theorem kfa (p:Prop):(p∧True)=p:=and_true p
theorem kga (p:Prop):(True∧p)=p:=true_and p

theorem keep {cs:List (Addr × Value)} {fs:List Addr} {W w:World} (h:zc cs fs W) (hb:Below W.heap.size W w):zc cs fs w:=by
 refine⟨fun p hp=>?_,fun a ha=>?_⟩
 ·have:=h.1 p hp
  rw[yc hb _ (by rw[this];rfl)];exact this
 ·have:=h.2 a ha
  exact⟨by rw[yc hb _ this.1];exact this.1,by rw[z9 hb _ this.1];exact this.2⟩

theorem ze {cs cs':List (Addr × Value)} {fs fs':List Addr} {w:World} (h:zc cs fs w) (h':zc cs' fs' w):zc (cs++cs') (fs++fs') w :=
 ⟨fun p hp=>(List.mem_append.1 hp).elim (h.1 p) (h'.1 p),fun a ha=>(List.mem_append.1 ha).elim (h.2 a) (h'.2 a)⟩
def zr (b:Nat):Nat→List Value→List (Addr × Value)
 | _,[]=>[]
 | i,x::xs=>(⟨b,i,none⟩,x)::zr b (i+1) xs
def zq (f:Bool) (b:Nat):Nat→List Value→List Addr
 | _,[]=>[]
 | i,_::xs=>match f with
  | true=>⟨b,i,none⟩::zq f b (i+1) xs
  | false=>zq f b (i+1) xs
theorem zl7 {W:World} {b:Nat} {xs:List Value} {T:TypeId} (h:W.heap[b]? = some (.cells xs.toArray T (0,0))):∀ (i:Nat) (ys:List Value),xs.drop i=ys→∀ p∈zr b i ys,W.cell? p.1=some p.2
 | _,[],_=>fun p hp=>by cases hp
 | i,y::ys,e=>fun p hp=>by
  have hi:xs[i]? = some y:=by rw[← List.head?_drop,e]; rfl
  rcases List.mem_cons.1 hp with rfl|hp
  · simp[World.cell?,h,hi]
  · exact zl7 h (i+1) ys (by rw[← List.drop_drop,e]; rfl) p hp
theorem zgg {W:World} {f:Bool} {b:Nat} {xs:List Value} {T:TypeId} (h:W.heap[b]? = some (.cells xs.toArray T (0,0))):∀ (i:Nat) (ys:List Value),xs.drop i=ys→∀ a∈zq f b i ys,(W.cell? a).isSome=true∧W.frozen? a=false
 | _,[],_=>fun p hp=>by cases f<;>cases hp
 | i,y::ys,e=>fun p hp=>by
  have hi:xs[i]? = some y:=by rw[← List.head?_drop,e]; rfl
  have hn:xs.drop (i+1)=ys:=by rw[← List.drop_drop,e]; rfl
  cases f
  · exact zgg (f:=false) h (i+1) ys hn p hp
  · rcases List.mem_cons.1 hp with rfl|hp
    · simp[World.cell?,World.frozen?,h,hi]
    · exact zgg (f:=true) h (i+1) ys hn p hp
theorem za7 {W:World} (f:Bool) {b:Nat} {xs:List Value} {T:TypeId} (h:W.heap[b]? = some (.cells xs.toArray T (0,0))):zc (zr b 0 xs) (zq f b 0 xs) W:=⟨zl7 h 0 xs rfl,zgg h 0 xs rfl⟩
theorem kv {w:World} {n:Nat} (xs:List Value) (T:TypeId) (h:w.heap.size=n):(w.alloc (.cells xs.toArray T)).heap[n]? = some (.cells xs.toArray T (0,0)):=by
 subst h
 show (w.heap.push _)[w.heap.size]? = _
 simp
theorem kw {w:World} {b:Nat} {v:Obj} (o:Obj) (h:w.heap[b]? = some v):(w.alloc o).heap[b]? = some v:=
 (((Below.refl w.heap.size w).alloc (Nat.le_refl _) o).block b (Array.getElem?_eq_some_iff.1 h).1).trans h
theorem zbd {w:World} {n:Nat} (o:Obj) (h:w.heap.size=n):(w.alloc o).heap.size=n+1:=by subst h;simp
theorem jg {w W:World} {x1:List Value} {T1:TypeId} (f1:Bool) (h:w.alloc (.cells x1.toArray T1)=W):zc (zr (w.heap.size) 0 x1) (zq f1 (w.heap.size) 0 x1) W:=by
 subst h
 exact (za7 (T:=T1) f1 (kv x1 T1 rfl))
theorem yt {w W:World} {x1 x2:List Value} {T1 T2:TypeId} (f1 f2:Bool) (h:(w.alloc (.cells x1.toArray T1)).alloc (.cells x2.toArray T2)=W):zc (zr (w.heap.size) 0 x1++zr (w.heap.size+1) 0 x2) (zq f1 (w.heap.size) 0 x1++zq f2 (w.heap.size+1) 0 x2) W:=by
 subst h
 exact (ze (za7 (T:=T1) f1 (kw _ (kv x1 T1 rfl))) (za7 (T:=T2) f2 (kv x2 T2 (zbd _ rfl))))
theorem xg {w W:World} {x1 x2 x3:List Value} {T1 T2 T3:TypeId} (f1 f2 f3:Bool) (h:((w.alloc (.cells x1.toArray T1)).alloc (.cells x2.toArray T2)).alloc (.cells x3.toArray T3)=W):zc (zr (w.heap.size) 0 x1++zr (w.heap.size+1) 0 x2++zr (w.heap.size+1+1) 0 x3) (zq f1 (w.heap.size) 0 x1++zq f2 (w.heap.size+1) 0 x2++zq f3 (w.heap.size+1+1) 0 x3) W:=by
 subst h
 exact (ze (ze (za7 (T:=T1) f1 (kw _ (kw _ (kv x1 T1 rfl)))) (za7 (T:=T2) f2 (kw _ (kv x2 T2 (zbd _ rfl))))) (za7 (T:=T3) f3 (kv x3 T3 (zbd _ (zbd _ rfl)))))
theorem zei {w W:World} {x1 x2 x3 x4:List Value} {T1 T2 T3 T4:TypeId} (f1 f2 f3 f4:Bool) (h:(((w.alloc (.cells x1.toArray T1)).alloc (.cells x2.toArray T2)).alloc (.cells x3.toArray T3)).alloc (.cells x4.toArray T4)=W):zc (zr (w.heap.size) 0 x1++zr (w.heap.size+1) 0 x2++zr (w.heap.size+1+1) 0 x3++zr (w.heap.size+1+1+1) 0 x4) (zq f1 (w.heap.size) 0 x1++zq f2 (w.heap.size+1) 0 x2++zq f3 (w.heap.size+1+1) 0 x3++zq f4 (w.heap.size+1+1+1) 0 x4) W:=by
 subst h
 exact (ze (ze (ze (za7 (T:=T1) f1 (kw _ (kw _ (kw _ (kv x1 T1 rfl))))) (za7 (T:=T2) f2 (kw _ (kw _ (kv x2 T2 (zbd _ rfl)))))) (za7 (T:=T3) f3 (kw _ (kv x3 T3 (zbd _ (zbd _ rfl)))))) (za7 (T:=T4) f4 (kv x4 T4 (zbd _ (zbd _ (zbd _ rfl))))))
theorem zo {α:Type _} (a:α) (as bs:List α):(a::as)++bs=a::(as++bs):=rfl
theorem zv {α:Type _} (as:List α):[]++as=as:=rfl
theorem zb {α:Type _} {p:α→Prop}:(∀ (x:α),x∈([]:List α)→p x)↔True:=⟨fun _=>trivial,fun _ _ h=>by cases h⟩
theorem zf (w:World) (a b:Addr) (v:Value) (h:a ≠ b):(w.setCell a v).cell? b=w.cell? b:=World.cell?_setCell_other w a b v h
theorem zh (w:World) (a:Addr) (v:Value) (h:(w.cell? a).isSome=true):(w.setCell a v).cell? a=some v:=World.cell?_setCell_same' w a v h
theorem yk (w:World) (a b:Addr) (v:Value):(w.setCell a v).frozen? b=w.frozen? b:=World.frozen?_setCell w a b v
theorem zi (B:Nat) (w:World):Below B w w:=Below.refl B w
theorem zj {B:Nat} {a w:World} (h:Below B a w) {p:Addr} (hp:B≤p.block) (u:Value):Below B a (w.setCell p u):=h.setCell hp u

theorem vy {cs:List (Addr × Value)} {fs:List Addr} {w:World} (h:zc cs fs w) {a:Addr} (hc:∀ p∈cs,a.block ≠ p.1.block) (hf:∀ x∈fs,a.block ≠ x.block) (v:Value):zc cs fs (w.setCell a v):=by
 have hh:∀ k,k ≠ a.block→(w.setCell a v).heap[k]? = w.heap[k]?:=fun k hk=>Below.heap_setCell w a v k hk
 refine⟨fun p hp=>?_,fun x hx=>?_⟩
 ·rw[World.cell?_of_block (w:=w) (hh p.1.block (Ne.symm (hc p hp)))];exact h.1 p hp
 ·rw[World.cell?_of_block (w:=w) (hh x.block (Ne.symm (hf x hx))),World.frozen?_of_block (w:=w) (hh x.block (Ne.symm (hf x hx)))];exact h.2 x hx

theorem zy {cs:List (Addr × Value)} {fs:List Addr} {W:World} (h:zc cs fs W) (n:Nat):zc cs fs (W.drewN n):=h

theorem zk {P:Program} {W:World} {Phi:FuncId→Array Value→Value→Prop} {o:Oper} {a:Act} {K:Act→Prop} (op:BinOp) (t t2:TypeId) (x y:Operand)
  (ho:o.op=.binOp op t x y t2) (k:FloatKind) (u v:Nat) (hx:a.eval x=.float k u) (hy:a.eval y=.float k v) (hop:zik op=true)
  (h:∀ r,cn k r=bin op k (cn k u) (cn k v)→K (a.put o.dst (.float k r))):Qr.one P (fun w'=>Below W.heap.size W w') Phi o a K:=by
 refine Qr.one_rel (fun x=>∃ r,x=.float k r∧cn k r=bin op k (cn k u) (cn k v)) (fun w' hw'=>?_) ?_
 ·obtain⟨r,n,hr,hc⟩:=zfm (P:=P) w' op t k u v hop
  exact⟨_,w'.drewN n,zf8 o a op t t2 x y ho hop w' _ _ (by rw[hx,hy];exact hr),⟨r,rfl,hc⟩,⟨hw'.os,hw'.tape,hw'.output,hw'.size,hw'.block⟩,rfl,rfl,rfl,Nat.le_refl _,fun _ _=>rfl⟩
 ·rintro _ ⟨r,rfl,hr⟩
  exact h r hr

theorem zd {B:Nat} {a w:World} (h:Below B a w) (n:Nat):Below B a (w.drewN n):=⟨h.os,h.tape,h.output,h.size,h.block⟩
end Go.Fl
