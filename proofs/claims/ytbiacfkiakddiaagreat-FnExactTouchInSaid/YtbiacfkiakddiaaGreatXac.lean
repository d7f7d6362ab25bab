/-
 Lemmas: Qh,Qk,Qs.
-/
import Derived.Test.YtbiacfkiakddiaaGreatXaa
import Derived.KernelRfl
import Derived.Test.YtbiacfkiakddiaaGreatChecked
set_option linter.unusedVariables false
set_option linter.unusedSimpArgs false
namespace Go.Qh
open Go
section
variable {P:Program} {ops:Array Oper} {md:Region.Mode} {C:World→Prop} {Phi:FuncId→Array Value→Value→Prop} {Gd:Tmp→Value→World→Prop} {ad:List Tmp} {Rr:World→World→Prop} {Fo:Oper→Act→World→Prop}
def gd (Gd:Tmp→Value→World→Prop):Option Tmp→Value→World→Prop
 | none,_,_=>True
 | some d,v,w=>Gd d v w

def Rl (P:Program) (C:World→Prop) (Phi:FuncId→Array Value→Value→Prop) (o:Oper) (a:Act) (v:Value):Prop :=
 ∃ w,C w∧match (execOp a.eval o).run P w with
  | .ok (.value u) _=>v=u
  | .ok .skip _=>v=undef
  | .ok (.enter f args) _=>Phi f args v
  | _=>False

def upon (P:Program) (C:World→Prop) (Phi:FuncId→Array Value→Value→Prop) (Gd:Tmp→Value→World→Prop) (ad:List Tmp) (Rr:World→World→Prop) (Fw:World→Prop) (dst:Option Tmp) (w:World):Result Next→Prop
 | .ok (.value u) w'=>Fw w'∧(C w'∧Rr w w')∧gd Gd dst u w'∧∀ d,dst=some d→d∈ad→u=.pointer (some ⟨w.heap.size,0,none⟩)∧w.heap.size<w'.heap.size
 | .ok .skip w'=>(C w'∧Rr w w')∧Fw w'
 | .ok (.enter f args) w'=>(C w'∧Rr w w')∧Calls P f args w' (fun e w''=>∃ v,e=.returned v∧Phi f args v∧gd Gd dst v w''∧(C w''∧Fw w'')∧Rr w' w'')∧∀ d,dst=some d→d ∉ ad
 | _=>False

def sees (ops:Array Oper) (Gd:Tmp→Value→World→Prop) (o:Oper) (a:Act) (w:World):Prop:=∀ d∈o.looksAt ops,Gd d (a.tmps.getD d undef) w

def safe (P:Program) (ops:Array Oper) (C:World→Prop) (Phi:FuncId→Array Value→Value→Prop) (Gd:Tmp→Value→World→Prop) (ad:List Tmp) (Rr:World→World→Prop) (Fo:Oper→Act→World→Prop) (o:Oper) (a:Act):Prop :=
 (o.dst.isSome=true→∃ v,Rl P C Phi o a v)∧∀ w,C w→sees ops Gd o a w→upon P C Phi Gd ad Rr (Fo o a) o.dst w ((execOp a.eval o).run P w)

def ok (P:Program) (ops:Array Oper) (C:World→Prop) (Phi:FuncId→Array Value→Value→Prop) (Gd:Tmp→Value→World→Prop) (ad:List Tmp) (Rr:World→World→Prop) (Fo:Oper→Act→World→Prop) (o:Oper) (a:Act):Prop :=
 Region.wanted o (yielded ops a.tmps)=true→safe P ops C Phi Gd ad Rr Fo o a

def vals (P:Program) (ops:Array Oper) (C:World→Prop) (Phi:FuncId→Array Value→Value→Prop) (o:Oper) (a:Act) (v:Value):Prop :=
 if Region.wanted o (yielded ops a.tmps)=true∧o.dst.isSome=true then Rl P C Phi o a v else v=undef

def step (P:Program) (ops:Array Oper) (C:World→Prop) (Phi:FuncId→Array Value→Value→Prop) (Gd:Tmp→Value→World→Prop) (ad:List Tmp) (Rr:World→World→Prop) (Fo:Oper→Act→World→Prop) (o:Oper) (a:Act) (K:Act→Prop):Prop :=
 ok P ops C Phi Gd ad Rr Fo o a∧∀ v,vals P ops C Phi o a v→K (a.put o.dst v)

def walk (P:Program) (ops:Array Oper) (C:World→Prop) (Phi:FuncId→Array Value→Value→Prop) (Gd:Tmp→Value→World→Prop) (ad:List Tmp) (Rr:World→World→Prop) (Fo:Oper→Act→World→Prop) (Q:Act→Prop):List Oper→Act→Prop
 | [],a=>Q a
 | o::rest,a=>step P ops C Phi Gd ad Rr Fo o a (walk P ops C Phi Gd ad Rr Fo Q rest)

theorem walk_nil {Q:Act→Prop} {a:Act} (h:Q a):walk P ops C Phi Gd ad Rr Fo Q [] a:=h
theorem walk_step {Q:Act→Prop} {a:Act} {o:Oper} {rest:List Oper}
  (h:∀ K:Act→Prop,(∀ a,walk P ops C Phi Gd ad Rr Fo Q rest a→K a)→step P ops C Phi Gd ad Rr Fo o a K):walk P ops C Phi Gd ad Rr Fo Q (o::rest) a :=
 h _ (fun _ h=>h)

structure Aux (ops:Array Oper) (Rr:World→World→Prop) (Fo:Oper→Act→World→Prop):Prop where
 refl:∀ w,Rr w w
 trans:∀ {a b c},Rr a b→Rr b c→Rr a c
 size:∀ {w w'},Rr w w'→w.heap.size≤w'.heap.size
 put:∀ o (a:Act) dst u,(∀ d,dst=some d→d ∉ o.looksAt ops)→Fo o (a.put dst u)=Fo o a
 last:∀ {o a w w'},Fo o a w→Rr w w'→Fo o a w'
 some:∀ {o:Oper} {a w},o.dst.isSome=true→Fo o a w
theorem one_det (hA:Aux ops Rr Fo) {o:Oper} {a:Act} {K:Act→Prop} {v:Value} {w0:World} (h0:C w0) (had:∀ d,o.dst=some d→d ∉ ad) (hw:Region.wanted o (yielded ops a.tmps)=true) (hds:o.dst.isSome=true) (h:∀ w,C w→(execOp a.eval o).run P w=.ok (.value v) w) (hgd:∀ w,C w→sees ops Gd o a w→gd Gd o.dst v w) (hk:K (a.put o.dst v)):step P ops C Phi Gd ad Rr Fo o a K:=by
 refine⟨fun _=>⟨fun _=>⟨v,w0,h0,by rw[h w0 h0]⟩,fun w hc hs=>?_⟩,fun u hu=>?_⟩
 ·rw[h w hc];exact⟨hA.some hds,⟨hc,hA.refl _⟩,hgd w hc hs,fun d hd hda=>absurd hda (had d hd)⟩
 ·unfold vals at hu
  rw[if_pos ⟨hw,hds⟩]at hu
  obtain⟨w,hc,hv⟩:=hu
  rw[h w hc]at hv
  simp only at hv
  rw[hv];exact hk

theorem one_new (hA:Aux ops Rr Fo) {o:Oper} {a:Act} {K:Act→Prop} {w0:World} (b:Obj) (h0:C w0) (hw:Region.wanted o (yielded ops a.tmps)=true) (hds:o.dst.isSome=true) (h:∀ w,C w→(execOp a.eval o).run P w=.ok (.value (.pointer (some ⟨w.heap.size,0,none⟩))) (w.alloc b))
  (hc':∀ w,C w→C (w.alloc b)∧Rr w (w.alloc b)) (hgd:∀ w,C w→gd Gd o.dst (.pointer (some ⟨w.heap.size,0,none⟩)) (w.alloc b)) (hk:∀ g,K (a.put o.dst (.pointer (some ⟨g,0,none⟩)))):step P ops C Phi Gd ad Rr Fo o a K:=by
 refine⟨fun _=>⟨fun _=>⟨_,w0,h0,by rw[h w0 h0]⟩,fun w hc hs=>?_⟩,fun u hu=>?_⟩
 ·rw[h w hc];exact⟨hA.some hds,hc' w hc,hgd w hc,fun d hd hda=>⟨rfl,by simp⟩⟩
 ·unfold vals at hu
  rw[if_pos ⟨hw,hds⟩]at hu
  obtain⟨w,hc,hv⟩:=hu
  rw[h w hc]at hv
  simp only at hv
  rw[hv];exact hk _

theorem one_call (hA:Aux ops Rr Fo) {o:Oper} {a:Act} {K:Act→Prop} {w0:World} (f:FuncId) (args:Array Value) (h0:C w0) (had:∀ d,o.dst=some d→d ∉ ad) (hw:Region.wanted o (yielded ops a.tmps)=true) (hds:o.dst.isSome=true) (h:∀ w,C w→(execOp a.eval o).run P w=.ok (.enter f args) w) (hne:∃ v,Phi f args v)
  (hc:∀ w,C w→sees ops Gd o a w→Calls P f args w (fun e w''=>∃ v,e=.returned v∧Phi f args v∧gd Gd o.dst v w''∧C w''∧Rr w w'')) (hk:∀ v,Phi f args v→K (a.put o.dst v)):step P ops C Phi Gd ad Rr Fo o a K:=by
 obtain⟨v,hv⟩:=hne
 refine⟨fun _=>⟨fun _=>⟨v,w0,h0,by rw[h w0 h0];exact hv⟩,fun w hc1 hs=>?_⟩,fun u hu=>?_⟩
 ·rw[h w hc1];exact⟨⟨hc1,hA.refl _⟩,(hc w hc1 hs).mono fun e w'' ⟨v,h1,h2,h3,h4,h5⟩=>⟨v,h1,h2,h3,⟨h4,hA.some hds⟩,h5⟩,had⟩
 ·unfold vals at hu
  rw[if_pos ⟨hw,hds⟩]at hu
  obtain⟨w,hc,hv⟩:=hu
  rw[h w hc]at hv
  exact hk _ hv

theorem one_store {o:Oper} {a:Act} {K:Act→Prop} (hdn:o.dst=none) (h:∀ w,C w→sees ops Gd o a w→∃ w',(execOp a.eval o).run P w=.ok .skip w'∧C w'∧Rr w w'∧Fo o a w') (hk:K a):step P ops C Phi Gd ad Rr Fo o a K:=by
 refine⟨fun _=>⟨fun hs=>(by rw[hdn]at hs;cases hs),fun w hc hs=>?_⟩,fun u hu=>?_⟩
 ·obtain⟨w',h1,h2,h3,h4⟩:=h w hc hs
  rw[h1];exact⟨⟨h2,h3⟩,h4⟩
 ·rw[hdn];exact hk

def opAt (P:Program) (ops:Array Oper) (C:World→Prop) (Phi:FuncId→Array Value→Value→Prop) (Gd:Tmp→Value→World→Prop) (ad:List Tmp) (Rr:World→World→Prop) (Fo:Oper→Act→World→Prop) (i:Nat) (K:Act→Prop) (a:Act):Prop :=
 match ops[i]? with
 | none=>K a
 | some o=>step P ops C Phi Gd ad Rr Fo o a K

theorem opAt_mono {i:Nat} {a:Act} {K K':Act→Prop} (h:∀ a,K a→K' a) (hh:opAt P ops C Phi Gd ad Rr Fo i K a):opAt P ops C Phi Gd ad Rr Fo i K' a:=by
 cases ho:ops[i]? with
 | none=>simp only[opAt,ho]at hh ⊢;exact h _ hh
 | some o=>simp only[opAt,ho]at hh ⊢;exact⟨hh.1,fun v hv=>h _ (hh.2 v hv)⟩

theorem vals_some {o:Oper} {a:Act} (h:ok P ops C Phi Gd ad Rr Fo o a):∃ v,vals P ops C Phi o a v:=by
 unfold vals
 by_cases hw:Region.wanted o (yielded ops a.tmps)=true∧o.dst.isSome=true
 ·simp only[if_pos hw];exact (h hw.1).1 hw.2
 ·simp only[if_neg hw];exact⟨_,rfl⟩

theorem getD_put (a:Act) (x:Option Tmp) (v:Value) (d:Tmp) (h:x ≠ some d):(a.put x v).tmps.getD d undef=a.tmps.getD d undef:=by
 cases x with
 | none=>rfl
 | some y =>
  have hy:y ≠ d:=fun e=>h (by rw[e])
  simp only[Act.put,Array.getD_eq_getD_getElem?]
  rw[Array.getElem?_setIfInBounds_ne hy]

theorem sees_put (o:Oper) (a:Act) (dst:Option Tmp) (v:Value) (h:∀ d,dst=some d→d ∉ o.looksAt ops) (w:World):sees ops Gd o (a.put dst v) w=sees ops Gd o a w:=by
 have key:∀ d∈o.looksAt ops,(a.put dst v).tmps.getD d undef=a.tmps.getD d undef:=fun d hd=>getD_put a dst v d (fun e=>h d e hd)
 unfold sees
 refine propext ⟨?_,?_⟩
 ·intro hh d hd;rw[← key d hd];exact hh d hd
 ·intro hh d hd;rw[key d hd];exact hh d hd

theorem ok_put (hA:Aux ops Rr Fo) (o:Oper) (hs:∀ cs b,o.op ≠ .select cs b) (a:Act) (dst:Option Tmp) (u:Value) (hd:∀ d,dst=some d→d ∉ o.looksAt ops):ok P ops C Phi Gd ad Rr Fo o (a.put dst u)=ok P ops C Phi Gd ad Rr Fo o a:=by
 unfold ok safe Rl
 rw[wanted_put o a dst u hd,execOp_put o hs a dst u hd]
 simp only[sees_put o a dst u hd,hA.put o a dst u hd]

theorem vals_put (o:Oper) (hs:∀ cs b,o.op ≠ .select cs b) (a:Act) (dst:Option Tmp) (u:Value) (hd:∀ d,dst=some d→d ∉ o.looksAt ops) (v:Value):vals P ops C Phi o (a.put dst u) v=vals P ops C Phi o a v:=by
 unfold vals Rl
 rw[wanted_put o a dst u hd,execOp_put o hs a dst u hd]

theorem opAt_put (hA:Aux ops Rr Fo) {j:Nat} {oi oj:Oper} (hj:ops[j]? = some oj) (hap:oi.apart ops oj=true)
  (hsi:∀ cs b,oi.op ≠ .select cs b) (hsj:∀ cs b,oj.op ≠ .select cs b) {K:Act→Prop} {a:Act}
  (hy:ok P ops C Phi Gd ad Rr Fo oi a) (h:∀ v,vals P ops C Phi oi a v→opAt P ops C Phi Gd ad Rr Fo j K (a.put oi.dst v)) :
  opAt P ops C Phi Gd ad Rr Fo j (fun a'=>ok P ops C Phi Gd ad Rr Fo oi a'∧∀ v,vals P ops C Phi oi a' v→K (a'.put oi.dst v)) a:=by
 obtain⟨h1,h2,h3⟩:=Oper.apart_spec hap
 obtain⟨v0,hv0⟩:=vals_some hy
 simp only[Qh.opAt,hj]at h ⊢
 refine⟨?_,fun u hu=>⟨?_,fun v hv=>?_⟩⟩
 ·have:=(h v0 hv0).1
  rwa [ok_put hA oj hsj a oi.dst v0 h1]at this
 ·rw[ok_put hA oi hsi a oj.dst u h3];exact hy
 ·rw[vals_put oi hsi a oj.dst u h3]at hv
  have:=(h v hv).2 u (by rw[vals_put oj hsj a oi.dst v h1];exact hu)
  rw[← Act.put_comm a v u h2]
  exact this

def anyOrder (P:Program) (md:Region.Mode) (ops:Array Oper) (C:World→Prop) (Phi:FuncId→Array Value→Value→Prop) (Gd:Tmp→Value→World→Prop) (ad:List Tmp) (Rr:World→World→Prop) (Fo:Oper→Act→World→Prop) (n:Nat) (L:Array Bool→Act→Prop):Nat→Array Bool→Act→Prop
 | 0,listed,a=>L listed a
 | f+1,listed,a =>
  Region.ready md ops listed ≠ []∧∀ i∈Region.ready md ops listed,i<n∧opAt P ops C Phi Gd ad Rr Fo i (anyOrder P md ops C Phi Gd ad Rr Fo n L f (listed.setIfInBounds i true)) a

theorem anyOrder_first (hA:Aux ops Rr Fo) {n i:Nat} {oi:Oper} {L:Array Bool→Act→Prop} (hi:ops[i]? = some oi) (hsel:∀ (j:Nat) (o:Oper) cs b,ops[j]? = some o→o.op ≠ .select cs b)
  (hw:∀ listed,HeadInv md ops n listed→∀ i,i<n→listed.getD i true=false→∀ t,n≤t→t ∉ Region.ready md ops listed) (hin:i<n)
  (hdone:∀ listed a,L listed a→∀ j∈Region.ready md ops listed,n≤j) :
  ∀ (f:Nat) (listed:Array Bool) (a:Act),HeadInv md ops n listed →
   (∀ j oj,ops[j]? = some oj→j ≠ i→listed.getD j true=false→(∀ e∈oj.after,Region.binds md e=true→e.on ≠ i)→oi.apart ops oj=true) →
   i∈Region.ready md ops listed→ok P ops C Phi Gd ad Rr Fo oi a →
   (∀ v,vals P ops C Phi oi a v→anyOrder P md ops C Phi Gd ad Rr Fo n L f (listed.setIfInBounds i true) (a.put oi.dst v))→anyOrder P md ops C Phi Gd ad Rr Fo n L (f+1) listed a:=by
 intro f
 induction f with
 | zero =>
  intro listed a inv _ hr hy H
  have hun:=(mem_ready.1 hr).1
  refine⟨fun h=>(by rw[h]at hr;cases hr),fun j hj=>?_⟩
  have hjn:j<n:=Nat.lt_of_not_le fun h=>hw _ inv i hin hun j h hj
  refine⟨hjn,?_⟩
  by_cases hji:j=i
  ·subst hji;simp only[opAt,hi];exact⟨hy,H⟩
  ·obtain⟨v,hv⟩:=vals_some hy
   exact absurd (hdone _ _ (H v hv) j (ready_mono hj hji)) (by omega)
 | succ f ih =>
  intro listed a inv hfree hr hy H
  have hun:=(mem_ready.1 hr).1
  refine⟨fun h=>(by rw[h]at hr;cases hr),fun j hj=>?_⟩
  have hjn:j<n:=Nat.lt_of_not_le fun h=>hw _ inv i hin hun j h hj
  refine⟨hjn,?_⟩
  by_cases hji:j=i
  ·subst hji;simp only[opAt,hi];exact⟨hy,H⟩
  ·have h1:=fun v hv=>((H v hv).2 j (ready_mono hj hji)).2
   obtain⟨hjun,oj,hoj,hall⟩:=mem_ready.1 hj
   have hnot:∀ e∈oj.after,Region.binds md e=true→e.on ≠ i:=fun e he hb heq=>by
    have h1:=hall e he hb
    rw[heq,getD_both hun]at h1
    cases h1
   have h2:=opAt_put hA hoj (hfree j oj hoj hji hjun hnot) (fun cs b=>hsel i oi cs b hi) (fun cs b=>hsel j oj cs b hoj) hy h1
   have hfree':∀ k ok,ops[k]? = some ok→k ≠ i→(listed.setIfInBounds j true).getD k true=false →
     (∀ e∈ok.after,Region.binds md e=true→e.on ≠ i)→oi.apart ops ok=true:=fun k ok hk hki hun hno=>by
    refine hfree k ok hk hki ?_ hno
    by_cases hjk:j=k
    ·subst hjk;exact hjun
    ·rw[getD_set_ne true hjk]at hun;exact hun
   refine opAt_mono (fun a' h3=>ih (listed.setIfInBounds j true) a' (inv.set hj hjn) hfree' (ready_mono hr (Ne.symm hji)) h3.1 fun v hv=>?_) h2
   rw[Array.setIfInBounds_comm _ _ hji]
   exact h3.2 v hv

theorem zr8 {n k:Nat} {o:Oper} {listed:Array Bool} (ho:ops[k]? = some o) (inv:HeadInv md ops n listed):(listed.setIfInBounds k true).getD k false=true:=by
 have hk:=(Array.getElem?_eq_some_iff.1 ho).1
 rw[← inv.size]at hk
 simp[hk]

theorem anyOrder_lex (hA:Aux ops Rr Fo) {n g:Nat} {Lq:Act→Prop} (hsel:Region.noSelect ops=true) (hw:∀ listed,HeadInv md ops n listed→∀ i,i<n→listed.getD i true=false→∀ t,n≤t→t ∉ Region.ready md ops listed) :
  ∀ (l:List Oper) (k:Nat) (listed:Array Bool) (a:Act),(∀ j,j<l.length→l[j]? = ops[k+j]?)→k+l.length=n→HeadInv md ops n listed→(∀ j,j<k→listed.getD j false=true) →
  Region.lexHead md ops g l.length k listed=true→walk P ops C Phi Gd ad Rr Fo Lq l a →
  anyOrder P md ops C Phi Gd ad Rr Fo n (fun listed' a'=>(∀ j,j<n→listed'.getD j false=true)∧Region.seqB md ops g n listed'=true∧Lq a') l.length listed a
 | [],k,listed,a,_,hk,_,hlt,hB,h=>by
  obtain rfl:k=n:=by simpa using hk
  exact⟨hlt,by simpa [Region.lexHead] using hB,h⟩
 | o::l,k,listed,a,hl,hk,inv,hlt,hB,h=>by
  have ho:ops[k]? = some o:=by simpa using (hl 0 (by simp)).symm
  simp only[List.length_cons,Region.lexHead,Bool.and_eq_true]at hB
  obtain⟨⟨hr,hf⟩,hB'⟩:=hB
  have hkn:k<n:=by simp only[List.length_cons]at hk;omega
  have hr':k∈Region.ready md ops listed:=by simpa using hr
  obtain⟨hy,hK⟩:=h
  exact anyOrder_first hA ho (Region.noSelect_spec hsel) hw hkn (fun listed' a' hL=>seqB_ready hL.2.1) l.length listed a inv (Region.free_spec ho hf) hr' hy
   fun v hv=>anyOrder_lex hA hsel hw l (k+1) _ _ (fun j hj=>by have:=hl (j+1) (by simp;omega);simpa [Nat.add_assoc,Nat.add_comm 1 j] using this) (by simp only[List.length_cons]at hk;omega) (inv.set hr' hkn) (fun j hj=>by
    by_cases e:j=k
    ·subst e;exact zr8 ho inv
    ·rw[getD_set_ne false (Ne.symm e)];exact hlt j (by omega)) hB' (hK v hv)

def E (Gd:Tmp→Value→World→Prop) (ad:List Tmp) (a:Act) (w:World):Prop:=(∀ d,Gd d (a.tmps.getD d undef) w)∧(∀ d∈ad,∀ g,a.tmps.getD d undef=.pointer (some ⟨g,0,none⟩)→g<w.heap.size)∧∀ d∈ad,∀ e∈ad,d ≠ e→∀ g,a.tmps.getD d undef=.pointer (some ⟨g,0,none⟩)→a.tmps.getD e undef ≠ .pointer (some ⟨g,0,none⟩)

theorem getD_put_same (a:Act) (d:Tmp) (v:Value):(a.put (some d) v).tmps.getD d undef=v∨(a.put (some d) v).tmps.getD d undef=undef:=by
 by_cases hlt:d<a.tmps.size
 ·left
  simp only[Act.put,Array.getD_eq_getD_getElem?]
  rw[Array.getElem?_setIfInBounds_self_of_lt hlt];rfl
 ·right
  simp only[Act.put,Array.getD_eq_getD_getElem?]
  rw[Array.getElem?_eq_none (by rw[Array.size_setIfInBounds];exact Nat.le_of_not_lt hlt)];rfl

def Lasts (Rr:World→World→Prop) (Gd:Tmp→Value→World→Prop):Prop:=(∀ d v w w',Gd d v w→Rr w w'→Gd d v w')∧∀ d w,Gd d undef w

theorem E_put (hA:Aux ops Rr Fo) (hL:Lasts Rr Gd) {a:Act} {w w':World} {dst:Option Tmp} {v:Value} (h:E Gd ad a w) (hb:Rr w w') (hg:gd Gd dst v w') (hp:∀ d,dst=some d→d∈ad→v=undef∨(v=.pointer (some ⟨w.heap.size,0,none⟩)∧w.heap.size<w'.heap.size)):E Gd ad (a.put dst v) w':=by
 cases dst with
 | none=>exact⟨fun d=>hL.1 _ _ _ _ (h.1 d) hb,fun d hd g hv=>Nat.lt_of_lt_of_le (h.2.1 d hd g hv) (hA.size hb),h.2.2⟩
 | some y =>
  have hne:∀ d,y ≠ d→(a.put (some y) v).tmps.getD d undef=a.tmps.getD d undef:=fun d hd=>getD_put _ _ _ _ (by intro e;injection e with e;exact hd e)
  have hs:=getD_put_same a y v
  have hnp:∀ g,undef ≠ Value.pointer (some ⟨g,0,none⟩):=fun g h=>by cases h
  have hy:y∈ad→(a.put (some y) v).tmps.getD y undef=undef∨((a.put (some y) v).tmps.getD y undef=.pointer (some ⟨w.heap.size,0,none⟩)∧w.heap.size<w'.heap.size):=fun hd=>by
   rcases hs with e|e
   ·rcases hp y rfl hd with h1|⟨h1,h2⟩
    ·left;rw[e,h1]
    ·right;exact⟨by rw[e,h1],h2⟩
   ·left;exact e
  refine⟨fun d=>?_,fun d hd g hv=>?_,fun d hd e he hde g hv hv'=>?_⟩
  ·by_cases hyd:y=d
   ·subst hyd
    rcases hs with e|e
    ·rw[e];exact hg
    ·rw[e];exact hL.2 _ _
   ·rw[hne d hyd];exact hL.1 _ _ _ _ (h.1 d) hb
  ·by_cases hyd:y=d
   ·subst hyd
    rcases hy hd with e|⟨e,e2⟩
    ·rw[e]at hv;exact absurd hv (hnp g)
    ·rw[e]at hv;injection hv with hv;injection hv with hv;injection hv with hv;omega
   ·rw[hne d hyd]at hv;exact Nat.lt_of_lt_of_le (h.2.1 d hd g hv) (hA.size hb)
  ·by_cases hyd:y=d
   ·subst hyd
    rw[hne e hde]at hv'
    rcases hy hd with e1|⟨e1,e2⟩
    ·rw[e1]at hv;exact absurd hv (hnp g)
    ·rw[e1]at hv;injection hv with hv;injection hv with hv;injection hv with hv
     have:=h.2.1 e he g hv'
     omega
   ·rw[hne d hyd]at hv
    by_cases hye:y=e
    ·subst hye
     rcases hy he with e1|⟨e1,e2⟩
     ·rw[e1]at hv';exact absurd hv' (hnp g)
     ·rw[e1]at hv';injection hv' with hv';injection hv' with hv';injection hv' with hv'
      have:=h.2.1 d hd g hv
      omega
    ·rw[hne e hye]at hv'
     exact h.2.2 d hd e he hde g hv hv'

theorem wp_of_safe (hA:Aux ops Rr Fo) (hL:Lasts Rr Gd) {o:Oper} {a:Act} {K:Act→Prop} {K':Act→World→Prop} {Q':Exit→Act→World→Prop} {w:World} (hw:C w) (hE:E Gd ad a w) (h:∀ v w',C w'→E Gd ad (a.put o.dst v) w'→Rr w w'→Fo o a w'→K (a.put o.dst v)→K' (a.put o.dst v) w')
  (hy:safe P ops C Phi Gd ad Rr Fo o a) (hk:∀ v,(o.dst.isSome=true→Rl P C Phi o a v)→(o.dst=none→v=undef)→K (a.put o.dst v)):o.wp P a w K' Q':=by
 have h3:=hy.2 w hw (fun d _=>hE.1 d)
 have hk':∀ v,(match (execOp a.eval o).run P w with
  | .ok (.value u) _=>v=u
  | .ok .skip _=>v=undef
  | .ok (.enter f args) _=>Phi f args v
  | _=>False)→K (a.put o.dst v):=fun v hv=>by
  cases hd:o.dst with
  | none =>
   have:=hk undef (fun hs=>by rw[hd]at hs;cases hs) (fun _=>rfl)
   rw[hd]at this
   exact this
  | some d =>
   have:=hk v (fun _=>⟨w,hw,hv⟩) (fun hn=>by rw[hd]at hn;cases hn)
   rw[hd]at this
   exact this
 clear hk
 unfold Oper.wp
 generalize (execOp a.eval o).run P w=r at h3 hk' ⊢
 cases r with
 | ok n w' =>
  cases n with
  | value u=>exact h _ _ h3.2.1.1 (E_put hA hL hE h3.2.1.2 h3.2.2.1 (fun d hd hda=>.inr (h3.2.2.2 d hd hda))) h3.2.1.2 h3.1 (hk' _ rfl)
  | skip=>exact h _ _ h3.1.1 (E_put hA hL hE h3.1.2 (by cases o.dst with|none=>trivial|some d=>exact hL.2 _ _) (fun d hd hda=>.inl rfl)) h3.1.2 h3.2 (hk' _ rfl)
  | enter f args=>exact h3.2.1.mono fun e w'' ⟨v,he,hp,hg,hc,hl⟩=>by subst he;exact h _ _ hc.1 (E_put hA hL hE (hA.trans h3.1.2 hl) hg (fun d hd hda=>absurd hda (h3.2.2 d hd))) (hA.trans h3.1.2 hl) hc.2 (hk' v hp)
  | _=>exact h3.elim
 | halt x w'=>exact h3.elim

def zvf (md:Region.Mode) (ops:Array Oper):Bool:=(List.range ops.size).all fun j=>match ops[j]? with
 | none=>true
 | some oj=>oj.dst.isSome || (oj.guard.isNone && (List.range ops.size).all fun i=>match ops[i]? with
  | none=>true
  | some oi=>(match oi.dst with|none=>true|some d=>!((oj.looksAt ops).contains d)) || oj.after.toList.any fun e=>Region.binds md e && e.on==i)
theorem zio (h:zvf md ops=true) {j:Nat} {oj:Oper} (hj:ops[j]? = some oj) (hn:oj.dst=none):oj.guard=none∧∀ i oi d,ops[i]? = some oi→oi.dst=some d→d∈oj.looksAt ops→∃ e∈oj.after,Region.binds md e=true∧e.on=i:=by
 unfold zvf at h
 rw[List.all_eq_true]at h
 have h1:=h j (List.mem_range.2 (Array.getElem?_eq_some_iff.1 hj).1)
 rw[hj]at h1
 simp only[hn,Option.isSome_none,Bool.false_or,Bool.and_eq_true,Option.isNone_iff_eq_none,List.all_eq_true]at h1
 refine⟨h1.1,fun i oi d hi hd hm=>?_⟩
 have h2:=h1.2 i (List.mem_range.2 (Array.getElem?_eq_some_iff.1 hi).1)
 rw[hi]at h2
 simp only[hd,Bool.or_eq_true,Bool.not_eq_true',List.any_eq_true,Bool.and_eq_true,beq_iff_eq]at h2
 rcases h2 with h2|⟨e,he,hb,ho⟩
 ·simp[hm]at h2
 ·exact⟨e,Array.mem_toList_iff.1 he,hb,ho⟩

theorem zia (hA:Aux ops Rr Fo) (hdep:zvf md ops=true) {n i:Nat} {o:Oper} {listed:Array Bool} {a:Act} {w w':World} {v:Value} (inv:HeadInv md ops n listed) (ho:ops[i]? = some o) (hun:listed.getD i true=false)
  (hG:∀ j oj,ops[j]? = some oj→listed.getD j false=true→Fo oj a w) (hR:Rr w w') (hF:o.dst=none→Fo o a w') :
  ∀ j oj,ops[j]? = some oj→(listed.setIfInBounds i true).getD j false=true→Fo oj (a.put o.dst v) w':=fun j oj hj hl=>by
 cases hjd:oj.dst with
 | some d=>exact hA.some (by rw[hjd];rfl)
 | none =>
  by_cases e:i=j
  ·subst e
   rw[ho]at hj
   injection hj with hj
   subst hj
   rw[hjd]
   exact hF hjd
  ·rw[getD_set_ne false e]at hl
   have h1:=hA.last (hG j oj hj hl) hR
   rw[hA.put oj a o.dst v (fun d hd hm=>?_)]
   ·exact h1
   ·obtain⟨x,hx,hb,hon⟩:=(zio hdep hj hjd).2 i o d ho hd hm
    have h2:=inv.closed j oj hj hl x hx hb
    rw[hon,getD_both hun]at h2
    cases h2

theorem wpAny_of_anyOrder (hA:Aux ops Rr Fo) (hLa:Lasts Rr Gd) (hdep:zvf md ops=true) {n g:Nat} {L:Array Bool→Act→Prop} {Q':Exit→Act→World→Prop} (hL:∀ listed a w,C w→E Gd ad a w→(∀ j oj,ops[j]? = some oj→listed.getD j false=true→Fo oj a w)→L listed a→wpAny P md ops Q' g listed a w) :
  ∀ (f:Nat) (listed:Array Bool) (a:Act) (w:World),HeadInv md ops n listed→(∀ j oj,ops[j]? = some oj→listed.getD j false=true→Fo oj a w)→C w→E Gd ad a w→anyOrder P md ops C Phi Gd ad Rr Fo n L f listed a→wpAny P md ops Q' (f+g) listed a w
 | 0,listed,a,w,inv,hG,hw,he,h=>by rw[Nat.zero_add];exact hL _ _ _ hw he hG h
 | f+1,listed,a,w,inv,hG,hw,he,h=>by
  rw[show f+1+g=(f+g)+1 by omega]
  refine⟨fun h0=>absurd h0 h.1,fun i hi=>?_⟩
  obtain⟨hin,hop⟩:=h.2 i hi
  have hun:=(mem_ready.1 hi).1
  unfold wpOp
  cases ho:ops[i]? with
  | none =>
   obtain⟨_,o,ho',_⟩:=mem_ready.1 hi
   rw[ho]at ho';cases ho'
  | some o =>
   simp only[opAt,ho]at hop ⊢
   obtain⟨hy,hk⟩:=hop
   by_cases hwn:Region.wanted o (yielded ops a.tmps)=true
   ·rw[if_pos hwn]
    exact .inl (wp_of_safe hA hLa hw he (fun v w' hw' he' hr hf h'=>wpAny_of_anyOrder hA hLa hdep hL f _ _ w' (inv.set hi hin) (zia hA hdep inv ho hun hG hr (fun _=>hf)) hw' he' h') (hy hwn) (fun v h1 h2=>hk v (by
     unfold vals
     by_cases hs:o.dst.isSome=true
     ·rw[if_pos ⟨hwn,hs⟩];exact h1 hs
     ·rw[if_neg (fun h=>hs h.2)];exact h2 (by simpa using hs))))
   ·rw[if_neg hwn]
    refine wpAny_of_anyOrder hA hLa hdep hL f _ _ w (inv.set hi hin) (zia hA hdep inv ho hun hG (hA.refl _) (fun hn=>absurd (by unfold Region.wanted;rw[(zio hdep ho hn).1]) hwn)) hw (E_put hA hLa he (hA.refl _) (by cases o.dst with|none=>trivial|some d=>exact hLa.2 _ _) (fun d hd hda=>.inl rfl)) (hk undef ?_)
    unfold vals;rw[if_neg (fun h=>hwn h.1)]

theorem wp_stT {id:Nat} {Q:Exit→Act→World→Prop} {a:Act} {w:World} {l:List Oper} (n:Nat) (hm:P.follows .mixedOrders=true) (hB:Region.lexTailB .any l.toArray n=true) (hdep:zvf .any l.toArray=true)
  (C:World→Prop) (hC:C { w with drawn:=w.drawn+1 }) (Phi:FuncId→Array Value→Value→Prop) (Gd:Tmp→Value→World→Prop) (ad:List Tmp) (Rr:World→World→Prop) (Fo:Oper→Act→World→Prop) (hA:Aux l.toArray Rr Fo) (hLa:Lasts Rr Gd) (hE:E Gd ad a { w with drawn:=w.drawn+1 })
  (h:walk P l.toArray C Phi Gd ad Rr Fo (fun a'=>∀ w',C w'→E Gd ad a' w'→(∀ o∈l.take n,Fo o a' w')→wpList P l.toArray Q (l.drop n) a' w') (l.take n) a):(Code.region id l.toArray true).wp P Q a w:=by
 simp only[Region.lexTailB,Bool.and_eq_true,decide_eq_true_eq]at hB
 obtain⟨⟨⟨⟨hsel,hn⟩,hs⟩,hc⟩,hlex⟩:=hB
 have hn':n<l.length:=by simpa using hn
 have htl:(l.take n).length=n:=by simp;omega
 have hdl:(l.drop n).length=l.toArray.size-n:=by simp
 have inv0:HeadInv .any l.toArray n (Array.replicate l.toArray.size false) :=
  ⟨by simp,fun j oj _ hl=>(by rw[getD_replicate_false]at hl;cases hl),fun t _ ht=>getD_in (by simpa using ht) (getD_replicate_false _ _)⟩
 have H:=anyOrder_lex (md:=.any) (g:=l.toArray.size-n) hA hsel (fun listed inv i hi hun=>tail_waits hs hc hn inv _ i rfl hi hun) (l.take n) 0 _ a (fun j hj=>by
  have hj':j<n:=by rw[htl]at hj;exact hj
  simp[hj']) (by simpa using htl) inv0 (fun j hj=>absurd hj (Nat.not_lt_zero _)) (by rw[htl];exact hlex) h
 refine wp_region_any hm ?_
 have:=wpAny_of_anyOrder (Q':=Q) hA hLa hdep (g:=l.toArray.size-n) (fun listed a' w' hw' he hG hL=>by
  have:=wpAny_of_seq (md:=.any) (Q':=Q) (l.drop n) n listed a' w' (fun j=>by simp[List.getElem?_drop]) (by rw[hdl];exact hL.2.1) (hL.2.2 w' hw' he (fun o ho=>by
   obtain⟨j,hj,rfl⟩:=List.getElem_of_mem ho
   have hj':j<n:=by rw[htl]at hj;exact hj
   exact hG j _ (by simp[List.getElem_take]) (hL.1 j hj')))
  rwa [hdl]at this) _ _ _ _ inv0 (fun j oj _ hl=>(by rw[getD_replicate_false]at hl;cases hl)) hC hE H
 rw[htl,show n+(l.toArray.size-n)=l.toArray.size by omega]at this
 exact this
end
end Go.Qh

namespace Go.Qh
open Go
def RrT (Tr:Nat→Option Obj→Option Obj→Prop) (w w':World):Prop:=w.heap.size≤w'.heap.size∧∀ b,b<w.heap.size→w'.heap[b]? = w.heap[b]?∨Tr b w.heap[b]? w'.heap[b]?
theorem zu3 {Tr:Nat→Option Obj→Option Obj→Prop} (w:World):RrT Tr w w:=⟨Nat.le_refl _,fun _ _=>.inl rfl⟩
theorem zrr {Tr:Nat→Option Obj→Option Obj→Prop} (hT:∀ b x y z,Tr b x y→Tr b y z→Tr b x z) {a b c:World} (h:RrT Tr a b) (k:RrT Tr b c):RrT Tr a c :=
 ⟨Nat.le_trans h.1 k.1,fun i hi=>by
  rcases h.2 i hi with h1|h1<;>rcases k.2 i (Nat.lt_of_lt_of_le hi h.1) with h2|h2
  ·left;rw[h2,h1]
  ·right;rw[h1]at h2;exact h2
  ·right;rw[h2];exact h1
  ·right;exact hT _ _ _ _ h1 h2⟩
theorem rrt_below {Tr:Nat→Option Obj→Option Obj→Prop} {w w':World} (h:Go.RowKit.Below w.heap.size w w'):RrT Tr w w':=⟨h.size,fun b hb=>.inl (h.block b hb)⟩
def FoS (S:Tmp→Nat→World→Prop) (o:Oper) (a:Act) (w:World):Prop:=o.dst=none→∀ ty d x,o.op=.store ty (.tmp d) x→∀ g,a.tmps.getD d undef=.pointer (some ⟨g,0,none⟩)→S d g w
theorem aux_mk {ops:Array Oper} {Tr:Nat→Option Obj→Option Obj→Prop} {S:Tmp→Nat→World→Prop} (hT:∀ b x y z,Tr b x y→Tr b y z→Tr b x z) (hS:∀ d g w w',S d g w→RrT Tr w w'→S d g w'):Aux ops (RrT Tr) (FoS S) where
 refl:=zu3
 trans:=zrr hT
 size:=fun h=>h.1
 put:=fun o a dst u hd=>by
  funext w
  have key:∀ ty d x,o.op=.store ty (.tmp d) x→(a.put dst u).tmps.getD d undef=a.tmps.getD d undef:=fun ty d x ho=>getD_put a dst u d (fun e=>hd d e (by simp[Oper.looksAt,ho,Op.operands]))
  refine propext (Iff.intro ?_ ?_)
  ·intro h hn ty d x ho g hg
   exact h hn ty d x ho g (by rw[key ty d x ho];exact hg)
  ·intro h hn ty d x ho g hg
   exact h hn ty d x ho g (by rw[← key ty d x ho];exact hg)
 last:=fun h hr hn ty d x ho g hg=>hS _ _ _ _ (h hn ty d x ho g hg) hr
 some:=fun hs hn=>by rw[hn]at hs;cases hs
end Go.Qh

namespace Go.Qr
open Go
section
variable {P:Program} {ops:Array Oper} {md:Region.Mode} {C0 C1:World→Prop} {Phi:FuncId→Array Value→Value→Prop} {s:Nat}
def oneL (P:Program) (C0 C1:World→Prop) (Phi:FuncId→Array Value→Value→Prop) (late:Bool) (o:Oper) (a:Act) (next:Act→Prop):Prop :=
 ∃ R:Value→Prop,((∀ w,C0 w→atw P C0 Phi o a w R)∧(late=true→∀ w,C1 w→atw P C1 Phi o a w R))∧∀ v,R v→next (a.put o.dst v)

def oneS (P:Program) (C0 C1:World→Prop) (o:Oper) (a:Act) (next:Act→Prop):Prop :=
 (∀ w,C0 w→∃ w',(execOp a.eval o).run P w=.ok .skip w'∧C1 w')∧next (a.put o.dst undef)

def lateB (md:Region.Mode) (ops:Array Oper) (s i:Nat):Bool:=!Region.waitsFor md ops s i

def walkL (P:Program) (md:Region.Mode) (ops:Array Oper) (s:Nat) (C0 C1:World→Prop) (Phi:FuncId→Array Value→Value→Prop) (Q:Act→Prop):Nat→List Oper→Act→Prop
 | _,[],a=>Q a
 | k,o::rest,a=>if k=s then oneS P C0 C1 o a (walkL P md ops s C0 C1 Phi Q (k+1) rest) else oneL P C0 C1 Phi (lateB md ops s k) o a (walkL P md ops s C0 C1 Phi Q (k+1) rest)

def opAtL (P:Program) (md:Region.Mode) (ops:Array Oper) (s:Nat) (C0 C1:World→Prop) (Phi:FuncId→Array Value→Value→Prop) (i:Nat) (K:Act→Prop) (a:Act):Prop :=
 match ops[i]? with
 | none=>K a
 | some o=>if i=s then oneS P C0 C1 o a K else oneL P C0 C1 Phi (lateB md ops s i) o a K

theorem oneL_mono {l:Bool} {o:Oper} {a:Act} {K K':Act→Prop} (h:∀ a,K a→K' a) (hh:oneL P C0 C1 Phi l o a K):oneL P C0 C1 Phi l o a K' :=
 let ⟨R,h1,h2⟩:=hh
 ⟨R,h1,fun v hv=>h _ (h2 v hv)⟩

theorem opAtL_mono {i:Nat} {a:Act} {K K':Act→Prop} (h:∀ a,K a→K' a) (hh:opAtL P md ops s C0 C1 Phi i K a):opAtL P md ops s C0 C1 Phi i K' a:=by
 cases ho:ops[i]? with
 | none=>simp only[opAtL,ho]at hh ⊢;exact h _ hh
 | some o =>
  simp only[opAtL,ho]at hh ⊢
  by_cases hi:i=s
  ·rw[if_pos hi]at hh ⊢;exact⟨hh.1,h _ hh.2⟩
  ·rw[if_neg hi]at hh ⊢;exact oneL_mono h hh

def YieldsL (P:Program) (C0 C1:World→Prop) (Phi:FuncId→Array Value→Value→Prop) (l:Bool) (o:Oper) (R:Value→Prop) (a:Act):Prop :=
 (∀ w,C0 w→atw P C0 Phi o a w R)∧(l=true→∀ w,C1 w→atw P C1 Phi o a w R)

theorem yieldsL_some {l:Bool} {o:Oper} {R:Value→Prop} {a:Act} {w0:World} (h0:C0 w0) (hg:o.guard=none) (hy:YieldsL P C0 C1 Phi l o R a):∃ v,R v :=
 Yields.some (ops:=#[]) h0 (.inl ⟨by simp[Region.wanted,hg],hy.1⟩)

theorem atw_same {C:World→Prop} {o:Oper} {R:Value→Prop} {a a':Act} {w:World} (h:atw P C Phi o a w R) (he:execOp a'.eval o=execOp a.eval o):atw P C Phi o a' w R:=by
 unfold atw at *
 rw[he]
 exact h

theorem opAtL_put {l:Bool} {j:Nat} {oi oj:Oper} {R:Value→Prop} (hj:ops[j]? = some oj) (hap:oi.apart ops oj=true)
  (hsi:∀ cs b,oi.op ≠ .select cs b) (hsj:∀ cs b,oj.op ≠ .select cs b) {w0:World} (h0:C0 w0) (hgi:oi.guard=none) {K:Act→Prop} {a:Act}
  (hy:YieldsL P C0 C1 Phi l oi R a) (h:∀ v,R v→opAtL P md ops s C0 C1 Phi j K (a.put oi.dst v)) :
  opAtL P md ops s C0 C1 Phi j (fun a'=>YieldsL P C0 C1 Phi l oi R a'∧∀ v,R v→K (a'.put oi.dst v)) a:=by
 obtain⟨h1,h2,h3⟩:=Oper.apart_spec hap
 have keep:∀ u,YieldsL P C0 C1 Phi l oi R (a.put oj.dst u):=fun u =>
  ⟨fun w hw=>atw_same (hy.1 w hw) (execOp_put oi hsi a oj.dst u h3),fun hl w hw=>atw_same (hy.2 hl w hw) (execOp_put oi hsi a oj.dst u h3)⟩
 obtain⟨v0,hv0⟩:=yieldsL_some h0 hgi hy
 simp only[opAtL,hj]at h ⊢
 by_cases hjs:j=s
 ·rw[if_pos hjs]
  refine⟨fun w hw=>?_,keep _,fun v hv=>?_⟩
  ·have hh:=h v0 hv0
   rw[if_pos hjs]at hh
   obtain⟨w',e,hc⟩:=hh.1 w hw
   exact⟨w',by rw[← execOp_put oj hsj a oi.dst v0 h1];exact e,hc⟩
  ·have hh:=h v hv
   rw[if_pos hjs]at hh
   rw[← Act.put_comm a v undef h2]
   exact hh.2
 ·rw[if_neg hjs]
  have hx:∀ x:{v // R v},∃ S:Value→Prop,((∀ w,C0 w→atw P C0 Phi oj a w S)∧(lateB md ops s j=true→∀ w,C1 w→atw P C1 Phi oj a w S))∧∀ u,S u→K ((a.put oi.dst x.1).put oj.dst u):=fun x=>by
   have hh:=h x.1 x.2
   rw[if_neg hjs]at hh
   obtain⟨S,s1,s2⟩:=hh
   exact⟨S,⟨fun w hw=>atw_same (s1.1 w hw) (execOp_put oj hsj a oi.dst x.1 h1).symm,fun hl w hw=>atw_same (s1.2 hl w hw) (execOp_put oj hsj a oi.dst x.1 h1).symm⟩,s2⟩
  have hS:=fun x=>Classical.choose_spec (hx x)
  refine⟨fun u=>∀ x:{v // R v},Classical.choose (hx x) u,⟨fun w hw=>zbl ⟨v0,hv0⟩ fun x=>(hS x).1.1 w hw,fun hl w hw=>zbl ⟨v0,hv0⟩ fun x=>(hS x).1.2 hl w hw⟩,fun u hu=>⟨keep u,fun v hv=>?_⟩⟩
  rw[← Act.put_comm a v u h2]
  exact (hS ⟨v,hv⟩).2 u (hu ⟨v,hv⟩)

def anyOrderL (P:Program) (md:Region.Mode) (ops:Array Oper) (s:Nat) (C0 C1:World→Prop) (Phi:FuncId→Array Value→Value→Prop) (n:Nat) (L:Array Bool→Act→Prop):Nat→Array Bool→Act→Prop
 | 0,listed,a=>L listed a
 | f+1,listed,a =>
  Region.ready md ops listed ≠ []∧∀ i∈Region.ready md ops listed,i<n∧opAtL P md ops s C0 C1 Phi i (anyOrderL P md ops s C0 C1 Phi n L f (listed.setIfInBounds i true)) a

theorem yieldsL_opAt {i:Nat} {o:Oper} {R:Value→Prop} {a:Act} (hi:ops[i]? = some o) (his:i ≠ s) (hy:YieldsL P C0 C1 Phi (lateB md ops s i) o R a) {K:Act→Prop} (h:∀ v,R v→K (a.put o.dst v)):opAtL P md ops s C0 C1 Phi i K a:=by
 simp only[opAtL,hi,if_neg his]
 exact⟨R,hy,h⟩

theorem anyOrderL_first {n i:Nat} {oi:Oper} {R:Value→Prop} {L:Array Bool→Act→Prop} (hi:ops[i]? = some oi) (hsel:∀ (j:Nat) (o:Oper) cs b,ops[j]? = some o→o.op ≠ .select cs b)
  (hw:∀ listed,HeadInv md ops n listed→∀ i,i<n→listed.getD i true=false→∀ t,n≤t→t ∉ Region.ready md ops listed) (hin:i<n) (his:i ≠ s) (hgi:oi.guard=none) {w0:World} (h0:C0 w0)
  (hdone:∀ listed a,L listed a→∀ j∈Region.ready md ops listed,n≤j) :
  ∀ (f:Nat) (listed:Array Bool) (a:Act),HeadInv md ops n listed →
   (∀ j oj,ops[j]? = some oj→j ≠ i→listed.getD j true=false→(∀ e∈oj.after,Region.binds md e=true→e.on ≠ i)→oi.apart ops oj=true) →
   i∈Region.ready md ops listed→YieldsL P C0 C1 Phi (lateB md ops s i) oi R a →
   (∀ v,R v→anyOrderL P md ops s C0 C1 Phi n L f (listed.setIfInBounds i true) (a.put oi.dst v))→anyOrderL P md ops s C0 C1 Phi n L (f+1) listed a:=by
 intro f
 induction f with
 | zero =>
  intro listed a inv _ hr hy H
  have hun:=(mem_ready.1 hr).1
  refine⟨fun h=>(by rw[h]at hr;cases hr),fun j hj=>?_⟩
  have hjn:j<n:=Nat.lt_of_not_le fun h=>hw _ inv i hin hun j h hj
  refine⟨hjn,?_⟩
  by_cases hji:j=i
  ·subst hji;exact yieldsL_opAt hi his hy H
  ·obtain⟨v,hv⟩:=yieldsL_some h0 hgi hy
   exact absurd (hdone _ _ (H v hv) j (ready_mono hj hji)) (by omega)
 | succ f ih =>
  intro listed a inv hfree hr hy H
  have hun:=(mem_ready.1 hr).1
  refine⟨fun h=>(by rw[h]at hr;cases hr),fun j hj=>?_⟩
  have hjn:j<n:=Nat.lt_of_not_le fun h=>hw _ inv i hin hun j h hj
  refine⟨hjn,?_⟩
  by_cases hji:j=i
  ·subst hji;exact yieldsL_opAt hi his hy H
  ·have h1:=fun v hv=>((H v hv).2 j (ready_mono hj hji)).2
   obtain⟨hjun,oj,hoj,hall⟩:=mem_ready.1 hj
   have hnot:∀ e∈oj.after,Region.binds md e=true→e.on ≠ i:=fun e he hb heq=>by
    have h1:=hall e he hb
    rw[heq,getD_both hun]at h1
    cases h1
   have h2:=opAtL_put hoj (hfree j oj hoj hji hjun hnot) (fun cs b=>hsel i oi cs b hi) (fun cs b=>hsel j oj cs b hoj) h0 hgi hy h1
   have hfree':∀ k ok,ops[k]? = some ok→k ≠ i→(listed.setIfInBounds j true).getD k true=false →
     (∀ e∈ok.after,Region.binds md e=true→e.on ≠ i)→oi.apart ops ok=true:=fun k ok hk hki hun hno=>by
    refine hfree k ok hk hki ?_ hno
    by_cases hjk:j=k
    ·subst hjk;exact hjun
    ·rw[getD_set_ne true hjk]at hun;exact hun
   refine opAtL_mono (fun a' h3=>ih (listed.setIfInBounds j true) a' (inv.set hj hjn) hfree' (ready_mono hr (Ne.symm hji)) h3.1 fun v hv=>?_) h2
   rw[Array.setIfInBounds_comm _ _ hji]
   exact h3.2 v hv

def lexS (md:Region.Mode) (ops:Array Oper) (g:Nat):Nat→Nat→Array Bool→Bool
 | 0,_,_=>false
 | 1,k,listed=>decide (Region.ready md ops listed=[k]) && Region.seqB md ops g (k+1) (listed.setIfInBounds k true)
 | f+2,k,listed=>(Region.ready md ops listed).contains k && Region.free md ops listed k && lexS md ops g (f+1) (k+1) (listed.setIfInBounds k true)

theorem anyOrderL_lex {n g:Nat} {Lq:Act→Prop} (hsel:Region.noSelect ops=true) (hw:∀ listed,HeadInv md ops n listed→∀ i,i<n→listed.getD i true=false→∀ t,n≤t→t ∉ Region.ready md ops listed) {w0:World} (h0:C0 w0)
  (hs:s+1=n) (hg:∀ i o,i<n→ops[i]? = some o→o.guard=none) :
  ∀ (l:List Oper) (k:Nat) (listed:Array Bool) (a:Act),(∀ j,j<l.length→l[j]? = ops[k+j]?)→k+l.length=n→HeadInv md ops n listed →
  lexS md ops g l.length k listed=true→walkL P md ops s C0 C1 Phi Lq k l a →
  anyOrderL P md ops s C0 C1 Phi n (fun listed' a'=>Region.seqB md ops g n listed'=true∧Lq a') l.length listed a
 | [],k,listed,a,_,hk,_,hB,h=>by simp[lexS]at hB
 | [o],k,listed,a,hl,hk,inv,hB,h=>by
  have ho:ops[k]? = some o:=by simpa using (hl 0 (by simp)).symm
  have hk:k+1=n:=by simpa using hk
  have hks:k=s:=by omega
  simp only[List.length_cons,List.length_nil,Nat.zero_add,lexS,Bool.and_eq_true,decide_eq_true_eq]at hB
  refine⟨by rw[hB.1];simp,fun i hi=>?_⟩
  rw[hB.1]at hi
  have hik:i=k:=by simpa using hi
  subst hik
  refine⟨by omega,?_⟩
  unfold opAtL
  simp only[ho,if_pos hks]
  simp only[walkL,if_pos hks]at h
  exact⟨h.1,by rw[← hk];exact hB.2,h.2⟩
 | o::o2::l,k,listed,a,hl,hk,inv,hB,h=>by
  have ho:ops[k]? = some o:=by simpa using (hl 0 (by simp)).symm
  simp only[List.length_cons,lexS,Bool.and_eq_true]at hB
  obtain⟨⟨hr,hf⟩,hB'⟩:=hB
  have hkn:k+1<n:=by simp only[List.length_cons]at hk;omega
  have hks:k ≠ s:=by omega
  have hr':k∈Region.ready md ops listed:=by simpa using hr
  simp only[walkL,if_neg hks]at h
  obtain⟨R,hy,hK⟩:=h
  exact anyOrderL_first ho (Region.noSelect_spec hsel) hw (by omega) hks (hg k o (by omega) ho) h0 (fun listed' a' hL=>seqB_ready hL.1) (o2::l).length listed a inv (Region.free_spec ho hf) hr' hy
   fun v hv=>anyOrderL_lex hsel hw h0 hs hg (o2::l) (k+1) _ _ (fun j hj=>by have:=hl (j+1) (by simp at hj ⊢;omega);simpa [Nat.add_assoc,Nat.add_comm 1 j] using this) (by simp only[List.length_cons]at hk ⊢;omega) (inv.set hr' (by omega)) hB' (by simpa only[walkL] using hK v hv)

theorem wpAny_of_anyOrderL {n g:Nat} {L:Array Bool→Act→Prop} {Q':Exit→Act→World→Prop} (hL:∀ listed a w,HeadInv md ops n listed→(if listed.getD s false=true then C1 w else C0 w)→L listed a→wpAny P md ops Q' g listed a w)
  (hg:∀ i o,i<n→ops[i]? = some o→o.guard=none) :
  ∀ (f:Nat) (listed:Array Bool) (a:Act) (w:World),HeadInv md ops n listed→(if listed.getD s false=true then C1 w else C0 w)→anyOrderL P md ops s C0 C1 Phi n L f listed a→wpAny P md ops Q' (f+g) listed a w
 | 0,listed,a,w,inv,hw,h=>by rw[Nat.zero_add];exact hL _ _ _ inv hw h
 | f+1,listed,a,w,inv,hw,h=>by
  rw[show f+1+g=(f+g)+1 by omega]
  refine⟨fun h0=>absurd h0 h.1,fun i hi=>?_⟩
  obtain⟨hin,hop⟩:=h.2 i hi
  obtain⟨hun,o,ho,hall⟩:=mem_ready.1 hi
  have hwn:Region.wanted o (yielded ops a.tmps)=true:=by simp[Region.wanted,hg i o hin ho]
  unfold wpOp
  simp only[opAtL,ho]at hop ⊢
  rw[if_pos hwn]
  refine .inl ?_
  by_cases his:i=s
  ·rw[if_pos his]at hop
   have hl0:listed.getD s false=false:=by rw[← his];exact getD_both hun
   rw[hl0,if_neg (by decide)]at hw
   obtain⟨w',e,hc⟩:=hop.1 w hw
   unfold Oper.wp
   rw[e]
   refine wpAny_of_anyOrderL hL hg f _ _ w' (inv.set hi hin) ?_ hop.2
   have hlt:i<listed.size:=by rw[inv.size];exact (Array.getElem?_eq_some_iff.1 ho).1
   have:(listed.setIfInBounds i true).getD s false=true:=by
    rw[← his,Array.getD_eq_getD_getElem?,Array.getElem?_setIfInBounds_self_of_lt hlt];rfl
   rw[this,if_pos rfl];exact hc
  ·rw[if_neg his]at hop
   obtain⟨R,hy,hK⟩:=hop
   have hset:(listed.setIfInBounds i true).getD s false=listed.getD s false:=getD_set_ne false his
   by_cases hl:listed.getD s false=true
   ·rw[hl,if_pos rfl]at hw
    have hlate:lateB md ops s i=true:=by
     unfold lateB
     cases hwf:Region.waitsFor md ops s i with
     | false=>rfl
     | true =>
      obtain⟨os,hos,e,he,hb,hon⟩:=Region.waitsFor_spec hwf
      have:=inv.closed s os hos hl e he hb
      rw[hon,getD_both hun]at this
      cases this
    exact zbq (C:=C1) (Phi:=Phi) hw (fun a' w' hw' hk=>wpAny_of_anyOrderL hL hg f _ a' w' (inv.set hi hin) (by rw[hset,hl,if_pos rfl];exact hw') hk) ⟨R,hy.2 hlate,hK⟩
   ·rw[if_neg hl]at hw
    exact zbq (C:=C0) (Phi:=Phi) hw (fun a' w' hw' hk=>wpAny_of_anyOrderL hL hg f _ a' w' (inv.set hi hin) (by rw[hset,if_neg hl];exact hw') hk) ⟨R,hy.1,hK⟩

theorem wp_regionL {id:Nat} {Q:Exit→Act→World→Prop} {a:Act} {w:World} {l:List Oper} (n:Nat) (hm:P.follows .mixedOrders=true)
  (hB:(Region.noSelect l.toArray && decide (n+1<l.toArray.size) && Region.sinkB .any l.toArray (n+1) && Region.chainB .any l.toArray (n+1) && lexS .any l.toArray (l.toArray.size-(n+1)) (n+1) 0 (Array.replicate l.toArray.size false))=true)
  (C0 C1:World→Prop) (Phi:FuncId→Array Value→Value→Prop) (hC:C0 { w with drawn:=w.drawn+1 }) (hg:((l.take (n+1)).all fun o=>o.guard.isNone)=true)
  (h:walkL P .any l.toArray n C0 C1 Phi (fun a'=>∀ w',C1 w'→wpList P l.toArray Q (l.drop (n+1)) a' w') 0 (l.take (n+1)) a):(Code.region id l.toArray true).wp P Q a w:=by
 simp only[Bool.and_eq_true,decide_eq_true_eq]at hB
 obtain⟨⟨⟨⟨hsel,hn⟩,hs⟩,hc⟩,hlex⟩:=hB
 have hn':n+1<l.length:=by simpa using hn
 have htl:(l.take (n+1)).length=n+1:=by simp;omega
 have hdl:(l.drop (n+1)).length=l.toArray.size-(n+1):=by simp
 have inv0:HeadInv .any l.toArray (n+1) (Array.replicate l.toArray.size false) :=
  ⟨by simp,fun j oj _ hl=>(by rw[getD_replicate_false]at hl;cases hl),fun t _ ht=>getD_in (by simpa using ht) (getD_replicate_false _ _)⟩
 have hgg:∀ i o,i<n+1→l.toArray[i]? = some o→o.guard=none:=fun i o hi ho=>by
  have h1:=List.all_eq_true.1 hg o (List.mem_of_getElem? (i:=i) (by rw[List.getElem?_take,if_pos hi];simpa using ho))
  exact Option.isNone_iff_eq_none.1 h1
 have hw:=fun listed (inv:HeadInv .any l.toArray (n+1) listed) i hi hun=>tail_waits hs hc hn inv _ i rfl hi hun
 have H:=anyOrderL_lex (md:=.any) (g:=l.toArray.size-(n+1)) hsel hw hC rfl hgg (l.take (n+1)) 0 _ a (fun j hj=>by
  have hj':j<n+1:=by rw[htl]at hj;exact hj
  simp[hj']) (by simpa using htl) inv0 (by rw[htl];exact hlex) h
 refine wp_region_any hm ?_
 have:=wpAny_of_anyOrderL (Q':=Q) (g:=l.toArray.size-(n+1)) (fun listed a' w' inv hw' hL=>by
  have hall:listed.getD n false=true:=by
   cases hb:listed.getD n false with
   | true=>rfl
   | false =>
    exfalso
    have hsz:n<listed.size:=by rw[inv.size];simp;omega
    have hr:n+1∈Region.ready .any l.toArray listed:=by
     have h2:=hL.1
     rw[show l.toArray.size-(n+1)=(l.toArray.size-(n+1)-1)+1 by omega]at h2
     simp only[Region.seqB,Bool.and_eq_true,decide_eq_true_eq]at h2
     rw[h2.1];simp
    exact hw listed inv n (by omega) (getD_in hsz hb) (n+1) (Nat.le_refl _) hr
  rw[hall,if_pos rfl]at hw'
  have:=wpAny_of_seq (md:=.any) (Q':=Q) (l.drop (n+1)) (n+1) listed a' w' (fun j=>by simp[List.getElem?_drop]) (by rw[hdl];exact hL.1) (hL.2 w' hw')
  rwa [hdl]at this) hgg _ _ _ _ inv0 (by rw[getD_replicate_false,if_neg (by decide)];exact hC) H
 rw[htl,show n+1+(l.toArray.size-(n+1))=l.toArray.size by omega]at this
 exact this

theorem walkL_step {Q:Act→Prop} {a:Act} {o:Oper} {rest:List Oper} {k:Nat} {b:Bool} (hk:(k==s)=false) (hb:lateB md ops s k=b)
  (h:∀ K:Act→Prop,(∀ a,walkL P md ops s C0 C1 Phi Q (k+1) rest a→K a)→oneL P C0 C1 Phi b o a K):walkL P md ops s C0 C1 Phi Q k (o::rest) a:=by
 have hk':k ≠ s:=by simpa using hk
 simp only[walkL,if_neg hk',hb]
 exact h _ fun _ h=>h
theorem walkL_store {Q:Act→Prop} {a:Act} {o:Oper} {rest:List Oper} {k:Nat} (hk:(k==s)=true)
  (h:∀ K:Act→Prop,(∀ a,walkL P md ops s C0 C1 Phi Q (k+1) rest a→K a)→oneS P C0 C1 o a K):walkL P md ops s C0 C1 Phi Q k (o::rest) a:=by
 have hk':k=s:=by simpa using hk
 simp only[walkL,if_pos hk']
 exact h _ fun _ h=>h
theorem walkL_nil {Q:Act→Prop} {a:Act} {k:Nat} (h:Q a):walkL P md ops s C0 C1 Phi Q k [] a:=h

theorem oneL_early {o:Oper} {a:Act} {K:Act→Prop} (h:one P C0 Phi o a K):oneL P C0 C1 Phi false o a K:=by
 obtain⟨R,h1,h2⟩:=h
 exact⟨R,⟨h1,fun hf=>by cases hf⟩,h2⟩
theorem oneL_det {o:Oper} {a:Act} {K:Act→Prop} {v:Value} {b:Bool} (h:∀ w,(execOp a.eval o).run P w=.ok (.value v) w) (hk:K (a.put o.dst v)):oneL P C0 C1 Phi b o a K:=by
 refine⟨fun x=>x=v,⟨fun w hw=>?_,fun _ w hw=>?_⟩,fun x hx=>by rw[hx];exact hk⟩
 all_goals
  unfold atw
  rw[h w]
  exact⟨⟨hw,Go.RowKit.Below.refl _ _⟩,rfl⟩
end
end Go.Qr
