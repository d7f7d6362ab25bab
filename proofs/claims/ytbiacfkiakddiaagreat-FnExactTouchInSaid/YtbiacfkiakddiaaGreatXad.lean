/-
 Lemmas: Qt,Qu,Ta.
-/
import Derived.Test.YtbiacfkiakddiaaGreatXaa
import Derived.KernelRfl
import Derived.Laws.FloatBits
import Derived.Test.YtbiacfkiakddiaaGreatChecked
import Ieee.Arith
set_option linter.unusedVariables false
set_option linter.unusedSimpArgs false
namespace Go.Qr
open Go
section
variable {P:Program} {ops:Array Oper} {md:Region.Mode} {C:World→Prop} {Phi:FuncId→Array Value→Value→Prop}
def zpy (P:Program) (Phi:FuncId→Array Value→Value→Prop) (o:Oper) (a:Act) (w:World) (v:Value) (w':World):Prop :=
 Go.RowKit.Below w.heap.size w w'∧((execOp a.eval o).run P w=.ok (.value v) w'∨(∃ f args w1,(execOp a.eval o).run P w=.ok (.enter f args) w1∧Phi f args v)∨(∃ w1,(execOp a.eval o).run P w=.ok .skip w1))

theorem zn0 {E:Act→World→Prop} {o:Oper} {a:Act} {K:Act→Prop} {K':Act→World→Prop} {Q':Exit→Act→World→Prop} {w:World} (hw:C w)
  (hE:∀ v w',zpy P Phi o a w v w'→E (a.put o.dst v) w') (h:∀ v w',C w'→E (a.put o.dst v) w'→K (a.put o.dst v)→K' (a.put o.dst v) w') (hh:one P C Phi o a K):o.wp P a w K' Q':=by
 obtain⟨R,h1,h2⟩:=hh
 have h3:=h1 w hw
 unfold atw at h3
 unfold zpy at hE
 unfold Oper.wp
 generalize (execOp a.eval o).run P w=r at h3 hE ⊢
 cases r with
 | ok n w' =>
  cases n with
  | value u=>exact h _ _ h3.1.1 (hE _ _ ⟨h3.1.2,.inl rfl⟩) (h2 u h3.2)
  | skip=>exact h _ _ h3.1.1 (hE _ _ ⟨h3.1.2,.inr (.inr ⟨_,rfl⟩)⟩) (h2 _ h3.2)
  | enter f args=>exact h3.2.1.mono fun e w'' ⟨v,he,hp,hc,hl⟩=>by subst he;exact h _ _ hc (hE _ _ ⟨h3.1.2.trans (hl.mono h3.1.2.size),.inr (.inl ⟨f,args,w',rfl,hp⟩)⟩) (h2 v (h3.2.2 v hp))
  | _=>exact h3.elim
 | halt x w'=>exact h3.elim

theorem zan {E:Array Bool→Act→World→Prop} {n g:Nat} {L:Array Bool→Act→Prop} {Q':Exit→Act→World→Prop} (hL:∀ listed a w,C w→E listed a w→L listed a→wpAny P md ops Q' g listed a w)
  (hE:∀ i o a w v w' listed,i<n→ops[i]? = some o→i∈Region.ready md ops listed→C w→E listed a w→zpy P Phi o a w v w'→E (listed.setIfInBounds i true) (a.put o.dst v) w') (hg:∀ i o,i<n→ops[i]? = some o→o.guard=none) :
  ∀ (f:Nat) (listed:Array Bool) (a:Act) (w:World),C w→E listed a w→anyOrder P md ops C Phi n L f listed a→wpAny P md ops Q' (f+g) listed a w
 | 0,listed,a,w,hw,he,h=>by rw[Nat.zero_add];exact hL _ _ _ hw he h
 | f+1,listed,a,w,hw,he,h=>by
  rw[show f+1+g=(f+g)+1 by omega]
  refine⟨fun h0=>absurd h0 h.1,fun i hi=>?_⟩
  obtain⟨hin,hop⟩:=h.2 i hi
  unfold wpOp
  cases ho:ops[i]? with
  | none =>
   obtain⟨_,o,ho',_⟩:=mem_ready.1 hi
   rw[ho]at ho';cases ho'
  | some o =>
   simp only[opAt,ho]at hop ⊢
   have hwn:Region.wanted o (yielded ops a.tmps)=true:=by simp[Region.wanted,hg i o hin ho]
   rw[if_pos hwn]at hop;rw[if_pos hwn]
   exact .inl (zn0 hw (fun v w' hc=>hE i o a w v w' listed hin ho hi hw he hc) (fun v w' hw' he' hk=>zan hL hE hg f _ _ w' hw' he' hk) hop)

theorem zor {id:Nat} {Q:Exit→Act→World→Prop} {a:Act} {w:World} {l:List Oper} (n:Nat) (hm:P.follows .mixedOrders=true) (hB:Region.lexTailB .any l.toArray n=true)
  (C:World→Prop) (Phi:FuncId→Array Value→Value→Prop) (E:Array Bool→Act→World→Prop) (hC:C { w with drawn:=w.drawn+1 }) (hE0:E (Array.replicate l.toArray.size false) a { w with drawn:=w.drawn+1 })
  (hE:∀ i o a w v w' listed,i<n→l[i]? = some o→i∈Region.ready .any l.toArray listed→C w→E listed a w→zpy P Phi o a w v w'→E (listed.setIfInBounds i true) (a.put o.dst v) w') (hg:((l.take n).all fun o=>o.guard.isNone)=true)
  (h:walk P l.toArray C Phi (fun a'=>∀ w',C w'→(∃ listed,n∈Region.ready .any l.toArray listed∧E listed a' w')→wpList P l.toArray Q (l.drop n) a' w') (l.take n) a):(Code.region id l.toArray true).wp P Q a w:=by
 simp only[Region.lexTailB,Bool.and_eq_true,decide_eq_true_eq]at hB
 obtain⟨⟨⟨⟨hsel,hn⟩,hs⟩,hc⟩,hlex⟩:=hB
 have hn':n<l.length:=by simpa using hn
 have htl:(l.take n).length=n:=by simp;omega
 have hdl:(l.drop n).length=l.toArray.size-n:=by simp
 have inv0:HeadInv .any l.toArray n (Array.replicate l.toArray.size false) :=
  ⟨by simp,fun j oj _ hl=>(by rw[getD_replicate_false]at hl;cases hl),fun t _ ht=>getD_in (by simpa using ht) (getD_replicate_false _ _)⟩
 have H:=anyOrder_lex (md:=.any) (g:=l.toArray.size-n) hsel (fun listed inv i hi hun=>tail_waits hs hc hn inv _ i rfl hi hun) hC (l.take n) 0 _ a (fun j hj=>by
  have hj':j<n:=by rw[htl]at hj;exact hj
  simp[hj']) (by simpa using htl) inv0 (by rw[htl];exact hlex) h
 refine wp_region_any hm ?_
 have:=zan (Q':=Q) (E:=E) (g:=l.toArray.size-n) (fun listed a' w' hw' he hL=>by
  have:=wpAny_of_seq (md:=.any) (Q':=Q) (l.drop n) n listed a' w' (fun j=>by simp[List.getElem?_drop]) (by rw[hdl];exact hL.1) (hL.2 w' hw' ⟨_,by
   have h1:=hL.1
   obtain⟨g',hg'⟩:∃ g',l.toArray.size-n=g'+1:=⟨l.toArray.size-n-1,by simp;omega⟩
   rw[hg']at h1
   simp only[Region.seqB,Bool.and_eq_true,decide_eq_true_eq]at h1
   rw[h1.1];simp,he⟩)
  rwa [hdl]at this) (fun i o a w v w' listed hi ho=>hE i o a w v w' listed hi (by simpa using ho)) (fun i o hi ho=>by
   have h1:=List.all_eq_true.1 hg o (List.mem_of_getElem? (i:=i) (by rw[List.getElem?_take,if_pos hi];simpa using ho))
   exact Option.isNone_iff_eq_none.1 h1) _ _ _ _ hC hE0 H
 rw[htl,show n+(l.toArray.size-n)=l.toArray.size by omega]at this
 exact this

theorem zcu {Q Q':Act→Prop} (hq:∀ a,Q a→Q' a):∀ {l:List Oper} {a:Act},walk P ops C Phi Q l a→walk P ops C Phi Q' l a
 | [],_,h=>hq _ h
 | o::rest,a,h=>by
  unfold walk at h ⊢
  by_cases hw:Region.wanted o (yielded ops a.tmps)=true
  ·rw[if_pos hw]at h ⊢;exact znf (fun _ h=>zcu hq h) h
  ·rw[if_neg hw]at h ⊢;exact zcu hq h

def zxi (W:World) (d:Tmp) (R:Value→Prop) (T:TypeId) (a:Act) (w:World):Prop :=
 ∃ g v,a.tmps.getD d undef=.slice (some ⟨g,0,none⟩) 1 1∧W.heap.size≤g∧R v∧w.heap[g]? = some (.cells #[v] T (0,0))

theorem ztn (a:Act) (x:Option Tmp) (v:Value):(a.put x v).tmps.size=a.tmps.size:=by
 cases x with
 | none=>rfl
 | some y=>simp[Act.put]

theorem zdf (a:Act) (d:Tmp) (v:Value) (h:d<a.tmps.size):(a.put (some d) v).tmps.getD d undef=v:=by
 simp only[Act.put,Array.getD_eq_getD_getElem?]
 rw[Array.getElem?_setIfInBounds_self_of_lt h]
 rfl

theorem wp_madeS {id:Nat} {Q:Exit→Act→World→Prop} {a:Act} {w:World} {l:List Oper} (n m c:Nat) (d e:Tmp) (R:Value→Prop) (T:TypeId) (hm:P.follows .mixedOrders=true) (hB:Region.lexTailB .any l.toArray n=true)
  (Phi:FuncId→Array Value→Value→Prop) (hsz:d<a.tmps.size∧e<a.tmps.size)
  (hd:((List.range n).all fun i=>i==m || ((l[i]?).bind (·.dst)) != some d)=true)
  (he:((List.range n).all fun i=>i==c || ((l[i]?).bind (·.dst)) != some e)=true)
  (hdep:∃ om,l[m]? = some om∧(om.after.any fun x=>x.on==c && Region.binds .any x)=true∧om.dst=some d∧∀ (a:Act) (w:World) (v:Value),R v→a.tmps.getD e undef=v→(execOp a.eval om).run P w=.ok (.value (.slice (some ⟨w.heap.size,0,none⟩) 1 1)) (w.alloc (.cells #[v] T)))
  (hcall:∃ oc,l[c]? = some oc∧oc.dst=some e∧∀ (a:Act) (w:World),∃ args f,(execOp a.eval oc).run P w=.ok (.enter f args) w)
  (hend:∃ on,l[n]? = some on∧(on.after.any fun x=>x.on==m && Region.binds .any x)=true) (hphi:∀ f args v,Phi f args v→R v)
  (hg:((l.take n).all fun o=>o.guard.isNone)=true)
  (h:walk P l.toArray (fun w'=>Go.RowKit.Below w.heap.size w w') Phi (fun a'=>∀ w',Go.RowKit.Below w.heap.size w w'→zxi w d R T a' w'→wpList P l.toArray Q (l.drop n) a' w') (l.take n) a):(Code.region id l.toArray true).wp P Q a w:=by
 refine zor n hm hB (fun w'=>Go.RowKit.Below w.heap.size w w') Phi (fun listed a w'=>(d<a.tmps.size∧e<a.tmps.size)∧(listed.getD c false=true→R (a.tmps.getD e undef))∧(listed.getD m false=true→zxi w d R T a w')) ((Go.RowKit.Below.refl _ _).drew)
  ⟨hsz,(fun h=>by rw[getD_replicate_false]at h;cases h),(fun h=>by rw[getD_replicate_false]at h;cases h)⟩ ?_ hg ?_
 ·intro i o a' w1 v w2 listed hi ho hready hw1 hE hc
  obtain⟨hs,hE1,hE2⟩:=hE
  obtain⟨om,hom,hdepm,hdstm,hrunm⟩:=hdep
  obtain⟨oc,hoc,hdstc,hrunc⟩:=hcall
  refine⟨by rw[ztn];exact hs,?_,?_⟩
  ·by_cases hic:i=c
   ·subst hic
    have:o=oc:=Option.some.inj (ho.symm.trans hoc)
    subst this
    intro _
    rw[hdstc,zdf _ _ _ hs.2]
    obtain⟨args,f,hr⟩:=hrunc a' w1
    rcases hc.2 with h1|⟨f',args',w3,h1,h2⟩|⟨w3,h1⟩
    ·rw[hr]at h1;cases h1
    ·exact hphi _ _ _ h2
    ·rw[hr]at h1;cases h1
   ·rw[getD_set_ne false hic]
    intro hl
    have hne:o.dst ≠ some e:=by
     have h1:=List.all_eq_true.1 he i (List.mem_range.2 hi)
     simp only[ho,Bool.or_eq_true,beq_iff_eq,bne_iff_ne,Option.bind_some]at h1
     rcases h1 with h1|h1
     ·exact absurd h1 hic
     ·exact h1
    rw[getD_put _ _ _ _ hne]
    exact hE1 hl
  ·by_cases him:i=m
   ·subst him
    have:o=om:=Option.some.inj (ho.symm.trans hom)
    subst this
    obtain⟨_,oj,hoj,hall⟩:=mem_ready.1 hready
    have:oj=o:=by
     have h1:l.toArray[i]? = some o:=by simpa using ho
     exact Option.some.inj (hoj.symm.trans h1)
    subst this
    obtain⟨x,hx,hxc⟩:=Array.any_eq_true'.1 hdepm
    rw[Bool.and_eq_true,beq_iff_eq]at hxc
    have hlc:listed.getD c false=true:=by rw[← hxc.1];exact hall x hx hxc.2
    have hR:=hE1 hlc
    have hr:=hrunm a' w1 _ hR rfl
    rcases hc.2 with h1|⟨f',args',w3,h1,h2⟩|⟨w3,h1⟩
    ·rw[hr]at h1
     injection h1 with e1 e2
     injection e1 with e1
     subst e1;subst e2
     intro _
     exact⟨w1.heap.size,_,by rw[hdstm,zdf _ _ _ hs.1],hw1.size,hR,by show (w1.heap.push _)[w1.heap.size]? = _;simp⟩
    ·rw[hr]at h1;cases h1
    ·rw[hr]at h1;cases h1
   ·have hne:o.dst ≠ some d:=by
     have h1:=List.all_eq_true.1 hd i (List.mem_range.2 hi)
     simp only[ho,Bool.or_eq_true,beq_iff_eq,bne_iff_ne,Option.bind_some]at h1
     rcases h1 with h1|h1
     ·exact absurd h1 him
     ·exact h1
    have hle:Go.RowKit.Below w1.heap.size w1 w2:=hc.1
    rw[getD_set_ne false him]
    intro hl
    obtain⟨g,v',hg1,hg4,hg5,hg6⟩:=hE2 hl
    refine⟨g,v',by rw[getD_put _ _ _ _ hne];exact hg1,hg4,hg5,?_⟩
    have hlt:g<w1.heap.size:=by
     rcases Nat.lt_or_ge g w1.heap.size with h'|h'
     ·exact h'
     ·rw[Array.getElem?_eq_none h']at hg6;cases hg6
    rw[hle.block g hlt];exact hg6
 ·refine zcu (fun a' h=>?_) h
  intro w' hw' ⟨listed,hr,hE⟩
  refine h w' hw' (hE.2.2 ?_)
  obtain⟨on,hon,honm⟩:=hend
  obtain⟨_,oj,hoj,hall⟩:=mem_ready.1 hr
  have:oj=on:=by
   have h1:l.toArray[n]? = some on:=by simpa using hon
   exact Option.some.inj (hoj.symm.trans h1)
  subst this
  obtain⟨x,hx,hxm⟩:=Array.any_eq_true'.1 honm
  rw[Bool.and_eq_true,beq_iff_eq]at hxm
  rw[← hxm.1];exact hall x hx hxm.2

end
end Go.Qr

namespace Go.Qu
open Go Go.Qr
section
variable {P:Program} {ops:Array Oper} {md:Region.Mode} {C0 C1:World→Prop} {Phi:FuncId→Array Value→Value→Prop} {s:Nat}
def oneL (P:Program) (C0 C1:World→Prop) (Phi:FuncId→Array Value→Value→Prop) (late:Bool) (o:Oper) (a:Act) (next:Act→Prop):Prop :=
 ∃ R:Value→Prop,((∀ w,C0 w→atw P C0 Phi o a w R)∧(late=true→∀ w,C1 w→atw P C1 Phi o a w R))∧∀ v,R v→next (a.put o.dst v)

def oneS (P:Program) (C0 C1:World→Prop) (o:Oper) (a:Act) (next:Act→Prop):Prop :=
 (∀ w,C0 w→∃ w',(execOp a.eval o).run P w=.ok .skip w'∧C1 w')∧next (a.put o.dst undef)

def zml (md:Region.Mode) (ops:Array Oper):Nat→Nat→Nat→Bool
 | 0,_,_=>false
 | f+1,s,i=>match ops[s]? with
  | some o=>o.after.any fun e=>Region.binds md e && (e.on==i || zml md ops f e.on i)
  | none=>false
theorem zfu {md:Region.Mode} {ops:Array Oper} {n:Nat} {listed:Array Bool} (inv:HeadInv md ops n listed):∀ (f s i:Nat),zml md ops f s i=true→listed.getD s false=true→listed.getD i false=true
 | 0,_,_,h,_=>by cases h
 | f+1,s,i,h,hs=>by
  rw[zml]at h
  split at h
  ·rename_i o ho
   obtain⟨e,he,hb⟩:=Array.any_eq_true'.1 h
   simp only[Bool.and_eq_true,Bool.or_eq_true,beq_iff_eq]at hb
   have h1:=inv.closed s o ho hs e he hb.1
   rcases hb.2 with h2|h2
   ·rw[← h2];exact h1
   ·exact zfu inv f _ _ h2 h1
  ·cases h
def lateB (md:Region.Mode) (ops:Array Oper) (s i:Nat):Bool:=!zml md ops 5 s i

def walkL (P:Program) (md:Region.Mode) (ops:Array Oper) (s:Nat) (C0 C1:World→Prop) (Phi:FuncId→Array Value→Value→Prop) (Q:Act→Prop):Nat→List Oper→Act→Prop
 | _,[],a=>Q a
 | k,o::rest,a=>if k=s then oneS P C0 C1 o a (walkL P md ops s C0 C1 Phi Q (k+1) rest) else oneL P C0 C1 Phi (lateB md ops s k) o a (walkL P md ops s C0 C1 Phi Q (k+1) rest)

def opAtL (P:Program) (md:Region.Mode) (ops:Array Oper) (s:Nat) (C0 C1:World→Prop) (Phi:FuncId→Array Value→Value→Prop) (i:Nat) (K:Act→Prop) (a:Act):Prop :=
 match ops[i]? with
 | none=>K a
 | some o=>if i=s then oneS P C0 C1 o a K else oneL P C0 C1 Phi (lateB md ops s i) o a K

theorem oneL_mono {l:Bool} {o:Oper} {a:Act} {K K':Act→Prop} (h:∀ a,K a→K' a) (hh:oneL P C0 C1 Phi l o a K):oneL P C0 C1 Phi l o a K' :=
 let ⟨R,h1,h2⟩:=hh
 ⟨R,h1,fun v hv=>h _ (h2 v hv)⟩

theorem opAtL_mono {i:Nat} {a:Act} {K K':Act→Prop} (h:∀ a,K a→K' a) (hh:opAtL P md ops s C0 C1 Phi i K a):opAtL P md ops s C0 C1 Phi i K' a:=by
 cases ho:ops[i]? with
 | none=>simp only[opAtL,ho]at hh ⊢;exact h _ hh
 | some o =>
  simp only[opAtL,ho]at hh ⊢
  by_cases hi:i=s
  ·rw[if_pos hi]at hh ⊢;exact⟨hh.1,h _ hh.2⟩
  ·rw[if_neg hi]at hh ⊢;exact oneL_mono h hh

def YieldsL (P:Program) (C0 C1:World→Prop) (Phi:FuncId→Array Value→Value→Prop) (l:Bool) (o:Oper) (R:Value→Prop) (a:Act):Prop :=
 (∀ w,C0 w→atw P C0 Phi o a w R)∧(l=true→∀ w,C1 w→atw P C1 Phi o a w R)

theorem yieldsL_some {l:Bool} {o:Oper} {R:Value→Prop} {a:Act} {w0:World} (h0:C0 w0) (hg:o.guard=none) (hy:YieldsL P C0 C1 Phi l o R a):∃ v,R v :=
 Yields.some (ops:=#[]) h0 (.inl ⟨by simp[Region.wanted,hg],hy.1⟩)

theorem atw_same {C:World→Prop} {o:Oper} {R:Value→Prop} {a a':Act} {w:World} (h:atw P C Phi o a w R) (he:execOp a'.eval o=execOp a.eval o):atw P C Phi o a' w R:=by
 unfold atw at *
 rw[he]
 exact h

theorem opAtL_put {l:Bool} {j:Nat} {oi oj:Oper} {R:Value→Prop} (hj:ops[j]? = some oj) (hap:oi.apart ops oj=true)
  (hsi:∀ cs b,oi.op ≠ .select cs b) (hsj:∀ cs b,oj.op ≠ .select cs b) {w0:World} (h0:C0 w0) (hgi:oi.guard=none) {K:Act→Prop} {a:Act}
  (hy:YieldsL P C0 C1 Phi l oi R a) (h:∀ v,R v→opAtL P md ops s C0 C1 Phi j K (a.put oi.dst v)) :
  opAtL P md ops s C0 C1 Phi j (fun a'=>YieldsL P C0 C1 Phi l oi R a'∧∀ v,R v→K (a'.put oi.dst v)) a:=by
 obtain⟨h1,h2,h3⟩:=Oper.apart_spec hap
 have keep:∀ u,YieldsL P C0 C1 Phi l oi R (a.put oj.dst u):=fun u =>
  ⟨fun w hw=>atw_same (hy.1 w hw) (execOp_put oi hsi a oj.dst u h3),fun hl w hw=>atw_same (hy.2 hl w hw) (execOp_put oi hsi a oj.dst u h3)⟩
 obtain⟨v0,hv0⟩:=yieldsL_some h0 hgi hy
 simp only[opAtL,hj]at h ⊢
 by_cases hjs:j=s
 ·rw[if_pos hjs]
  refine⟨fun w hw=>?_,keep _,fun v hv=>?_⟩
  ·have hh:=h v0 hv0
   rw[if_pos hjs]at hh
   obtain⟨w',e,hc⟩:=hh.1 w hw
   exact⟨w',by rw[← execOp_put oj hsj a oi.dst v0 h1];exact e,hc⟩
  ·have hh:=h v hv
   rw[if_pos hjs]at hh
   rw[← Act.put_comm a v undef h2]
   exact hh.2
 ·rw[if_neg hjs]
  have hx:∀ x:{v // R v},∃ S:Value→Prop,((∀ w,C0 w→atw P C0 Phi oj a w S)∧(lateB md ops s j=true→∀ w,C1 w→atw P C1 Phi oj a w S))∧∀ u,S u→K ((a.put oi.dst x.1).put oj.dst u):=fun x=>by
   have hh:=h x.1 x.2
   rw[if_neg hjs]at hh
   obtain⟨S,s1,s2⟩:=hh
   exact⟨S,⟨fun w hw=>atw_same (s1.1 w hw) (execOp_put oj hsj a oi.dst x.1 h1).symm,fun hl w hw=>atw_same (s1.2 hl w hw) (execOp_put oj hsj a oi.dst x.1 h1).symm⟩,s2⟩
  have hS:=fun x=>Classical.choose_spec (hx x)
  refine⟨fun u=>∀ x:{v // R v},Classical.choose (hx x) u,⟨fun w hw=>zbl ⟨v0,hv0⟩ fun x=>(hS x).1.1 w hw,fun hl w hw=>zbl ⟨v0,hv0⟩ fun x=>(hS x).1.2 hl w hw⟩,fun u hu=>⟨keep u,fun v hv=>?_⟩⟩
  rw[← Act.put_comm a v u h2]
  exact (hS ⟨v,hv⟩).2 u (hu ⟨v,hv⟩)

def anyOrderL (P:Program) (md:Region.Mode) (ops:Array Oper) (s:Nat) (C0 C1:World→Prop) (Phi:FuncId→Array Value→Value→Prop) (n:Nat) (L:Array Bool→Act→Prop):Nat→Array Bool→Act→Prop
 | 0,listed,a=>L listed a
 | f+1,listed,a =>
  Region.ready md ops listed ≠ []∧∀ i∈Region.ready md ops listed,i<n∧opAtL P md ops s C0 C1 Phi i (anyOrderL P md ops s C0 C1 Phi n L f (listed.setIfInBounds i true)) a

theorem yieldsL_opAt {i:Nat} {o:Oper} {R:Value→Prop} {a:Act} (hi:ops[i]? = some o) (his:i ≠ s) (hy:YieldsL P C0 C1 Phi (lateB md ops s i) o R a) {K:Act→Prop} (h:∀ v,R v→K (a.put o.dst v)):opAtL P md ops s C0 C1 Phi i K a:=by
 simp only[opAtL,hi,if_neg his]
 exact⟨R,hy,h⟩

theorem anyOrderL_first {n i:Nat} {oi:Oper} {R:Value→Prop} {L:Array Bool→Act→Prop} (hi:ops[i]? = some oi) (hsel:∀ (j:Nat) (o:Oper) cs b,ops[j]? = some o→o.op ≠ .select cs b)
  (hw:∀ listed,HeadInv md ops n listed→∀ i,i<n→listed.getD i true=false→∀ t,n≤t→t ∉ Region.ready md ops listed) (hin:i<n) (his:i ≠ s) (hgi:oi.guard=none) {w0:World} (h0:C0 w0)
  (hdone:∀ listed a,L listed a→∀ j∈Region.ready md ops listed,n≤j) :
  ∀ (f:Nat) (listed:Array Bool) (a:Act),HeadInv md ops n listed →
   (∀ j oj,ops[j]? = some oj→j ≠ i→listed.getD j true=false→(∀ e∈oj.after,Region.binds md e=true→e.on ≠ i)→oi.apart ops oj=true) →
   i∈Region.ready md ops listed→YieldsL P C0 C1 Phi (lateB md ops s i) oi R a →
   (∀ v,R v→anyOrderL P md ops s C0 C1 Phi n L f (listed.setIfInBounds i true) (a.put oi.dst v))→anyOrderL P md ops s C0 C1 Phi n L (f+1) listed a:=by
 intro f
 induction f with
 | zero =>
  intro listed a inv _ hr hy H
  have hun:=(mem_ready.1 hr).1
  refine⟨fun h=>(by rw[h]at hr;cases hr),fun j hj=>?_⟩
  have hjn:j<n:=Nat.lt_of_not_le fun h=>hw _ inv i hin hun j h hj
  refine⟨hjn,?_⟩
  by_cases hji:j=i
  ·subst hji;exact yieldsL_opAt hi his hy H
  ·obtain⟨v,hv⟩:=yieldsL_some h0 hgi hy
   exact absurd (hdone _ _ (H v hv) j (ready_mono hj hji)) (by omega)
 | succ f ih =>
  intro listed a inv hfree hr hy H
  have hun:=(mem_ready.1 hr).1
  refine⟨fun h=>(by rw[h]at hr;cases hr),fun j hj=>?_⟩
  have hjn:j<n:=Nat.lt_of_not_le fun h=>hw _ inv i hin hun j h hj
  refine⟨hjn,?_⟩
  by_cases hji:j=i
  ·subst hji;exact yieldsL_opAt hi his hy H
  ·have h1:=fun v hv=>((H v hv).2 j (ready_mono hj hji)).2
   obtain⟨hjun,oj,hoj,hall⟩:=mem_ready.1 hj
   have hnot:∀ e∈oj.after,Region.binds md e=true→e.on ≠ i:=fun e he hb heq=>by
    have h1:=hall e he hb
    rw[heq,getD_both hun]at h1
    cases h1
   have h2:=opAtL_put hoj (hfree j oj hoj hji hjun hnot) (fun cs b=>hsel i oi cs b hi) (fun cs b=>hsel j oj cs b hoj) h0 hgi hy h1
   have hfree':∀ k ok,ops[k]? = some ok→k ≠ i→(listed.setIfInBounds j true).getD k true=false →
     (∀ e∈ok.after,Region.binds md e=true→e.on ≠ i)→oi.apart ops ok=true:=fun k ok hk hki hun hno=>by
    refine hfree k ok hk hki ?_ hno
    by_cases hjk:j=k
    ·subst hjk;exact hjun
    ·rw[getD_set_ne true hjk]at hun;exact hun
   refine opAtL_mono (fun a' h3=>ih (listed.setIfInBounds j true) a' (inv.set hj hjn) hfree' (ready_mono hr (Ne.symm hji)) h3.1 fun v hv=>?_) h2
   rw[Array.setIfInBounds_comm _ _ hji]
   exact h3.2 v hv

def lexS (md:Region.Mode) (ops:Array Oper) (g:Nat):Nat→Nat→Array Bool→Bool
 | 0,_,_=>false
 | 1,k,listed=>decide (Region.ready md ops listed=[k]) && Region.seqB md ops g (k+1) (listed.setIfInBounds k true)
 | f+2,k,listed=>(Region.ready md ops listed).contains k && Region.free md ops listed k && lexS md ops g (f+1) (k+1) (listed.setIfInBounds k true)

theorem anyOrderL_lex {n g:Nat} {Lq:Act→Prop} (hsel:Region.noSelect ops=true) (hw:∀ listed,HeadInv md ops n listed→∀ i,i<n→listed.getD i true=false→∀ t,n≤t→t ∉ Region.ready md ops listed) {w0:World} (h0:C0 w0)
  (hs:s+1=n) (hg:∀ i o,i<n→ops[i]? = some o→o.guard=none) :
  ∀ (l:List Oper) (k:Nat) (listed:Array Bool) (a:Act),(∀ j,j<l.length→l[j]? = ops[k+j]?)→k+l.length=n→HeadInv md ops n listed →
  lexS md ops g l.length k listed=true→walkL P md ops s C0 C1 Phi Lq k l a →
  anyOrderL P md ops s C0 C1 Phi n (fun listed' a'=>Region.seqB md ops g n listed'=true∧Lq a') l.length listed a
 | [],k,listed,a,_,hk,_,hB,h=>by simp[lexS]at hB
 | [o],k,listed,a,hl,hk,inv,hB,h=>by
  have ho:ops[k]? = some o:=by simpa using (hl 0 (by simp)).symm
  have hk:k+1=n:=by simpa using hk
  have hks:k=s:=by omega
  simp only[List.length_cons,List.length_nil,Nat.zero_add,lexS,Bool.and_eq_true,decide_eq_true_eq]at hB
  refine⟨by rw[hB.1];simp,fun i hi=>?_⟩
  rw[hB.1]at hi
  have hik:i=k:=by simpa using hi
  subst hik
  refine⟨by omega,?_⟩
  unfold opAtL
  simp only[ho,if_pos hks]
  simp only[walkL,if_pos hks]at h
  exact⟨h.1,by rw[← hk];exact hB.2,h.2⟩
 | o::o2::l,k,listed,a,hl,hk,inv,hB,h=>by
  have ho:ops[k]? = some o:=by simpa using (hl 0 (by simp)).symm
  simp only[List.length_cons,lexS,Bool.and_eq_true]at hB
  obtain⟨⟨hr,hf⟩,hB'⟩:=hB
  have hkn:k+1<n:=by simp only[List.length_cons]at hk;omega
  have hks:k ≠ s:=by omega
  have hr':k∈Region.ready md ops listed:=by simpa using hr
  simp only[walkL,if_neg hks]at h
  obtain⟨R,hy,hK⟩:=h
  exact anyOrderL_first ho (Region.noSelect_spec hsel) hw (by omega) hks (hg k o (by omega) ho) h0 (fun listed' a' hL=>seqB_ready hL.1) (o2::l).length listed a inv (Region.free_spec ho hf) hr' hy
   fun v hv=>anyOrderL_lex hsel hw h0 hs hg (o2::l) (k+1) _ _ (fun j hj=>by have:=hl (j+1) (by simp at hj ⊢;omega);simpa [Nat.add_assoc,Nat.add_comm 1 j] using this) (by simp only[List.length_cons]at hk ⊢;omega) (inv.set hr' (by omega)) hB' (by simpa only[walkL] using hK v hv)

theorem wpAny_of_anyOrderL {n g:Nat} {L:Array Bool→Act→Prop} {Q':Exit→Act→World→Prop} (hL:∀ listed a w,HeadInv md ops n listed→(if listed.getD s false=true then C1 w else C0 w)→L listed a→wpAny P md ops Q' g listed a w)
  (hg:∀ i o,i<n→ops[i]? = some o→o.guard=none) :
  ∀ (f:Nat) (listed:Array Bool) (a:Act) (w:World),HeadInv md ops n listed→(if listed.getD s false=true then C1 w else C0 w)→anyOrderL P md ops s C0 C1 Phi n L f listed a→wpAny P md ops Q' (f+g) listed a w
 | 0,listed,a,w,inv,hw,h=>by rw[Nat.zero_add];exact hL _ _ _ inv hw h
 | f+1,listed,a,w,inv,hw,h=>by
  rw[show f+1+g=(f+g)+1 by omega]
  refine⟨fun h0=>absurd h0 h.1,fun i hi=>?_⟩
  obtain⟨hin,hop⟩:=h.2 i hi
  obtain⟨hun,o,ho,hall⟩:=mem_ready.1 hi
  have hwn:Region.wanted o (yielded ops a.tmps)=true:=by simp[Region.wanted,hg i o hin ho]
  unfold wpOp
  simp only[opAtL,ho]at hop ⊢
  rw[if_pos hwn]
  refine .inl ?_
  by_cases his:i=s
  ·rw[if_pos his]at hop
   have hl0:listed.getD s false=false:=by rw[← his];exact getD_both hun
   rw[hl0,if_neg (by decide)]at hw
   obtain⟨w',e,hc⟩:=hop.1 w hw
   unfold Oper.wp
   rw[e]
   refine wpAny_of_anyOrderL hL hg f _ _ w' (inv.set hi hin) ?_ hop.2
   have hlt:i<listed.size:=by rw[inv.size];exact (Array.getElem?_eq_some_iff.1 ho).1
   have:(listed.setIfInBounds i true).getD s false=true:=by
    rw[← his,Array.getD_eq_getD_getElem?,Array.getElem?_setIfInBounds_self_of_lt hlt];rfl
   rw[this,if_pos rfl];exact hc
  ·rw[if_neg his]at hop
   obtain⟨R,hy,hK⟩:=hop
   have hset:(listed.setIfInBounds i true).getD s false=listed.getD s false:=getD_set_ne false his
   by_cases hl:listed.getD s false=true
   ·rw[hl,if_pos rfl]at hw
    have hlate:lateB md ops s i=true:=by
     unfold lateB
     cases hwf:zml md ops 5 s i with
     | false=>rfl
     | true =>
      have:=zfu inv 5 s i hwf hl
      rw[getD_both hun]at this
      cases this
    exact zbq (C:=C1) (Phi:=Phi) hw (fun a' w' hw' hk=>wpAny_of_anyOrderL hL hg f _ a' w' (inv.set hi hin) (by rw[hset,hl,if_pos rfl];exact hw') hk) ⟨R,hy.2 hlate,hK⟩
   ·rw[if_neg hl]at hw
    exact zbq (C:=C0) (Phi:=Phi) hw (fun a' w' hw' hk=>wpAny_of_anyOrderL hL hg f _ a' w' (inv.set hi hin) (by rw[hset,if_neg hl];exact hw') hk) ⟨R,hy.1,hK⟩

theorem wp_regionL {id:Nat} {Q:Exit→Act→World→Prop} {a:Act} {w:World} {l:List Oper} (n:Nat) (hm:P.follows .mixedOrders=true)
  (hB:(Region.noSelect l.toArray && decide (n+1<l.toArray.size) && Region.sinkB .any l.toArray (n+1) && Region.chainB .any l.toArray (n+1) && lexS .any l.toArray (l.toArray.size-(n+1)) (n+1) 0 (Array.replicate l.toArray.size false))=true)
  (C0 C1:World→Prop) (Phi:FuncId→Array Value→Value→Prop) (hC:C0 { w with drawn:=w.drawn+1 }) (hg:((l.take (n+1)).all fun o=>o.guard.isNone)=true)
  (h:walkL P .any l.toArray n C0 C1 Phi (fun a'=>∀ w',C1 w'→wpList P l.toArray Q (l.drop (n+1)) a' w') 0 (l.take (n+1)) a):(Code.region id l.toArray true).wp P Q a w:=by
 simp only[Bool.and_eq_true,decide_eq_true_eq]at hB
 obtain⟨⟨⟨⟨hsel,hn⟩,hs⟩,hc⟩,hlex⟩:=hB
 have hn':n+1<l.length:=by simpa using hn
 have htl:(l.take (n+1)).length=n+1:=by simp;omega
 have hdl:(l.drop (n+1)).length=l.toArray.size-(n+1):=by simp
 have inv0:HeadInv .any l.toArray (n+1) (Array.replicate l.toArray.size false) :=
  ⟨by simp,fun j oj _ hl=>(by rw[getD_replicate_false]at hl;cases hl),fun t _ ht=>getD_in (by simpa using ht) (getD_replicate_false _ _)⟩
 have hgg:∀ i o,i<n+1→l.toArray[i]? = some o→o.guard=none:=fun i o hi ho=>by
  have h1:=List.all_eq_true.1 hg o (List.mem_of_getElem? (i:=i) (by rw[List.getElem?_take,if_pos hi];simpa using ho))
  exact Option.isNone_iff_eq_none.1 h1
 have hw:=fun listed (inv:HeadInv .any l.toArray (n+1) listed) i hi hun=>tail_waits hs hc hn inv _ i rfl hi hun
 have H:=anyOrderL_lex (md:=.any) (g:=l.toArray.size-(n+1)) hsel hw hC rfl hgg (l.take (n+1)) 0 _ a (fun j hj=>by
  have hj':j<n+1:=by rw[htl]at hj;exact hj
  simp[hj']) (by simpa using htl) inv0 (by rw[htl];exact hlex) h
 refine wp_region_any hm ?_
 have:=wpAny_of_anyOrderL (Q':=Q) (g:=l.toArray.size-(n+1)) (fun listed a' w' inv hw' hL=>by
  have hall:listed.getD n false=true:=by
   cases hb:listed.getD n false with
   | true=>rfl
   | false =>
    exfalso
    have hsz:n<listed.size:=by rw[inv.size];simp;omega
    have hr:n+1∈Region.ready .any l.toArray listed:=by
     have h2:=hL.1
     rw[show l.toArray.size-(n+1)=(l.toArray.size-(n+1)-1)+1 by omega]at h2
     simp only[Region.seqB,Bool.and_eq_true,decide_eq_true_eq]at h2
     rw[h2.1];simp
    exact hw listed inv n (by omega) (getD_in hsz hb) (n+1) (Nat.le_refl _) hr
  rw[hall,if_pos rfl]at hw'
  have:=wpAny_of_seq (md:=.any) (Q':=Q) (l.drop (n+1)) (n+1) listed a' w' (fun j=>by simp[List.getElem?_drop]) (by rw[hdl];exact hL.1) (hL.2 w' hw')
  rwa [hdl]at this) hgg _ _ _ _ inv0 (by rw[getD_replicate_false,if_neg (by decide)];exact hC) H
 rw[htl,show n+1+(l.toArray.size-(n+1))=l.toArray.size by omega]at this
 exact this

theorem walkL_step {Q:Act→Prop} {a:Act} {o:Oper} {rest:List Oper} {k:Nat} {b:Bool} (hk:(k==s)=false) (hb:lateB md ops s k=b)
  (h:∀ K:Act→Prop,(∀ a,walkL P md ops s C0 C1 Phi Q (k+1) rest a→K a)→oneL P C0 C1 Phi b o a K):walkL P md ops s C0 C1 Phi Q k (o::rest) a:=by
 have hk':k ≠ s:=by simpa using hk
 simp only[walkL,if_neg hk',hb]
 exact h _ fun _ h=>h
theorem walkL_any {Q:Act→Prop} {a:Act} {o:Oper} {rest:List Oper} {k:Nat} (hk:(k==s)=false)
  (h:∀ (K:Act→Prop) (b:Bool),(∀ a,walkL P md ops s C0 C1 Phi Q (k+1) rest a→K a)→oneL P C0 C1 Phi b o a K):walkL P md ops s C0 C1 Phi Q k (o::rest) a:=by
 have hk':k ≠ s:=by simpa using hk
 simp only[walkL,if_neg hk']
 exact h _ _ fun _ h=>h
theorem walkL_store {Q:Act→Prop} {a:Act} {o:Oper} {rest:List Oper} {k:Nat} (hk:(k==s)=true)
  (h:∀ K:Act→Prop,(∀ a,walkL P md ops s C0 C1 Phi Q (k+1) rest a→K a)→oneS P C0 C1 o a K):walkL P md ops s C0 C1 Phi Q k (o::rest) a:=by
 have hk':k=s:=by simpa using hk
 simp only[walkL,if_pos hk']
 exact h _ fun _ h=>h
theorem walkL_nil {Q:Act→Prop} {a:Act} {k:Nat} (h:Q a):walkL P md ops s C0 C1 Phi Q k [] a:=h

theorem oneL_early {o:Oper} {a:Act} {K:Act→Prop} (h:one P C0 Phi o a K):oneL P C0 C1 Phi false o a K:=by
 obtain⟨R,h1,h2⟩:=h
 exact⟨R,⟨h1,fun hf=>by cases hf⟩,h2⟩
theorem oneL_det {o:Oper} {a:Act} {K:Act→Prop} {v:Value} {b:Bool} (h:∀ w,(execOp a.eval o).run P w=.ok (.value v) w) (hk:K (a.put o.dst v)):oneL P C0 C1 Phi b o a K:=by
 refine⟨fun x=>x=v,⟨fun w hw=>?_,fun _ w hw=>?_⟩,fun x hx=>by rw[hx];exact hk⟩
 all_goals
  unfold atw
  rw[h w]
  exact⟨⟨hw,Go.RowKit.Below.refl _ _⟩,rfl⟩
end
end Go.Qu

namespace Go.Ft
open Ieee
theorem yl (a b:Nat):(2:Nat) ^ (a+b)=2 ^ a*2 ^ b:=Nat.pow_add 2 a b
theorem yy (a:Nat):0<(2:Nat) ^ a:=Nat.two_pow_pos a
theorem kr {a b:Nat} (h:a≤b):(2:Nat) ^ a≤2 ^ b:=Nat.pow_le_pow_right (by decide) h
theorem zek {a b:Nat} (h:(2:Nat) ^ a≤2 ^ b):a≤b:=(Nat.pow_le_pow_iff_right (by decide)).1 h

def rnd (n d:Nat):Nat:=n / 2 ^ d+(decide (2 ^ d<2*(n % 2 ^ d)) || (2 ^ d==2*(n % 2 ^ d) && n / 2 ^ d % 2==1)).toNat

theorem zfs (neg:Bool) (n d:Nat):Toward.even.cut neg n d=rnd n d:=by
 unfold Toward.cut rnd
 simp only[Nat.one_shiftLeft]
 by_cases h:d≤n.log2+2
 ·rw[Nat.min_eq_left h]
 ·rw[Nat.min_eq_right (by omega)]
  have h1:n<2 ^ (n.log2+1):=Nat.lt_log2_self
  have h2:(2:Nat) ^ (n.log2+2)=2*2 ^ (n.log2+1):=by rw[Nat.pow_succ];omega
  have h3:(2:Nat) ^ (n.log2+2)≤2 ^ d:=kr (by omega)
  generalize (2:Nat) ^ (n.log2+2)=g at *
  generalize (2:Nat) ^ d=g' at *
  have e1:n / g=0:=Nat.div_eq_of_lt (by omega)
  have e2:n % g=n:=Nat.mod_eq_of_lt (by omega)
  have e3:n / g'=0:=Nat.div_eq_of_lt (by omega)
  have e4:n % g'=n:=Nat.mod_eq_of_lt (by omega)
  rw[e1,e2,e3,e4]
  have f1:¬ g<2*n:=by omega
  have f2:¬ g'<2*n:=by omega
  simp[f1,f2]

theorem zf4 (neg:Bool) (n d:Nat):Toward.zero.cut neg n d=n / 2 ^ d:=by
 unfold Toward.cut
 simp only[Nat.one_shiftLeft]
 by_cases h:d≤n.log2+2
 ·rw[Nat.min_eq_left h];rfl
 ·rw[Nat.min_eq_right (by omega)]
  have h1:n<2 ^ (n.log2+1):=Nat.lt_log2_self
  have h2:(2:Nat) ^ (n.log2+2)=2*2 ^ (n.log2+1):=by rw[Nat.pow_succ];omega
  have h3:(2:Nat) ^ (n.log2+2)≤2 ^ d:=kr (by omega)
  rw[Nat.div_eq_of_lt (by omega),Nat.div_eq_of_lt (by omega)];rfl

theorem zvb (n:Nat):rnd n 0=n:=by
 unfold rnd
 have e:n % 1=0:=Nat.mod_one n
 simp[e]

theorem zid (n d k:Nat):rnd (n*2 ^ k) (d+k)=rnd n d:=by
 unfold rnd
 rw[yl,Nat.mul_div_mul_right _ _ (yy k),Nat.mul_mod_mul_right]
 have hk:=yy k
 generalize (2:Nat) ^ k=K at *
 generalize (2:Nat) ^ d=D at *
 generalize n % D=r
 have e:2*(r*K)=(2*r)*K:=by rw[Nat.mul_assoc]
 rw[e]
 have f1:(D*K<2*r*K)=(D<2*r):=propext ⟨fun h=>Nat.lt_of_mul_lt_mul_right h,fun h=>Nat.mul_lt_mul_of_pos_right h hk⟩
 have f2:(D*K==2*r*K)=(D==2*r):=by
  rw[Bool.eq_iff_iff];simp only[beq_iff_eq]
  exact⟨fun h=>Nat.eq_of_mul_eq_mul_right hk h,fun h=>by rw[h]⟩
 simp only[f1,f2]

theorem zi9 {n q d:Nat} (h:n≤q*2 ^ d):rnd n d≤q:=by
 have hd:=yy d
 unfold rnd
 generalize (2:Nat) ^ d=D at *
 rcases Nat.lt_or_ge n (q*D) with h'|h'
 ·have h1:n / D<q:=(Nat.div_lt_iff_lt_mul hd).2 h'
  have h2:=Bool.toNat_le (decide (D<2*(n % D)) || (D==2*(n % D) && n / D % 2==1))
  omega
 ·have e:n=q*D:=by omega
  subst e
  rw[Nat.mul_div_cancel _ hd,Nat.mul_mod_left]
  have f2:(D==0)=false:=by simpa using (show D ≠ 0 by omega)
  simp[f2]

theorem zxw {n q d:Nat} (h:q*2 ^ d≤n):q≤rnd n d:=by
 have:=(Nat.le_div_iff_mul_le (yy d)).2 h
 unfold rnd
 omega

def R (m:Nat) (t:Int):Nat:=rnd (m*2 ^ t.toNat) (-t).toNat

theorem zne (m:Nat) {t:Int} (h:0≤t):R m t=m*2 ^ t.toNat:=by
 unfold R
 rw[show (-t).toNat=0 by omega,zvb]

theorem zqf (m k:Nat) (t:Int):R (m*2 ^ k) (t-k)=R m t:=by
 unfold R
 by_cases h1:(k:Int)≤t
 ·rw[show (-(t-k)).toNat=0 by omega,show (-t).toNat=0 by omega,Nat.mul_assoc,← yl,show k+(t-k).toNat=t.toNat by omega]
 ·by_cases h2:t≤0
  ·rw[show (t-k).toNat=0 by omega,show t.toNat=0 by omega,show (-(t-k)).toNat=(-t).toNat+k by omega]
   simp only[Nat.pow_zero,Nat.mul_one]
   exact zid m _ k
  ·rw[show (t-k).toNat=0 by omega,show (-t).toNat=0 by omega,show (-(t-k)).toNat=0+(k-t.toNat) by omega]
   have:m*2 ^ k*2 ^ 0=m*2 ^ t.toNat*2 ^ (k-t.toNat):=by
    rw[Nat.pow_zero,Nat.mul_one,Nat.mul_assoc,← yl,show t.toNat+(k-t.toNat)=k by omega]
   rw[this,zid]

variable (f:Format)
def last (m:Nat) (e:Int):Int:=max (e+m.log2-f.fractionBits) f.leastPlace

theorem kj (s:Bool) {m:Nat} (h:m ≠ 0) (e:Int) :
  f.nearest s m e=f.word s (min ((last f m e-f.leastPlace).toNat*f.binade+R m (e-last f m e)) f.infRung):=by
 unfold Format.nearest
 rw[if_neg h]
 show f.word s (min ((last f m e-f.leastPlace).toNat*f.binade+Toward.even.cut s (m <<< (e-last f m e).toNat) (last f m e-e).toNat) f.infRung)=_
 rw[zfs,Nat.shiftLeft_eq]
 unfold R
 rw[show (-(e-last f m e)).toNat=(last f m e-e).toNat by omega]

theorem zd2 {m:Nat} (h:m ≠ 0) (k:Nat):(m*2 ^ k).log2=m.log2+k:=by
 have hk:=yy k
 rw[Nat.log2_eq_iff (by have:=Nat.mul_pos (Nat.pos_of_ne_zero h) hk;omega)]
 have h1:=Nat.log2_self_le h
 have h2:m<2 ^ (m.log2+1):=Nat.lt_log2_self
 refine⟨by rw[yl];exact Nat.mul_le_mul_right _ h1,?_⟩
 rw[show m.log2+k+1=(m.log2+1)+k by omega,yl]
 exact Nat.mul_lt_mul_of_pos_right h2 hk

theorem j6 (s:Bool) {m:Nat} (h:m ≠ 0) (k:Nat) (e:Int):f.nearest s (m*2 ^ k) (e-k)=f.nearest s m e:=by
 have h':m*2 ^ k ≠ 0:=by have:=Nat.mul_pos (Nat.pos_of_ne_zero h) (yy k);omega
 have hl:last f (m*2 ^ k) (e-k)=last f m e:=by
  unfold last
  rw[zd2 h]
  have:(e-(k:Int)+((m.log2+k:Nat):Int)-f.fractionBits)=e+m.log2-f.fractionBits:=by omega
  rw[this]
 rw[kj f s h',kj f s h,hl]
 have:e-(k:Int)-last f m e=(e-last f m e)-k:=by omega
 rw[this,zqf]

def val (m:Nat) (e:Int):Nat:=m*2 ^ (e+6000).toNat

theorem y6 (m k:Nat) {e:Int} (h:-6000≤e):val (m*2 ^ k) e=val m (e+k):=by
 unfold val
 rw[Nat.mul_assoc,← yl,show k+(e+6000).toNat=(e+k+6000).toNat by omega]

theorem zwk {m n:Nat} {e:Int} (h:val m e=val n e):m=n:=Nat.eq_of_mul_eq_mul_right (yy _) h
theorem xi {m n:Nat} {e:Int}:val m e≤val n e↔m≤n :=
 ⟨fun h=>Nat.le_of_mul_le_mul_right h (yy _),fun h=>Nat.mul_le_mul_right _ h⟩
theorem val_zero {m:Nat} {e:Int}:val m e=0↔m=0:=by
 unfold val
 have:=yy (e+6000).toNat
 rw[Nat.mul_eq_zero];omega

theorem nearest_val (s:Bool) {m n:Nat} {e e':Int} (hm:m ≠ 0) (he:-6000≤e) (he':-6000≤e') (h:val m e=val n e'):f.nearest s m e=f.nearest s n e':=by
 have hn:n ≠ 0:=fun hn=>hm (val_zero.1 (by rw[h];exact val_zero.2 hn))
 have key:∀ (m n:Nat) (e':Int) (k:Nat),n ≠ 0→-6000≤e'-k→val m (e'-k)=val n e'→f.nearest s m (e'-k)=f.nearest s n e':=fun m n e' k hn he h=>by
  have e1:m=n*2 ^ k:=zwk (e:=e'-k) (by rw[y6 _ _ he,h,show e'-(k:Int)+k=e' by omega])
  rw[e1]
  exact j6 f s hn k e'
 rcases Int.le_total e e' with hl|hl
 ·obtain⟨k,rfl⟩:∃ k:Nat,e=e'-k:=⟨(e'-e).toNat,by omega⟩
  exact key m n e' k hn he h
 ·obtain⟨k,rfl⟩:∃ k:Nat,e'=e-k:=⟨(e-e').toNat,by omega⟩
  exact (key n m e k hm he' h.symm).symm

theorem zmt (s:Bool) {r:Nat} (h:r<f.signWeight):(f.word s r / f.signWeight % 2==1)=s∧f.word s r % f.signWeight=r:=by
 have hp:0<f.signWeight:=by omega
 unfold Format.word
 cases s
 ·simp only[Bool.false_eq_true,if_false]
  rw[Nat.div_eq_of_lt h,Nat.mod_eq_of_lt h]
  exact⟨rfl,rfl⟩
 ·simp only[if_true]
  rw[Nat.add_mod_left,Nat.mod_eq_of_lt h,Nat.add_div_left _ hp,Nat.div_eq_of_lt h]
  exact⟨rfl,rfl⟩

theorem read_word (s:Bool) {r:Nat} (h:r<f.infRung) :
  f.read (f.word s r)=if r<f.binade then .number s r f.leastPlace else .number s (f.binade+r % f.binade) (f.leastPlace+(r / f.binade-1:Nat)):=by
 have hs:=Nat.lt_trans h (Format.infRung_lt f)
 unfold Format.read
 simp only[(zmt f s hs).1,(zmt f s hs).2]
 simp only[h,if_true]

theorem zet (s:Bool) {l:Int} {k:Nat} (hl:f.leastPlace≤l) (h0:-6000≤f.leastPlace) (hk:k≤2*f.binade) (hb:l=f.leastPlace∨f.binade≤k)
  (h:(l-f.leastPlace).toNat*f.binade+k<f.infRung) :
  ∃ m e,f.read (f.word s ((l-f.leastPlace).toNat*f.binade+k))=.number s m e∧val m e=val k l∧f.leastPlace≤e:=by
 rw[read_word f s h]
 have hB:0<f.binade:=yy _
 obtain⟨j,rfl⟩:∃ j:Nat,l=f.leastPlace+j:=⟨(l-f.leastPlace).toNat,by omega⟩
 rw[show (f.leastPlace+(j:Int)-f.leastPlace).toNat=j by omega]at *
 generalize f.leastPlace=lp at *
 generalize f.binade=B at *
 by_cases hlt:j*B+k<B
 ·rw[if_pos hlt]
  have hj:j=0:=by
   rcases Nat.eq_zero_or_pos j with h|h
   ·exact h
   ·have:B≤j*B:=Nat.le_mul_of_pos_left B h
    omega
  subst hj
  exact⟨_,_,rfl,by simp,by omega⟩
 ·rw[if_neg hlt]
  refine⟨_,_,rfl,?_,by omega⟩
  have hk1:B≤k:=by
   rcases hb with h|h
   ·have:j=0:=by omega
    subst this;omega
   ·exact h
  rcases Nat.lt_or_ge k (2*B) with h2|h2
  ·have e1:(j*B+k) / B=j+1:=by
    rw[Nat.add_comm,Nat.add_mul_div_right _ _ hB,Nat.div_eq_of_lt_le (by omega:1*B≤k) (by omega)];omega
   have e2:(j*B+k) % B=k-B:=by
    rw[Nat.add_comm,Nat.add_mul_mod_self_right,show k=k-B+B by omega,Nat.add_mod_right,Nat.mod_eq_of_lt (by omega)];omega
   rw[e1,e2,show B+(k-B)=k by omega,show j+1-1=j by omega]
  ·have hk2:k=2*B:=by omega
   subst hk2
   have e1:(j*B+2*B) / B=j+2:=by rw[← Nat.add_mul,Nat.mul_div_cancel _ hB]
   have e2:(j*B+2*B) % B=0:=by rw[← Nat.add_mul,Nat.mul_mod_left]
   rw[e1,e2,show j+2-1=j+1 by omega,Nat.add_zero]
   have:=y6 B 1 (e:=lp+(j:Int)) (by omega)
   rw[show B*2 ^ 1=2*B by omega]at this
   rw[this]
   congr 1
   omega

theorem zd9 (m:Nat) (e:Int):f.leastPlace≤last f m e:=by unfold last;omega

theorem zfr {m:Nat} (h:m ≠ 0) (e:Int):R m (e-last f m e)≤2*f.binade:=by
 have hB:2*f.binade=2 ^ (f.fractionBits+1):=by unfold Format.binade;rw[Nat.pow_succ];omega
 rw[hB]
 refine zi9 ?_
 have h2:m<2 ^ (m.log2+1):=Nat.lt_log2_self
 have hl:e+m.log2-f.fractionBits≤last f m e:=by unfold last;omega
 generalize last f m e=l at *
 rw[← yl]
 refine Nat.le_trans (Nat.mul_le_mul_right _ (Nat.le_of_lt h2)) ?_
 rw[← yl]
 exact kr (by omega)

theorem zp9 {m:Nat} (h:m ≠ 0) (e:Int):last f m e=f.leastPlace∨f.binade≤R m (e-last f m e):=by
 by_cases hl:last f m e=f.leastPlace
 ·exact .inl hl
 ·right
  refine zxw ?_
  have h1:=Nat.log2_self_le h
  have hl:e+m.log2-f.fractionBits=last f m e:=by unfold last at *;omega
  generalize last f m e=l at *
  unfold Format.binade
  rw[← yl]
  refine Nat.le_trans ?_ (Nat.mul_le_mul_right _ h1)
  rw[← yl]
  exact kr (by omega)

theorem zeb (s:Bool) {m:Nat} (h:m ≠ 0) (e:Int) (h0:-6000≤f.leastPlace)
  (hi:(last f m e-f.leastPlace).toNat*f.binade+R m (e-last f m e)<f.infRung) :
  ∃ m' e',f.read (f.nearest s m e)=.number s m' e'∧val m' e'=val (R m (e-last f m e)) (last f m e)∧f.leastPlace≤e':=by
 rw[kj f s h,Nat.min_eq_left (Nat.le_of_lt hi)]
 exact zet f s (zd9 f m e) h0 (zfr f h e) (zp9 f h e) hi

theorem zpd {m:Nat} (h:m ≠ 0) {e b:Int} (he:-6000≤e) (h0:-6000≤f.leastPlace) (hb:f.leastPlace≤b) (hv:val m e≤val 1 b) :
  last f m e≤max (b-f.fractionBits) f.leastPlace∧val (R m (e-last f m e)) (last f m e)≤val 1 b:=by
 have h1:=Nat.log2_self_le h
 have hb6:-6000≤b:=by omega
 have hle:e+m.log2≤b:=by
  unfold val at hv
  rw[Nat.one_mul]at hv
  have:=Nat.le_trans (Nat.mul_le_mul_right (2 ^ (e+6000).toNat) h1) hv
  rw[← yl]at this
  have:=zek this
  omega
 have hlast:last f m e≤max (b-f.fractionBits) f.leastPlace:=by unfold last;omega
 refine⟨hlast,?_⟩
 have hlb:last f m e≤b:=by omega
 have hl6:-6000≤last f m e:=by have:=zd9 f m e;omega
 generalize last f m e=l at *
 have e1:val 1 b=val (2 ^ (b-l).toNat) l:=by
  have:=y6 1 (b-l).toNat (e:=l) hl6
  rw[Nat.one_mul]at this
  rw[this,show l+((b-l).toNat:Int)=b by omega]
 rw[e1,xi]
 refine zi9 ?_
 rw[← yl]
 rcases Int.le_total l e with ht|ht
 ·have:val (m*2 ^ (e-l).toNat) l≤val (2 ^ (b-l).toNat) l:=by rw[y6 _ _ hl6,← e1,show l+((e-l).toNat:Int)=e by omega];exact hv
  have:=xi.1 this
  rw[show (-(e-l)).toNat=0 by omega]
  exact this
 ·have e2:val 1 b=val (2 ^ (b-e).toNat) e:=by
   have:=y6 1 (b-e).toNat (e:=e) he
   rw[Nat.one_mul]at this
   rw[this,show e+((b-e).toNat:Int)=b by omega]
  rw[e2,xi]at hv
  rw[show (e-l).toNat=0 by omega,Nat.pow_zero,Nat.mul_one,show (b-l).toNat+(-(e-l)).toNat=(b-e).toNat by omega]
  exact hv

theorem zg4 (s:Bool) {m:Nat} {e b:Int} (he:-6000≤e) (h0:-6000≤f.leastPlace) (hb:f.leastPlace≤b) (hv:val m e≤val 1 b)
  (hi:(max (b-f.fractionBits) f.leastPlace-f.leastPlace).toNat*f.binade+2*f.binade<f.infRung) :
  ∃ m' e',f.read (f.nearest s m e)=.number s m' e'∧val m' e'≤val 1 b∧f.leastPlace≤e':=by
 by_cases h:m=0
 ·subst h
  have hn:f.nearest s 0 e=f.word s 0:=by unfold Format.nearest;rw[if_pos rfl]
  have hB:0<f.binade:=yy _
  rw[hn,read_word f s (by omega),if_pos hB]
  exact⟨_,_,rfl,by unfold val;omega,by omega⟩
 ·obtain⟨hl,hk⟩:=zpd f h he h0 hb hv
  have hlg:=zd9 f m e
  have hkl:=zfr f h e
  have hle:(last f m e-f.leastPlace).toNat*f.binade≤(max (b-f.fractionBits) f.leastPlace-f.leastPlace).toNat*f.binade:=Nat.mul_le_mul_right _ (by omega)
  obtain⟨m',e',h1,h2,h3⟩:=zeb f s h e h0 (by omega)
  exact⟨m',e',h1,by rw[h2];exact hk,h3⟩

theorem zbe (s:Bool) {m:Nat} (hm:m<2*f.binade) {e:Int} (he:f.leastPlace≤e) (h0:-6000≤f.leastPlace)
  (hi:(e-f.leastPlace).toNat*f.binade+2*f.binade≤f.infRung) :
  ∃ m' e',f.read (f.nearest s m e)=.number s m' e'∧val m' e'=val m e∧f.leastPlace≤e':=by
 have hB:0<f.binade:=yy _
 by_cases h:m=0
 ·subst h
  have hn:f.nearest s 0 e=f.word s 0:=by unfold Format.nearest;rw[if_pos rfl]
  rw[hn,read_word f s (by omega),if_pos hB]
  exact⟨_,_,rfl,by unfold val;omega,by omega⟩
 ·have hl:m.log2≤f.fractionBits:=by
   have:m.log2<f.fractionBits+1:=(Nat.log2_lt h).2 (by rw[Nat.pow_succ];unfold Format.binade at hm;omega)
   omega
  have hle:last f m e≤e:=by unfold last;omega
  have hlg:=zd9 f m e
  have hR:R m (e-last f m e)=m*2 ^ (e-last f m e).toNat:=zne _ (by omega)
  have hlt:(last f m e-f.leastPlace).toNat*f.binade+R m (e-last f m e)<f.infRung:=by
   have hkl:=zfr f h e
   rcases Nat.lt_or_ge (last f m e-f.leastPlace).toNat (e-f.leastPlace).toNat with h'|h'
   ·have:((last f m e-f.leastPlace).toNat+1)*f.binade≤(e-f.leastPlace).toNat*f.binade:=Nat.mul_le_mul_right _ h'
    rw[Nat.add_mul]at this
    omega
   ·have he':e=last f m e:=by omega
    rw[hR,show (e-last f m e).toNat=0 by omega,Nat.pow_zero,Nat.mul_one,← he']
    omega
  obtain⟨m',e',h1,h2,h3⟩:=zeb f s h e h0 hlt
  refine⟨m',e',h1,?_,h3⟩
  rw[h2,hR,y6 _ _ (by omega),show last f m e+((e-last f m e).toNat:Int)=e by omega]
end Go.Ft
