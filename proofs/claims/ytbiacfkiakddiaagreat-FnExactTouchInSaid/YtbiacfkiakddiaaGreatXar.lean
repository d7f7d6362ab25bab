/-
 Lemmas: W11,Rq,W12.
-/
import Derived.Test.YtbiacfkiakddiaaGreatXak
import Derived.Test.YtbiacfkiakddiaaGreatXal
import Derived.Test.YtbiacfkiakddiaaGreatXao
import Derived.Test.YtbiacfkiakddiaaGreatXap
import Derived.Test.YtbiacfkiakddiaaGreatXaq
import Derived.Carry
import Derived.ChangeSame
import Derived.Deep.Fields
import Derived.Deep.Slices
import Derived.OpenShut
import Derived.ProofKit
import Derived.Test.YtbiacfkiakddiaaGreatRows
set_option linter.unusedVariables false
set_option linter.unusedSimpArgs false
set_option maxHeartbeats 2000000
namespace Go.Proofs.YtbiacfkiakddiaaGreat
open Go.RowKit Go.Fl
structure PN where
 kind:Int
 a:Int
 b:Int
 nums:List Nat

structure NodeIn (n:PN) (bb o:Nat) (w:World):Prop where
 kind:w.cell? ⟨bb,o,none⟩=some (.int .i64 n.kind)
 a:w.cell? ⟨bb,o+1,none⟩=some (.int .i64 n.a)
 b:w.cell? ⟨bb,o+2,none⟩=some (.int .i64 n.b)
 nums:∃ bp bv ov cap,w.cell? ⟨bb,o+3,none⟩=some (.slice bp n.nums.length cap)∧(n.nums ≠ []→bp=some ⟨bv,ov,none⟩)∧∀ i (h:i<n.nums.length),w.cell? ⟨bv,ov+i,none⟩=some (F1 n.nums[i])

theorem NodeIn.keep {n:PN} {b o:Nat} {w w':World} (h:NodeIn n b o w) (hb:Below w.heap.size w w'):NodeIn n b o w':=by
 have l:=fun a v (h:w.cell? a=some v)=>(show w'.cell? a=some v by rw[yc hb a (by rw[h];rfl)];exact h)
 obtain⟨bp,bv,ov,cap,h1,h2,h3⟩:=h.nums
 exact⟨l _ _ h.kind,l _ _ h.a,l _ _ h.b,bp,bv,ov,cap,l _ _ h1,h2,fun i hi=>l _ _ (h3 i hi)⟩

structure PN.ok (n:PN):Prop where
 kind:0≤n.kind∧n.kind≤16
 nums:n.nums.length=(zz n.kind).1
 axis:(zz n.kind).2.1=2∨n.b=0∨((zz n.kind).2.2.1=true∧0≤n.b∧n.b≤2)

def zim (n:PN) (x y z:Nat):Nat :=
 match n.kind,n.nums.map (cn .f32) with
 | 0,[r]=>zdg x y z r
 | 1,[u,v,t]=>zce x y z u v t
 | 2,[h,r]=>zt0 x y z h r
 | 3,[u,r]=>zkt x y z u r
 | 4,[a,b,c,d]=>zer x y z a b c d
 | _,_=>0
def zoz (n:PN) (x y:Nat):Nat :=
 match n.kind,n.nums.map (cn .f32) with
 | 5,_=>yo x y
 | 6,_=>z7 x y
 | 7,_=>z7 x (un .f32 y)
 | 8,[k]=>zcz x y k
 | 10,[r]=>B .mul x r
 | 15,[r]=>B .sub x r
 | 16,[r]=>B .sub (vp x) r
 | _,_=>x
def kn (n:PN) (p:Nat × Nat × Nat):Nat × Nat × Nat :=
 match n.kind,n.b,n.nums.map (cn .f32) with
 | 9,_,[a,b,c]=>(B .sub p.1 a,B .sub p.2.1 b,B .sub p.2.2 c)
 | 10,_,[r]=>(B .quo p.1 r,B .quo p.2.1 r,B .quo p.2.2 r)
 | 11,_,[a,b,c]=>(B .quo p.1 a,B .quo p.2.1 b,B .quo p.2.2 c)
 | 12,0,[t]=>(p.1,yr t p.2.1 p.2.2,y8 t p.2.1 p.2.2)
 | 12,1,[t]=>(y8 t p.2.2 p.1,p.2.1,yr t p.2.2 p.1)
 | 12,2,[t]=>(yr t p.1 p.2.1,y8 t p.1 p.2.1,p.2.2)
 | 13,0,_=>(vp p.1,p.2.1,p.2.2)
 | 13,1,_=>(p.1,vp p.2.1,p.2.2)
 | 13,2,_=>(p.1,p.2.1,vp p.2.2)
 | 14,0,[s]=>(y7 p.1 s,p.2.1,p.2.2)
 | 14,1,[s]=>(p.1,y7 p.2.1 s,p.2.2)
 | 14,2,[s]=>(p.1,p.2.1,y7 p.2.2 s)
 | _,_,_=>p

theorem uv {l:List Nat} (h:l.length=1):∃ a,l=[a]:=by
 match l,h with
 | [a],_=>exact⟨a,rfl⟩
theorem zhm {l:List Nat} (h:l.length=2):∃ a b,l=[a,b]:=by
 match l,h with
 | [a,b],_=>exact⟨a,b,rfl⟩
theorem zdl {l:List Nat} (h:l.length=3):∃ a b c,l=[a,b,c]:=by
 match l,h with
 | [a,b,c],_=>exact⟨a,b,c,rfl⟩
theorem zuw {l:List Nat} (h:l.length=4):∃ a b c d,l=[a,b,c,d]:=by
 match l,h with
 | [a,b,c,d],_=>exact⟨a,b,c,d,rfl⟩

theorem zrv {n:PN} {b o:Nat} {w:World} (hn:NodeIn n b o w) (hok:n.ok) (hc:(zz n.kind).2.1=0) (x y z:Nat) :
  Calls Tryz.prog 217 #[.pointer (some ⟨b,o,none⟩),V3 x y z] w (Ret .f32 (zim n (cn .f32 x) (cn .f32 y) (cn .f32 z)) w):=by
 obtain⟨bp,bv,ov,cap,h1,h2,h3⟩:=hn.nums
 have hk:=hn.kind
 have hr:=hok.kind
 have hl:=hok.nums
 obtain⟨k,na,nb,nums⟩:=n
 simp only at *
 have:k=0∨k=1∨k=2∨k=3∨k=4∨k=5∨k=6∨k=7∨k=8∨k=9∨k=10∨k=11∨k=12∨k=13∨k=14∨k=15∨k=16:=by omega
 rcases this with h|h|h|h|h|h|h|h|h|h|h|h|h|h|h|h|h<;>subst h
 ·obtain⟨r,rfl⟩:=uv hl
  have:=h2 (by simp)
  subst this
  exact zi1 b o bv ov cap r x y z w hk h1 (h3 0 (by simp))
 ·obtain⟨r,s,t,rfl⟩:=zdl hl
  have:=h2 (by simp)
  subst this
  exact zlu b o bv ov cap r s t x y z w hk h1 (h3 0 (by simp)) (h3 1 (by simp)) (h3 2 (by simp))
 ·obtain⟨r,s,rfl⟩:=zhm hl
  have:=h2 (by simp)
  subst this
  exact zrp b o bv ov cap r s x y z w hk h1 (h3 0 (by simp)) (h3 1 (by simp))
 ·obtain⟨r,s,rfl⟩:=zhm hl
  have:=h2 (by simp)
  subst this
  exact zsc b o bv ov cap r s x y z w hk h1 (h3 0 (by simp)) (h3 1 (by simp))
 ·obtain⟨r,s,t,u,rfl⟩:=zuw hl
  have:=h2 (by simp)
  subst this
  exact zpc b o bv ov cap r s t u x y z w hk h1 (h3 0 (by simp)) (h3 1 (by simp)) (h3 2 (by simp)) (h3 3 (by simp))
 all_goals exact absurd hc (by decide)

theorem zk5 {n:PN} {b o:Nat} {w:World} (hn:NodeIn n b o w) (hok:n.ok) (hc:(zz n.kind).2.1 ≠ 0) (x y:Nat) :
  Calls Tryz.prog 234 #[.pointer (some ⟨b,o,none⟩),F1 x,F1 y] w (Ret .f32 (zoz n (cn .f32 x) (cn .f32 y)) w):=by
 obtain⟨bp,bv,ov,cap,h1,h2,h3⟩:=hn.nums
 have hk:=hn.kind
 have hr:=hok.kind
 have hl:=hok.nums
 obtain⟨k,na,nb,nums⟩:=n
 simp only at *
 have:k=0∨k=1∨k=2∨k=3∨k=4∨k=5∨k=6∨k=7∨k=8∨k=9∨k=10∨k=11∨k=12∨k=13∨k=14∨k=15∨k=16:=by omega
 rcases this with h|h|h|h|h|h|h|h|h|h|h|h|h|h|h|h|h<;>subst h
 iterate 5 exact absurd rfl hc
 ·exact zr7 b o x y w hk
 ·exact zv9 b o x y w hk
 ·exact zu2 b o x y w hk
 ·obtain⟨r,rfl⟩:=uv hl
  have:=h2 (by simp)
  subst this
  exact zos b o bv ov cap r x y w hk h1 (h3 0 (by simp))
 ·exact ztm b o x y w hk
 ·obtain⟨r,rfl⟩:=uv hl
  have:=h2 (by simp)
  subst this
  exact zs1 b o bv ov cap r x y w hk h1 (h3 0 (by simp))
 ·exact zm1 b o x y w hk
 ·exact ztq b o x y w hk
 ·exact zok b o x y w hk
 ·exact ztl b o x y w hk
 ·obtain⟨r,rfl⟩:=uv hl
  have:=h2 (by simp)
  subst this
  exact zs6 b o bv ov cap r x y w hk h1 (h3 0 (by simp))
 ·obtain⟨r,rfl⟩:=uv hl
  have:=h2 (by simp)
  subst this
  exact zsb b o bv ov cap r x y w hk h1 (h3 0 (by simp))

theorem kof {l:List (Addr × Value)} {w:World} (h:∀ p∈l,w.cell? p.1=some p.2):zc l [] w:=⟨h,fun _ h=>by cases h⟩

theorem zpn {n:PN} {b o:Nat} {w:World} (hn:NodeIn n b o w) (hok:n.ok) (hc:(zz n.kind).2.1=1) (hk15:n.kind ≠ 15) (hk16:n.kind ≠ 16) (x y z:Nat) :
  Calls Tryz.prog 235 #[.pointer (some ⟨b,o,none⟩),V3 x y z] w (ut (kn n (cn .f32 x,cn .f32 y,cn .f32 z)).1 (kn n (cn .f32 x,cn .f32 y,cn .f32 z)).2.1 (kn n (cn .f32 x,cn .f32 y,cn .f32 z)).2.2 w):=by
 obtain⟨bp,bv,ov,cap,h1,h2,h3⟩:=hn.nums
 have hk:=hn.kind
 have hB:=hn.b
 have hr:=hok.kind
 have hl:=hok.nums
 have hax:=hok.axis
 obtain⟨k,na,nb,nums⟩:=n
 simp only at *
 have:k=0∨k=1∨k=2∨k=3∨k=4∨k=5∨k=6∨k=7∨k=8∨k=9∨k=10∨k=11∨k=12∨k=13∨k=14∨k=15∨k=16:=by omega
 rcases this with h|h|h|h|h|h|h|h|h|h|h|h|h|h|h|h|h<;>subst h
 iterate 9 exact absurd hc (by decide)
 ·have hb0:nb=0:=by
   rcases hax with h|h|⟨h,_⟩
   ·exact absurd h (by decide)
   ·exact h
   ·exact absurd h (by decide)
  subst hb0
  obtain⟨r,s,t,rfl⟩:=zdl hl
  have:=h2 (by simp)
  subst this
  exact zpp (kof (by simp only[List.forall_mem_cons,List.not_mem_nil,false_implies,implies_true,and_true];exact⟨hk,hB,h1,h3 0 (by simp),h3 1 (by simp),h3 2 (by simp)⟩))
 ·have hb0:nb=0:=by
   rcases hax with h|h|⟨h,_⟩
   ·exact absurd h (by decide)
   ·exact h
   ·exact absurd h (by decide)
  subst hb0
  obtain⟨r,rfl⟩:=uv hl
  have:=h2 (by simp)
  subst this
  exact zku (kof (by simp only[List.forall_mem_cons,List.not_mem_nil,false_implies,implies_true,and_true];exact⟨hk,hB,h1,h3 0 (by simp)⟩))
 ·have hb0:nb=0:=by
   rcases hax with h|h|⟨h,_⟩
   ·exact absurd h (by decide)
   ·exact h
   ·exact absurd h (by decide)
  subst hb0
  obtain⟨r,s,t,rfl⟩:=zdl hl
  have:=h2 (by simp)
  subst this
  exact zhd (kof (by simp only[List.forall_mem_cons,List.not_mem_nil,false_implies,implies_true,and_true];exact⟨hk,hB,h1,h3 0 (by simp),h3 1 (by simp),h3 2 (by simp)⟩))
 ·have hb0:nb=0∨nb=1∨nb=2:=by
   rcases hax with h|h|⟨_,h⟩
   ·exact absurd h (by decide)
   ·omega
   ·omega
  obtain⟨r,rfl⟩:=uv hl
  have:=h2 (by simp)
  subst this
  rcases hb0 with h|h|h<;>subst h
  ·exact zle (kof (by simp only[List.forall_mem_cons,List.not_mem_nil,false_implies,implies_true,and_true];exact⟨hk,hB,h1,h3 0 (by simp)⟩))
  ·exact zng (kof (by simp only[List.forall_mem_cons,List.not_mem_nil,false_implies,implies_true,and_true];exact⟨hk,hB,h1,h3 0 (by simp)⟩))
  ·exact zkx (kof (by simp only[List.forall_mem_cons,List.not_mem_nil,false_implies,implies_true,and_true];exact⟨hk,hB,h1,h3 0 (by simp)⟩))
 ·have hb0:nb=0∨nb=1∨nb=2:=by
   rcases hax with h|h|⟨_,h⟩
   ·exact absurd h (by decide)
   ·omega
   ·omega
  have hl0:nums=[]:=List.length_eq_zero_iff.1 hl
  subst hl0
  rcases hb0 with h|h|h<;>subst h
  ·exact zhj (kof (by simp only[List.forall_mem_cons,List.not_mem_nil,false_implies,implies_true,and_true];exact⟨hk,hB,h1⟩))
  ·exact zhk (kof (by simp only[List.forall_mem_cons,List.not_mem_nil,false_implies,implies_true,and_true];exact⟨hk,hB,h1⟩))
  ·exact zhy (kof (by simp only[List.forall_mem_cons,List.not_mem_nil,false_implies,implies_true,and_true];exact⟨hk,hB,h1⟩))
 ·have hb0:nb=0∨nb=1∨nb=2:=by
   rcases hax with h|h|⟨_,h⟩
   ·exact absurd h (by decide)
   ·omega
   ·omega
  obtain⟨r,rfl⟩:=uv hl
  have:=h2 (by simp)
  subst this
  rcases hb0 with h|h|h<;>subst h
  ·exact zmc (kof (by simp only[List.forall_mem_cons,List.not_mem_nil,false_implies,implies_true,and_true];exact⟨hk,hB,h1,h3 0 (by simp)⟩))
  ·exact zk8 (kof (by simp only[List.forall_mem_cons,List.not_mem_nil,false_implies,implies_true,and_true];exact⟨hk,hB,h1,h3 0 (by simp)⟩))
  ·exact zm0 (kof (by simp only[List.forall_mem_cons,List.not_mem_nil,false_implies,implies_true,and_true];exact⟨hk,hB,h1,h3 0 (by simp)⟩))
 ·exact absurd rfl hk15
 ·exact absurd rfl hk16

end Go.Proofs.YtbiacfkiakddiaaGreat

namespace Go.Proofs.YtbiacfkiakddiaaGreat
open Go.RowKit Go.Fl Go.ChangeShapes Go.WideShapes Go.ChangeAt
theorem zwm {P:Program} {w:World} {r:Reach} {b0:Nat} {t:TypeId} {k:IntKind} {v:Value} (ht:P.underlying t=some (.int k)) (h:Value.okWide P w r b0 t v):∃ b,v=.int k b:=by
 simp only[Value.okWide,ht,Cell.okWide]at h
 cases v<;>simp_all [Cell.ok]

theorem zrl {H:Type} {enc:TypeId × Value→H} {P:Program} {w:World} {base:Nat} {spare:Nat→Bool} {held:Bool} {t0 t1 t2 t3:TypeId} {args:Array Value} {ds:List (DataW H)} {ps:List MemPlace} (h:DataW.TrodAll enc P w base spare held [t0,t1,t2,t3] args.toList ds ps) :
  ∃ v0 v1 v2 v3 d0 d1 d2 d3 p0 p1 p2 p3,args=#[v0,v1,v2,v3]∧ds=[d0,d1,d2,d3]∧ps=p0++(p1++(p2++(p3++[])))∧DataW.Trod enc P w base spare held t0 v0 d0 p0∧DataW.Trod enc P w base spare held t1 v1 d1 p1∧DataW.Trod enc P w base spare held t2 v2 d2 p2∧DataW.Trod enc P w base spare held t3 v3 d3 p3:=by
 obtain⟨v0,vs0,d0,ds0,p0,q0,hargs,rfl,rfl,hd0,hrest⟩:=trodAll_cons h
 obtain⟨v1,vs1,d1,ds1,p1,q1,rfl,rfl,rfl,hd1,hrest⟩:=trodAll_cons hrest
 obtain⟨v2,vs2,d2,ds2,p2,q2,rfl,rfl,rfl,hd2,hrest⟩:=trodAll_cons hrest
 obtain⟨v3,vs3,d3,ds3,p3,q3,rfl,rfl,rfl,hd3,hrest⟩:=trodAll_cons hrest
 obtain⟨rfl,rfl,rfl⟩:=trodAll_nil hrest
 exact⟨v0,v1,v2,v3,d0,d1,d2,d3,p0,p1,p2,p3,by cases args;simp_all,rfl,rfl,hd0,hd1,hd2,hd3⟩

end Go.Proofs.YtbiacfkiakddiaaGreat

namespace Go.Proofs.YtbiacfkiakddiaaGreat
open Go.RowKit Go.Fl
set_option maxRecDepth 100000 in
theorem znb {b o sn cap x y z:Nat} {sp:Option Addr} {w:World} (hkept:zc [(⟨b,o,none⟩,.int .i64 15),(⟨b,o+2,none⟩,.int .i64 0),(⟨b,o+3,none⟩,.slice sp sn cap)] [] w) :
  Calls Tryz.prog 235 #[.pointer (some ⟨b,o,none⟩),V3 x y z] w (ut (cn .f32 x) (cn .f32 y) (cn .f32 z) w):=by
 have hK:=hkept
 simp only[zc,ka,kb,zb,kfa,kga]at hK
 have hb:b<w.heap.size:=zg (a:=⟨b,o,none⟩) (by rw[hK.1];rfl)
 have hb1:b<w.heap.size+1:=by omega
 go_enter Tryz.func235,Tryz.ntmps235
 go_wp2_with fail
 have W0b:Below w.heap.size w ((w.alloc (.cells #[F1 x,F1 y,F1 z] 38)).alloc (.cells #[F1 0,F1 0,F1 0] 38)):=(by repeat' (first|exact zi _ _|refine zd ?_ _|refine Below.alloc ?_ (by simp<;>omega) _|refine zj ?_ (by simp<;>omega) _|refine za ?_ ‹_›))
 have hkept:=ze (keep hkept W0b) (show zc [(⟨w.heap.size,0,none⟩,F1 x),(⟨w.heap.size,1,none⟩,F1 y),(⟨w.heap.size,2,none⟩,F1 z),(⟨w.heap.size+1,0,none⟩,F1 0),(⟨w.heap.size+1,1,none⟩,F1 0),(⟨w.heap.size+1,2,none⟩,F1 0)] [⟨w.heap.size+1,0,none⟩,⟨w.heap.size+1,1,none⟩,⟨w.heap.size+1,2,none⟩] ((w.alloc (.cells #[F1 x,F1 y,F1 z] 38)).alloc (.cells #[F1 0,F1 0,F1 0] 38)) by
  simp only[zc,ka,kb,zb,kfa,kga];simp)
 clear hK
 generalize (w.alloc (.cells #[F1 x,F1 y,F1 z] 38)).alloc (.cells #[F1 0,F1 0,F1 0] 38)=W1 at W0b hkept ⊢
 have hjW:=hkept
 refine Qr.wp_made 8 6 6 #[F1 0,F1 0,F1 0] 194 (by kernel_rfl) (by kernel_rfl) PhiF rfl (by kernel_rfl) ⟨_,rfl,rfl,fun a w=>by go_simp⟩ (by kernel_rfl) ?_
 repeat (first|(refine Qr.walk_plain rfl fun K hK=>?_;refine Qr.one_rel (fun v=>∃ g,v=.pointer (some ⟨g,0,none⟩)) (fun w' hw'=>⟨.pointer (some ⟨w'.heap.size,0,none⟩),_,by go_simp;rfl,⟨_,rfl⟩,hw'.alloc hw'.size _,zt ..⟩) (fun v hv=>?_);obtain⟨g,rfl⟩:=hv;go_simp;refine hK _ ?_;clear hK K)|(refine Qr.walk_plain rfl fun K hK=>?_;(first|(refine zk _ _ _ _ _ rfl _ _ _ rfl rfl rfl (fun r hr=>?_))|(apply Qr.one_det;(focus (intro w' hw';have HK:=keep hkept hw';simp only[zc,ka,kb,zb,kfa,kga]at HK;go_simp;first|done|rfl)))|(apply Qr.one_call;(focus (intro w' hw';go_simp;first|done|exact⟨rfl,rfl⟩));(focus (intro w' hw';first|((first|(go_at_call 90;refine (yb _ _).mono ?_)|(go_at_call 262;refine (yi _ _ _).mono ?_)|(go_at_call 211;refine (yh _ _).mono ?_));rintro _ w2⟨r1,rfl,hr1,hb1⟩;exact⟨_,rfl,by constructor<;>assumption,za hw' ‹_›,by assumption⟩)|((first|(go_at_call 133;refine (ya _ _ _ _).mono ?_)|(go_at_call 227;refine (zx _ _ _ _).mono ?_));rintro _ w2⟨rfl,hb1⟩;exact⟨_,rfl,by constructor<;>assumption,za hw' ‹_›,by assumption⟩)|(go_at_call 178;refine (yj _ _ _ _ _ _ _).mono ?_;rintro _ w2⟨x1,y1,z1,rfl,hx1,hy1,hz1,hb1⟩;exact⟨_,rfl,by constructor<;>assumption,za hw' ‹_›,by assumption⟩)));intro v hv;cases hv));go_simp;refine hK _ ?_;clear hK K))
 refine Qr.walk_nil fun w3 hw3 hmade=>?_
 obtain⟨g3,hg3,hgw,hgc⟩:=hmade _ rfl
 injection hg3 with hg3
 injection hg3 with hg3
 subst hg3
 obtain⟨hc0,hc1,hc2,hf0,hf1,hf2⟩:=vw hgc
 go_wp2_with fail
 have hset:=zca hgc (F1 x) (F1 y) (F1 z)
 have hbw:=hw3.trans (hset.2.mono hgw)
 clear hc0 hc1 hc2 hf0 hf1 hf2 hgc hw3
 generalize ((w3.setCell ⟨g,0,none⟩ (F1 x)).setCell ⟨g,1,none⟩ (F1 y)).setCell ⟨g,2,none⟩ (F1 z)=w4 at hset hbw ⊢
 have hkept:=ze (keep hkept hbw) (za4 hset.1)
 have W4b:=za W0b hbw
 have hgt:w.heap.size+1<g:=by
  have:=zg (w:=W1) (a:=⟨w.heap.size+1,0,none⟩) (by have hK1:=hjW;simp only[zc,ka,kb,zb,kfa,kga]at hK1;simp[hK1])
  exact Nat.lt_of_lt_of_le this hgw
 clear hset hbw W0b hgw hjW
 refine Qr.wp_below_all (by kernel_rfl) (by kernel_rfl) PhiF ?_
 repeat (refine Qr.walk_plain rfl fun K hK=>?_;(first|(refine zk _ _ _ _ _ rfl _ _ _ rfl rfl rfl (fun r hr=>?_))|(apply Qr.one_det;(focus (intro w' hw';have HK:=keep hkept hw';simp only[zc,ka,kb,zb,kfa,kga]at HK;go_simp;first|done|rfl)))|(apply Qr.one_call;(focus (intro w' hw';go_simp;first|done|exact⟨rfl,rfl⟩));(focus (intro w' hw';first|((first|(go_at_call 90;refine (yb _ _).mono ?_)|(go_at_call 262;refine (yi _ _ _).mono ?_)|(go_at_call 211;refine (yh _ _).mono ?_));rintro _ w2⟨r1,rfl,hr1,hb1⟩;exact⟨_,rfl,by constructor<;>assumption,za hw' ‹_›,by assumption⟩)|((first|(go_at_call 133;refine (ya _ _ _ _).mono ?_)|(go_at_call 227;refine (zx _ _ _ _).mono ?_));rintro _ w2⟨rfl,hb1⟩;exact⟨_,rfl,by constructor<;>assumption,za hw' ‹_›,by assumption⟩)|(go_at_call 178;refine (yj _ _ _ _ _ _ _).mono ?_;rintro _ w2⟨x1,y1,z1,rfl,hx1,hy1,hz1,hb1⟩;exact⟨_,rfl,by constructor<;>assumption,za hw' ‹_›,by assumption⟩)));intro v hv;cases hv));go_simp;refine hK _ ?_;clear hK K)
 refine Qr.walk_nil fun w5 hw5=>?_
 have hkept:=keep hkept hw5
 have W5b:=za W4b hw5
 clear hw5 W4b
 have hK:=hkept
 simp only[zc,ka,kb,zb,kfa,kga]at hK
 go_wp2_with fail
 clear hK
 have hres:zc [(⟨w.heap.size+1,0,none⟩,F1 0),(⟨w.heap.size+1,1,none⟩,F1 0),(⟨w.heap.size+1,2,none⟩,F1 0)] [⟨w.heap.size+1,0,none⟩,⟨w.heap.size+1,1,none⟩,⟨w.heap.size+1,2,none⟩] w5:=by
  have hK:=hkept
  simp only[zc,ka,kb,zb,kfa,kga]at hK
  simp only[zc,ka,kb,zb,kfa,kga];simp[hK]
 refine (zx _ _ _ _).mono ?_
 rintro _ w7⟨rfl,hb7⟩
 have hres:=keep hres hb7
 have W7b:=za W5b hb7
 have hK:=hres
 simp only[zc,ka,kb,zb,kfa,kga]at hK
 go_wp2_with fail
 obtain⟨hk1,hk2⟩:=hK
 exact bodyPost_ret (v:=.agg #[F1 _,F1 _,F1 _]) (by simp[results,Tryz.results235,go_sem,hk1,hk2];first|done|exact⟨rfl,rfl,rfl⟩) rfl ⟨_,_,_,rfl,rfl,rfl,rfl,(W7b.setCell (by exact Nat.le_succ _) _).setCell (by exact Nat.le_succ _) _ |>.setCell (by exact Nat.le_succ _) _⟩

set_option maxRecDepth 100000 in
theorem zlw {b o sn cap x y z:Nat} {sp:Option Addr} {w:World} (hkept:zc [(⟨b,o,none⟩,.int .i64 16),(⟨b,o+2,none⟩,.int .i64 0),(⟨b,o+3,none⟩,.slice sp sn cap)] [] w) :
  Calls Tryz.prog 235 #[.pointer (some ⟨b,o,none⟩),V3 x y z] w (ut (cn .f32 x) (cn .f32 y) (cn .f32 z) w):=by
 have hK:=hkept
 simp only[zc,ka,kb,zb,kfa,kga]at hK
 have hb:b<w.heap.size:=zg (a:=⟨b,o,none⟩) (by rw[hK.1];rfl)
 have hb1:b<w.heap.size+1:=by omega
 go_enter Tryz.func235,Tryz.ntmps235
 go_wp2_with fail
 have W0b:Below w.heap.size w ((w.alloc (.cells #[F1 x,F1 y,F1 z] 38)).alloc (.cells #[F1 0,F1 0,F1 0] 38)):=(by repeat' (first|exact zi _ _|refine zd ?_ _|refine Below.alloc ?_ (by simp<;>omega) _|refine zj ?_ (by simp<;>omega) _|refine za ?_ ‹_›))
 have hkept:=ze (keep hkept W0b) (show zc [(⟨w.heap.size,0,none⟩,F1 x),(⟨w.heap.size,1,none⟩,F1 y),(⟨w.heap.size,2,none⟩,F1 z),(⟨w.heap.size+1,0,none⟩,F1 0),(⟨w.heap.size+1,1,none⟩,F1 0),(⟨w.heap.size+1,2,none⟩,F1 0)] [⟨w.heap.size+1,0,none⟩,⟨w.heap.size+1,1,none⟩,⟨w.heap.size+1,2,none⟩] ((w.alloc (.cells #[F1 x,F1 y,F1 z] 38)).alloc (.cells #[F1 0,F1 0,F1 0] 38)) by
  simp only[zc,ka,kb,zb,kfa,kga];simp)
 clear hK
 generalize (w.alloc (.cells #[F1 x,F1 y,F1 z] 38)).alloc (.cells #[F1 0,F1 0,F1 0] 38)=W1 at W0b hkept ⊢
 have hjW:=hkept
 refine Qr.wp_made 8 6 6 #[F1 0,F1 0,F1 0] 194 (by kernel_rfl) (by kernel_rfl) PhiF rfl (by kernel_rfl) ⟨_,rfl,rfl,fun a w=>by go_simp⟩ (by kernel_rfl) ?_
 repeat (first|(refine Qr.walk_plain rfl fun K hK=>?_;refine Qr.one_rel (fun v=>∃ g,v=.pointer (some ⟨g,0,none⟩)) (fun w' hw'=>⟨.pointer (some ⟨w'.heap.size,0,none⟩),_,by go_simp;rfl,⟨_,rfl⟩,hw'.alloc hw'.size _,zt ..⟩) (fun v hv=>?_);obtain⟨g,rfl⟩:=hv;go_simp;refine hK _ ?_;clear hK K)|(refine Qr.walk_plain rfl fun K hK=>?_;(first|(refine zk _ _ _ _ _ rfl _ _ _ rfl rfl rfl (fun r hr=>?_))|(apply Qr.one_det;(focus (intro w' hw';have HK:=keep hkept hw';simp only[zc,ka,kb,zb,kfa,kga]at HK;go_simp;first|done|rfl)))|(apply Qr.one_call;(focus (intro w' hw';go_simp;first|done|exact⟨rfl,rfl⟩));(focus (intro w' hw';first|((first|(go_at_call 90;refine (yb _ _).mono ?_)|(go_at_call 262;refine (yi _ _ _).mono ?_)|(go_at_call 211;refine (yh _ _).mono ?_));rintro _ w2⟨r1,rfl,hr1,hb1⟩;exact⟨_,rfl,by constructor<;>assumption,za hw' ‹_›,by assumption⟩)|((first|(go_at_call 133;refine (ya _ _ _ _).mono ?_)|(go_at_call 227;refine (zx _ _ _ _).mono ?_));rintro _ w2⟨rfl,hb1⟩;exact⟨_,rfl,by constructor<;>assumption,za hw' ‹_›,by assumption⟩)|(go_at_call 178;refine (yj _ _ _ _ _ _ _).mono ?_;rintro _ w2⟨x1,y1,z1,rfl,hx1,hy1,hz1,hb1⟩;exact⟨_,rfl,by constructor<;>assumption,za hw' ‹_›,by assumption⟩)));intro v hv;cases hv));go_simp;refine hK _ ?_;clear hK K))
 refine Qr.walk_nil fun w3 hw3 hmade=>?_
 obtain⟨g3,hg3,hgw,hgc⟩:=hmade _ rfl
 injection hg3 with hg3
 injection hg3 with hg3
 subst hg3
 obtain⟨hc0,hc1,hc2,hf0,hf1,hf2⟩:=vw hgc
 go_wp2_with fail
 have hset:=zca hgc (F1 x) (F1 y) (F1 z)
 have hbw:=hw3.trans (hset.2.mono hgw)
 clear hc0 hc1 hc2 hf0 hf1 hf2 hgc hw3
 generalize ((w3.setCell ⟨g,0,none⟩ (F1 x)).setCell ⟨g,1,none⟩ (F1 y)).setCell ⟨g,2,none⟩ (F1 z)=w4 at hset hbw ⊢
 have hkept:=ze (keep hkept hbw) (za4 hset.1)
 have W4b:=za W0b hbw
 have hgt:w.heap.size+1<g:=by
  have:=zg (w:=W1) (a:=⟨w.heap.size+1,0,none⟩) (by have hK1:=hjW;simp only[zc,ka,kb,zb,kfa,kga]at hK1;simp[hK1])
  exact Nat.lt_of_lt_of_le this hgw
 clear hset hbw W0b hgw hjW
 refine Qr.wp_below_all (by kernel_rfl) (by kernel_rfl) PhiF ?_
 repeat (refine Qr.walk_plain rfl fun K hK=>?_;(first|(refine zk _ _ _ _ _ rfl _ _ _ rfl rfl rfl (fun r hr=>?_))|(apply Qr.one_det;(focus (intro w' hw';have HK:=keep hkept hw';simp only[zc,ka,kb,zb,kfa,kga]at HK;go_simp;first|done|rfl)))|(apply Qr.one_call;(focus (intro w' hw';go_simp;first|done|exact⟨rfl,rfl⟩));(focus (intro w' hw';first|((first|(go_at_call 90;refine (yb _ _).mono ?_)|(go_at_call 262;refine (yi _ _ _).mono ?_)|(go_at_call 211;refine (yh _ _).mono ?_));rintro _ w2⟨r1,rfl,hr1,hb1⟩;exact⟨_,rfl,by constructor<;>assumption,za hw' ‹_›,by assumption⟩)|((first|(go_at_call 133;refine (ya _ _ _ _).mono ?_)|(go_at_call 227;refine (zx _ _ _ _).mono ?_));rintro _ w2⟨rfl,hb1⟩;exact⟨_,rfl,by constructor<;>assumption,za hw' ‹_›,by assumption⟩)|(go_at_call 178;refine (yj _ _ _ _ _ _ _).mono ?_;rintro _ w2⟨x1,y1,z1,rfl,hx1,hy1,hz1,hb1⟩;exact⟨_,rfl,by constructor<;>assumption,za hw' ‹_›,by assumption⟩)));intro v hv;cases hv));go_simp;refine hK _ ?_;clear hK K)
 refine Qr.walk_nil fun w5 hw5=>?_
 have hkept:=keep hkept hw5
 have W5b:=za W4b hw5
 clear hw5 W4b
 have hK:=hkept
 simp only[zc,ka,kb,zb,kfa,kga]at hK
 go_wp2_with fail
 clear hK
 have hres:zc [(⟨w.heap.size+1,0,none⟩,F1 0),(⟨w.heap.size+1,1,none⟩,F1 0),(⟨w.heap.size+1,2,none⟩,F1 0)] [⟨w.heap.size+1,0,none⟩,⟨w.heap.size+1,1,none⟩,⟨w.heap.size+1,2,none⟩] w5:=by
  have hK:=hkept
  simp only[zc,ka,kb,zb,kfa,kga]at hK
  simp only[zc,ka,kb,zb,kfa,kga];simp[hK]
 refine (zx _ _ _ _).mono ?_
 rintro _ w7⟨rfl,hb7⟩
 have hres:=keep hres hb7
 have W7b:=za W5b hb7
 have hK:=hres
 simp only[zc,ka,kb,zb,kfa,kga]at hK
 go_wp2_with fail
 obtain⟨hk1,hk2⟩:=hK
 exact bodyPost_ret (v:=.agg #[F1 _,F1 _,F1 _]) (by simp[results,Tryz.results235,go_sem,hk1,hk2];first|done|exact⟨rfl,rfl,rfl⟩) rfl ⟨_,_,_,rfl,rfl,rfl,rfl,(W7b.setCell (by exact Nat.le_succ _) _).setCell (by exact Nat.le_succ _) _ |>.setCell (by exact Nat.le_succ _) _⟩
end Go.Proofs.YtbiacfkiakddiaaGreat
