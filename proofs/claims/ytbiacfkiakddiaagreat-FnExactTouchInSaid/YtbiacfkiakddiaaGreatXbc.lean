/-
 Lemmas: S13,S14,Ro,Rr,S15.
-/
import Derived.Test.YtbiacfkiakddiaaGreatXaj
import Derived.Test.YtbiacfkiakddiaaGreatXat
import Derived.Test.YtbiacfkiakddiaaGreatXbb
set_option linter.unusedVariables false
set_option linter.unusedSimpArgs false
set_option maxHeartbeats 4000000
namespace Go.Proofs.YtbiacfkiakddiaaGreat
open Go.RowKit Go.Fl
def zmr (n:PN) (x y z:Nat):Nat :=
 match n.kind,n.nums.map (cn .f32) with
 | 0,[r]=>zdg x y z r
 | 1,[u,v,t]=>ja x y z u v t
 | 2,[h,r]=>zte x y z h r
 | 3,[u,r]=>zmi x y z u r
 | 4,[a,b,c,d]=>zer x y z a b c d
 | _,_=>0
def zrn (n:PN) (x y:Nat):Nat :=
 match n.kind,n.nums.map (cn .f32) with
 | 5,_=>yo x y
 | 6,_=>z7 x y
 | 7,_=>z7 x (un .f32 y)
 | 8,[k]=>zc5 x y k
 | 10,[r]=>B .mul x r
 | 15,[r]=>B .sub x r
 | 16,[r]=>B .sub (vj x) r
 | _,_=>x
def q9 (n:PN) (p:Nat × Nat × Nat):Nat × Nat × Nat :=
 match n.kind,n.b,n.nums.map (cn .f32) with
 | 9,_,[a,b,c]=>(B .sub p.1 a,B .sub p.2.1 b,B .sub p.2.2 c)
 | 10,_,[r]=>(B .quo p.1 r,B .quo p.2.1 r,B .quo p.2.2 r)
 | 11,_,[a,b,c]=>(B .quo p.1 a,B .quo p.2.1 b,B .quo p.2.2 c)
 | 12,0,[t]=>(p.1,yr t p.2.1 p.2.2,y8 t p.2.1 p.2.2)
 | 12,1,[t]=>(y8 t p.2.2 p.1,p.2.1,yr t p.2.2 p.1)
 | 12,2,[t]=>(yr t p.1 p.2.1,y8 t p.1 p.2.1,p.2.2)
 | 13,0,_=>(vj p.1,p.2.1,p.2.2)
 | 13,1,_=>(p.1,vj p.2.1,p.2.2)
 | 13,2,_=>(p.1,p.2.1,vj p.2.2)
 | 14,0,[s]=>(kq p.1 s,p.2.1,p.2.2)
 | 14,1,[s]=>(p.1,kq p.2.1 s,p.2.2)
 | 14,2,[s]=>(p.1,p.2.1,kq p.2.2 s)
 | _,_,_=>p


theorem znd {n:PN} {b o:Nat} {w:World} (hn:NodeIn n b o w) (hok:n.ok) (hc:(zz n.kind).2.1=0) (x y z:Nat) :
  Calls Tryz.prog 196 #[.pointer (some ⟨b,o,none⟩),V3 x y z] w (Ret .f32 (zmr n (cn .f32 x) (cn .f32 y) (cn .f32 z)) w):=by
 obtain⟨bp,bv,ov,cap,h1,h2,h3⟩:=hn.nums
 have hk:=hn.kind
 have hr:=hok.kind
 have hl:=hok.nums
 obtain⟨k,na,nb,nums⟩:=n
 simp only at *
 have:k=0∨k=1∨k=2∨k=3∨k=4∨k=5∨k=6∨k=7∨k=8∨k=9∨k=10∨k=11∨k=12∨k=13∨k=14∨k=15∨k=16:=by omega
 rcases this with h|h|h|h|h|h|h|h|h|h|h|h|h|h|h|h|h<;>subst h
 ·obtain⟨r,rfl⟩:=uv hl
  have:=h2 (by simp)
  subst this
  exact zcm b o bv ov cap r x y z w hk h1 (h3 0 (by simp))
 ·obtain⟨r,s,t,rfl⟩:=zdl hl
  have:=h2 (by simp)
  subst this
  exact zdk b o bv ov cap r s t x y z w hk h1 (h3 0 (by simp)) (h3 1 (by simp)) (h3 2 (by simp))
 ·obtain⟨r,s,rfl⟩:=zhm hl
  have:=h2 (by simp)
  subst this
  exact znq b o bv ov cap r s x y z w hk h1 (h3 0 (by simp)) (h3 1 (by simp))
 ·obtain⟨r,s,rfl⟩:=zhm hl
  have:=h2 (by simp)
  subst this
  exact zna b o bv ov cap r s x y z w hk h1 (h3 0 (by simp)) (h3 1 (by simp))
 ·obtain⟨r,s,t,u,rfl⟩:=zuw hl
  have:=h2 (by simp)
  subst this
  exact zj1 b o bv ov cap r s t u x y z w hk h1 (h3 0 (by simp)) (h3 1 (by simp)) (h3 2 (by simp)) (h3 3 (by simp))
 all_goals exact absurd hc (by decide)

theorem zfv {n:PN} {b o:Nat} {w:World} (hn:NodeIn n b o w) (hok:n.ok) (hc:(zz n.kind).2.1 ≠ 0) (x y:Nat) :
  Calls Tryz.prog 231 #[.pointer (some ⟨b,o,none⟩),F1 x,F1 y] w (Ret .f32 (zrn n (cn .f32 x) (cn .f32 y)) w):=by
 obtain⟨bp,bv,ov,cap,h1,h2,h3⟩:=hn.nums
 have hk:=hn.kind
 have hr:=hok.kind
 have hl:=hok.nums
 obtain⟨k,na,nb,nums⟩:=n
 simp only at *
 have:k=0∨k=1∨k=2∨k=3∨k=4∨k=5∨k=6∨k=7∨k=8∨k=9∨k=10∨k=11∨k=12∨k=13∨k=14∨k=15∨k=16:=by omega
 rcases this with h|h|h|h|h|h|h|h|h|h|h|h|h|h|h|h|h<;>subst h
 iterate 5 exact absurd rfl hc
 ·exact znh b o x y w hk
 ·exact zst b o x y w hk
 ·exact zoo b o x y w hk
 ·obtain⟨r,rfl⟩:=uv hl
  have:=h2 (by simp)
  subst this
  exact zkc b o bv ov cap r x y w hk h1 (h3 0 (by simp))
 ·exact zo3 b o x y w hk
 ·obtain⟨r,rfl⟩:=uv hl
  have:=h2 (by simp)
  subst this
  exact zlb b o bv ov cap r x y w hk h1 (h3 0 (by simp))
 ·exact zh3 b o x y w hk
 ·exact zpr b o x y w hk
 ·exact zke b o x y w hk
 ·exact zo8 b o x y w hk
 ·obtain⟨r,rfl⟩:=uv hl
  have:=h2 (by simp)
  subst this
  exact zk2 b o bv ov cap r x y w hk h1 (h3 0 (by simp))
 ·obtain⟨r,rfl⟩:=uv hl
  have:=h2 (by simp)
  subst this
  exact zlr b o bv ov cap r x y w hk h1 (h3 0 (by simp))

theorem zj6 {n:PN} {b o:Nat} {w:World} (hn:NodeIn n b o w) (hok:n.ok) (hc:(zz n.kind).2.1 ≠ 0) (x y z:Nat) :
  Calls Tryz.prog 263 #[.pointer (some ⟨b,o,none⟩),V3 x y z] w (ut (q9 n (cn .f32 x,cn .f32 y,cn .f32 z)).1 (q9 n (cn .f32 x,cn .f32 y,cn .f32 z)).2.1 (q9 n (cn .f32 x,cn .f32 y,cn .f32 z)).2.2 w):=by
 obtain⟨bp,bv,ov,cap,h1,h2,h3⟩:=hn.nums
 have hk:=hn.kind
 have hB:=hn.b
 have hr:=hok.kind
 have hl:=hok.nums
 have hax:=hok.axis
 obtain⟨k,na,nb,nums⟩:=n
 simp only at *
 have:k=0∨k=1∨k=2∨k=3∨k=4∨k=5∨k=6∨k=7∨k=8∨k=9∨k=10∨k=11∨k=12∨k=13∨k=14∨k=15∨k=16:=by omega
 rcases this with h|h|h|h|h|h|h|h|h|h|h|h|h|h|h|h|h<;>subst h
 iterate 5 exact absurd rfl hc
 ·exact j0 5 (by decide) (kof (by simp only[List.forall_mem_cons,List.not_mem_nil,false_implies,implies_true,and_true];exact hk))
 ·exact j0 6 (by decide) (kof (by simp only[List.forall_mem_cons,List.not_mem_nil,false_implies,implies_true,and_true];exact hk))
 ·exact j0 7 (by decide) (kof (by simp only[List.forall_mem_cons,List.not_mem_nil,false_implies,implies_true,and_true];exact hk))
 ·exact j0 8 (by decide) (kof (by simp only[List.forall_mem_cons,List.not_mem_nil,false_implies,implies_true,and_true];exact hk))
 ·have hb0:nb=0:=by
   rcases hax with h|h|⟨h,_⟩
   ·exact absurd h (by decide)
   ·exact h
   ·exact absurd h (by decide)
  subst hb0
  obtain⟨r,s,t,rfl⟩:=zdl hl
  have:=h2 (by simp)
  subst this
  exact zkg (kof (by simp only[List.forall_mem_cons,List.not_mem_nil,false_implies,implies_true,and_true];exact⟨hk,hB,h1,h3 0 (by simp),h3 1 (by simp),h3 2 (by simp)⟩))
 ·have hb0:nb=0:=by
   rcases hax with h|h|⟨h,_⟩
   ·exact absurd h (by decide)
   ·exact h
   ·exact absurd h (by decide)
  subst hb0
  obtain⟨r,rfl⟩:=uv hl
  have:=h2 (by simp)
  subst this
  exact zhu (kof (by simp only[List.forall_mem_cons,List.not_mem_nil,false_implies,implies_true,and_true];exact⟨hk,hB,h1,h3 0 (by simp)⟩))
 ·have hb0:nb=0:=by
   rcases hax with h|h|⟨h,_⟩
   ·exact absurd h (by decide)
   ·exact h
   ·exact absurd h (by decide)
  subst hb0
  obtain⟨r,s,t,rfl⟩:=zdl hl
  have:=h2 (by simp)
  subst this
  exact zfa (kof (by simp only[List.forall_mem_cons,List.not_mem_nil,false_implies,implies_true,and_true];exact⟨hk,hB,h1,h3 0 (by simp),h3 1 (by simp),h3 2 (by simp)⟩))
 ·have hb0:nb=0∨nb=1∨nb=2:=by
   rcases hax with h|h|⟨_,h⟩
   ·exact absurd h (by decide)
   ·omega
   ·omega
  obtain⟨r,rfl⟩:=uv hl
  have:=h2 (by simp)
  subst this
  rcases hb0 with h|h|h<;>subst h
  ·exact zhp (kof (by simp only[List.forall_mem_cons,List.not_mem_nil,false_implies,implies_true,and_true];exact⟨hk,hB,h1,h3 0 (by simp)⟩))
  ·exact zh6 (kof (by simp only[List.forall_mem_cons,List.not_mem_nil,false_implies,implies_true,and_true];exact⟨hk,hB,h1,h3 0 (by simp)⟩))
  ·exact zht (kof (by simp only[List.forall_mem_cons,List.not_mem_nil,false_implies,implies_true,and_true];exact⟨hk,hB,h1,h3 0 (by simp)⟩))
 ·have hb0:nb=0∨nb=1∨nb=2:=by
   rcases hax with h|h|⟨_,h⟩
   ·exact absurd h (by decide)
   ·omega
   ·omega
  have hl0:nums=[]:=List.length_eq_zero_iff.1 hl
  subst hl0
  rcases hb0 with h|h|h<;>subst h
  ·exact ze6 (kof (by simp only[List.forall_mem_cons,List.not_mem_nil,false_implies,implies_true,and_true];exact⟨hk,hB⟩))
  ·exact zfc (kof (by simp only[List.forall_mem_cons,List.not_mem_nil,false_implies,implies_true,and_true];exact⟨hk,hB⟩))
  ·exact ze9 (kof (by simp only[List.forall_mem_cons,List.not_mem_nil,false_implies,implies_true,and_true];exact⟨hk,hB⟩))
 ·have hb0:nb=0∨nb=1∨nb=2:=by
   rcases hax with h|h|⟨_,h⟩
   ·exact absurd h (by decide)
   ·omega
   ·omega
  obtain⟨r,rfl⟩:=uv hl
  have:=h2 (by simp)
  subst this
  rcases hb0 with h|h|h<;>subst h
  ·exact zhx (kof (by simp only[List.forall_mem_cons,List.not_mem_nil,false_implies,implies_true,and_true];exact⟨hk,hB,h1,h3 0 (by simp)⟩))
  ·exact zhl (kof (by simp only[List.forall_mem_cons,List.not_mem_nil,false_implies,implies_true,and_true];exact⟨hk,hB,h1,h3 0 (by simp)⟩))
  ·exact zh0 (kof (by simp only[List.forall_mem_cons,List.not_mem_nil,false_implies,implies_true,and_true];exact⟨hk,hB,h1,h3 0 (by simp)⟩))
 ·exact j0 15 (by decide) (kof (by simp only[List.forall_mem_cons,List.not_mem_nil,false_implies,implies_true,and_true];exact hk))
 ·exact j0 16 (by decide) (kof (by simp only[List.forall_mem_cons,List.not_mem_nil,false_implies,implies_true,and_true];exact hk))

end Go.Proofs.YtbiacfkiakddiaaGreat

namespace Go.Proofs.YtbiacfkiakddiaaGreat
open Go.RowKit Go.Fl
abbrev V:=Nat × Nat × Nat
def zuj (p:V) (j:Nat):Value:=if j=0 then F1 p.1 else if j=1 then F1 p.2.1 else F1 p.2.2
def zbg (n:Nat) (P:Nat→V):Array Value:=Array.ofFn (n:=3*n) fun k=>zuj (P (k.val / 3)) (k.val % 3)
def upd (P:Nat→V) (c:Nat) (v:V):Nat→V:=fun i=>if i=c then v else P i
def cnv (p:V):V:=(cn .f32 p.1,cn .f32 p.2.1,cn .f32 p.2.2)

theorem zeo {w:World} {g n:Nat} {P:Nat→V} {T:TypeId} (h:w.heap[g]? = some (.cells (zbg n P) T (0,0))) (i:Nat) (hi:i<n) :
  w.cell? ⟨g,i*3,none⟩=some (F1 (P i).1)∧w.cell? ⟨g,i*3+1,none⟩=some (F1 (P i).2.1)∧w.cell? ⟨g,i*3+2,none⟩=some (F1 (P i).2.2):=by
 have key:∀ j,j<3→w.cell? ⟨g,i*3+j,none⟩=some (zuj (P i) j):=fun j hj=>by
  have hlt:i*3+j<3*n:=by omega
  have e1:(i*3+j) / 3=i:=by omega
  have e2:(i*3+j) % 3=j:=by omega
  simp[World.cell?,h,zbg,hlt,e1,e2]
 exact⟨key 0 (by omega),key 1 (by omega),key 2 (by omega)⟩

theorem zdu {w:World} {g n:Nat} {P:Nat→V} {T:TypeId} (h:w.heap[g]? = some (.cells (zbg n P) T (0,0))) (o:Nat):w.frozen? ⟨g,o,none⟩=false:=by
 simp[World.frozen?,h]

theorem zud (n:Nat) (P:Nat→V) (c x y z:Nat) :
  (((zbg n P).setIfInBounds (c*3) (F1 x)).setIfInBounds (c*3+1) (F1 y)).setIfInBounds (c*3+2) (F1 z)=zbg n (upd P c (x,y,z)):=by
 refine Array.ext (by simp[zbg]) fun k h1 h2=>?_
 have hk:k<3*n:=by simpa [zbg] using h2
 rw[Array.getElem_setIfInBounds (by simpa [zbg] using hk),Array.getElem_setIfInBounds (by simpa [zbg] using hk),Array.getElem_setIfInBounds (by simpa [zbg] using hk)]
 simp only[zbg,Array.getElem_ofFn,upd]
 by_cases e2:c*3+2=k
 ·have:k / 3=c:=by omega
  have h3:k % 3=2:=by omega
  simp[e2,this,h3,zuj]
 ·by_cases e1:c*3+1=k
  ·have:k / 3=c:=by omega
   have h3:k % 3=1:=by omega
   simp[e2,e1,this,h3,zuj]
  ·by_cases e0:c*3=k
   ·have:k / 3=c:=by omega
    have h3:k % 3=0:=by omega
    simp[e2,e1,e0,this,h3,zuj]
   ·have:k / 3 ≠ c:=by omega
    simp[e2,e1,e0,this]

theorem zju {w:World} {g n:Nat} {P:Nat→V} {T:TypeId} (h:w.heap[g]? = some (.cells (zbg n P) T (0,0))) (c x y z:Nat) :
  (((w.setCell ⟨g,c*3,none⟩ (F1 x)).setCell ⟨g,c*3+1,none⟩ (F1 y)).setCell ⟨g,c*3+2,none⟩ (F1 z)).heap[g]? = some (.cells (zbg n (upd P c (x,y,z))) T (0,0)):=by
 rw[← zud]
 simp only[World.setCell,Array.getElem?_modify,if_true,h,Option.map_some]
 rfl

set_option maxRecDepth 100000 in
theorem ztb (n:Nat) (hn:n≤16) (w:World):(Instr.makeSlice 64 (.int .i64 (n:Int)) (.int .i64 (n:Int))).run Tryz.prog w=.ok (.slice (some ⟨w.heap.size,0,none⟩) n n) (w.alloc (.cells (zbg n fun _=>(0,0,0)) 38)):=by
 have:n=0∨n=1∨n=2∨n=3∨n=4∨n=5∨n=6∨n=7∨n=8∨n=9∨n=10∨n=11∨n=12∨n=13∨n=14∨n=15∨n=16:=by omega
 rcases this with h|h|h|h|h|h|h|h|h|h|h|h|h|h|h|h|h <;>subst h<;>(first|rfl|(show _=_;kernel_rfl))

theorem zb4 {k:Int} (h:0≤k∧k≤16):(inI k 0 4=decide ((zz k).2.1=0))∧(inI k 5 8=decide ((zz k).2.1=2)):=by
 have:k=0∨k=1∨k=2∨k=3∨k=4∨k=5∨k=6∨k=7∨k=8∨k=9∨k=10∨k=11∨k=12∨k=13∨k=14∨k=15∨k=16:=by omega
 rcases this with h|h|h|h|h|h|h|h|h|h|h|h|h|h|h|h|h<;>subst h<;>decide

def zii (n:PN) (i:Nat) (C:Nat→V):Nat→V :=
 if inI n.kind 0 4 then C
 else if inI n.kind 5 8 then upd (upd C n.a.toNat (q9 n (C i))) n.b.toNat (upd C n.a.toNat (q9 n (C i)) i)
 else upd C n.a.toNat (q9 n (C i))
def zcg (ns:List PN) (p:V):Nat→(Nat→V)
 | 0=>upd (fun _=>(0,0,0)) (ns.length-1) p
 | d+1=>match ns[ns.length-1-d]? with
  | none=>zcg ns p d
  | some n=>zii n (ns.length-1-d) (zcg ns p d)

inductive PhiQ (n:PN):FuncId→Array Value→Value→Prop
 | point (pa:Addr) (x y z a b c:Nat) (h:cnv (a,b,c)=q9 n (cn .f32 x,cn .f32 y,cn .f32 z)):PhiQ n 263 #[.pointer (some pa),V3 x y z] (V3 a b c)

def zy5 (ns:List PN) (p:V) (w:World) (e:Ending) (w':World):Prop :=
 ∃ g P,e=.returned (.slice (some ⟨g,0,none⟩) ns.length ns.length)∧w'.heap[g]? = some (.cells (zbg ns.length P) 38 (0,0))∧(∀ i,cnv (P i)=zcg ns p ns.length i)∧Below w.heap.size w w'∧w.heap.size≤g

set_option maxRecDepth 100000 in
theorem zjp (ns:List PN) (hok:qx ns) (hl:1≤ns.length∧ns.length≤16) (sb so nb no cap x y z:Nat) (w:World) (hsh:ShapeIn ns sb so nb no cap w) :
  Calls Tryz.prog 230 #[.pointer (some ⟨sb,so,none⟩),V3 x y z] w (zy5 ns (cn .f32 x,cn .f32 y,cn .f32 z) w):=by
 have hlist:=hsh.list
 have hsb:sb<w.heap.size:=zg (a:=⟨sb,so,none⟩) (by rw[hlist];rfl)
 have hr1:(1:Int)≤(ns.length:Int):=by omega
 have hr2:(ns.length:Int)≤16:=by omega
 have hr0:(0:Int)≤(ns.length:Int)-1:=by omega
 have hr3:((ns.length:Int)-1).toNat=ns.length-1:=by omega
 go_enter Tryz.func230,Tryz.ntmps230
 go_wp2_with fail
 rw[ztb _ hl.2]
 generalize hZ:zbg ns.length (fun _=>(0,0,0))=Z
 have W1b:Below w.heap.size w ((w.alloc (.cells #[F1 x,F1 y,F1 z] 38)).alloc (.cells Z 38)):=(by repeat' (first|exact zi _ _|refine zd ?_ _|refine Below.alloc ?_ (by simp<;>omega) _|refine zj ?_ (by simp<;>omega) _|refine za ?_ ‹_›))

 have hbox:zc [(⟨w.heap.size,0,none⟩,F1 x),(⟨w.heap.size,1,none⟩,F1 y),(⟨w.heap.size,2,none⟩,F1 z)] [] ((w.alloc (.cells #[F1 x,F1 y,F1 z] 38)).alloc (.cells Z 38)):=by
  simp only[zc,ka,kb,zb,kfa,kga];simp
 have hpar:=ub (w.alloc (.cells #[F1 x,F1 y,F1 z] 38)) (.cells Z 38)
 have hsz:((w.alloc (.cells #[F1 x,F1 y,F1 z] 38))).heap.size=w.heap.size+1:=by simp
 rw[hsz]at hpar ⊢
 generalize (w.alloc (.cells #[F1 x,F1 y,F1 z] 38)).alloc (.cells Z 38)=W1 at *
 subst hZ
 clear hsz
 have hK:=hbox
 simp only[zc,ka,kb,zb,kfa,kga]at hK
 obtain⟨hc0,hc1,hc2⟩:=zeo hpar (ns.length-1) (by omega)
 have hfz:=zdu hpar
 go_wp2_with fail
 have hset0:=zju hpar (ns.length-1) x y z
 have hb0:Below w.heap.size w (((W1.setCell ⟨w.heap.size+1,(ns.length-1)*3,none⟩ (F1 x)).setCell ⟨w.heap.size+1,(ns.length-1)*3+1,none⟩ (F1 y)).setCell ⟨w.heap.size+1,(ns.length-1)*3+2,none⟩ (F1 z)) :=
  ((W1b.setCell (by exact Nat.le_succ _) _).setCell (by exact Nat.le_succ _) _).setCell (by exact Nat.le_succ _) _
 clear hc0 hc1 hc2 hfz hK hbox hpar W1b
 go_loopw [6] (fun i wr=>∃ (m:Nat) (P:Nat→V),m≤ns.length∧i=.int .i64 ((m:Int)-1)∧wr.heap[w.heap.size+1]? = some (.cells (zbg ns.length P) 38 (0,0))∧(∀ j,cnv (P j)=zcg ns (cn .f32 x,cn .f32 y,cn .f32 z) (ns.length-m) j)∧Below w.heap.size w wr) (fun i _=>(intOf i+1).toNat)
 case atStart=>exact⟨ns.length,_,by omega,rfl,hset0,fun j=>by
  rw[Nat.sub_self]
  show cnv (upd _ _ _ j)=upd _ _ _ j
  unfold upd
  split
  ·rfl
  ·show (cn .f32 0,cn .f32 0,cn .f32 0)=_
   rw[ye],hb0⟩
 case round =>
  obtain⟨m,P,hm,rfl,hpar,hC,Wb⟩:=hrel
  clear hset0 hb0
  cases m with
  | zero =>
   go_wp2_with fail
   go_ret
   exact⟨w.heap.size+1,P,rfl,hpar,hC,Wb,by omega⟩
  | succ k =>
   have hk1:((k+1:Nat):Int)-1=(k:Int):=by omega
   rw[hk1]
   have hk0:(0:Int)≤(k:Int):=by omega
   have hkl:(k:Int)<(ns.length:Int):=by omega
   have hkn:k<ns.length:=by omega
   have hn0:=hsh.node k hkn
   have hn:=hn0.keep Wb
   have hSr:=(hsh.keep Wb).list
   have hnb:nb<w.heap.size:=zg (a:=⟨nb,no+k*4,none⟩) (by rw[(hsh.node k hkn).kind];rfl)
   obtain⟨hokn,hca,hcb⟩:=hok k hkn
   have hrun:∀ C,zcg ns C (ns.length-k)=zii ns[k] k (zcg ns C (ns.length-(k+1))):=fun C=>by
    have h1:ns.length-k=(ns.length-(k+1))+1:=by omega
    have h2:ns.length-1-(ns.length-(k+1))=k:=by omega
    rw[h1,zcg,h2,List.getElem?_eq_getElem hkn]
   obtain⟨hki1,hki2⟩:=zb4 hokn.kind
   generalize ns[k]=n at *
   have hleaf:∀ (w:World),Calls Tryz.prog 119 #[.int .i64 n.kind] w (fun e w'=>e=.returned (.bool (inI n.kind 0 4))∧w=w'):=fun w=>kp _ w
   have htwo:∀ (w:World),Calls Tryz.prog 120 #[.int .i64 n.kind] w (fun e w'=>e=.returned (.bool (inI n.kind 5 8))∧w=w'):=fun w=>zah _ w
   have hkind:=hn.kind
   cases hlf:inI n.kind 0 4
   ·rw[hlf]at hki1
    have hne:(zz n.kind).2.1 ≠ 0:=by simpa using hki1.symm
    obtain⟨ca,hcaI⟩:=Int.eq_ofNat_of_zero_le (hca hne).1
    have hcal:ca<k:=by have:=(hca hne).2;omega
    have hcan:ca<ns.length:=by omega
    have hcaL:(ca:Int)<(ns.length:Int):=by omega
    obtain⟨p0,p1,p2⟩:=zeo hpar k hkn
    have hA:=hn.a
    rw[hcaI]at hA
    have hkept:zc [(⟨nb,no+k*4+1,none⟩,.int .i64 (ca:Int)),(⟨w.heap.size+1,k*3,none⟩,F1 (P k).1),(⟨w.heap.size+1,k*3+1,none⟩,F1 (P k).2.1),(⟨w.heap.size+1,k*3+2,none⟩,F1 (P k).2.2)] [] wr:=by
     simp only[zc,ka,kb,zb,kfa,kga]
     exact⟨hA,p0,p1,p2⟩
    have hHki2:=Lib.hid hki2
    have hHC:=Lib.hid hC
    have hHrun:=Lib.hid hrun
    have hHn0:=Lib.hid hn0
    clear hn0 p0 p1 p2 hA hki1 hki2 hC hrun hsh hok hlist
    go_upto_region 8 with (go_at_call 119;refine (hleaf _).mono ?_;rintro _ w4⟨rfl,rfl⟩;rw[hlf])
    refine Qr.wp_below 12 (by kernel_rfl) (by kernel_rfl) (PhiQ n) ?_
    repeat (first|(refine Qr.walk_plain rfl fun K hK=>?_;apply Qr.one_det;(focus (intro w' hw';have HK:=keep hkept hw';simp only[zc,ka,kb,zb,kfa,kga]at HK;go_simp;first|done|rfl));go_simp;refine hK _ ?_;clear hK K)|(refine Qr.walk_plain rfl fun K hK=>?_;apply Qr.one_call;(focus (intro w' hw';go_simp;first|done|exact⟨rfl,rfl⟩));(focus (intro w' hw'; go_at_call 263;refine (zj6 (hn.keep hw') hokn hne _ _ _).mono ?_;rintro _ w2⟨x1,y1,z1,rfl,hx1,hy1,hz1,hb1⟩;exact⟨_,rfl,PhiQ.point _ _ _ _ _ _ _ (by show (_,_,_)=_;rw[hx1,hy1,hz1]),za hw' ‹_›,by assumption⟩));intro v hv;obtain⟨_,_,_,_,x1,y1,z1,hv⟩:=hv;go_simp;refine hK _ ?_;clear hK K))
    refine Qr.walk_nil fun w6 hw6=>?_
    have hpar6:w6.heap[w.heap.size+1]? = some (.cells (zbg ns.length P) 38 (0,0)):=by
     rw[hw6.block (w.heap.size+1) (Array.getElem?_eq_some_iff.1 hpar).1];exact hpar
    have W6b:=za Wb hw6
    have hn6:=hn.keep hw6
    obtain⟨q0,q1,q2⟩:=zeo hpar6 ca hcan
    have hfz:=zdu hpar6
    clear hn6 hkept hn hkind hw6 hpar Wb hSr
    go_upto_region 9 with fail
    have hset:=zju hpar6 ca x1 y1 z1
    have W7b:=((W6b.setCell (p:=⟨w.heap.size+1,ca*3,none⟩) (by exact Nat.le_succ _) (F1 x1)).setCell (p:=⟨w.heap.size+1,ca*3+1,none⟩) (by exact Nat.le_succ _) (F1 y1)).setCell (p:=⟨w.heap.size+1,ca*3+2,none⟩) (by exact Nat.le_succ _) (F1 z1)
    generalize ((w6.setCell ⟨w.heap.size+1,ca*3,none⟩ (F1 x1)).setCell ⟨w.heap.size+1,ca*3+1,none⟩ (F1 y1)).setCell ⟨w.heap.size+1,ca*3+2,none⟩ (F1 z1)=w7 at hset W7b ⊢
    clear q0 q1 q2 hfz hpar6 W6b
    have hn7:=hHn0.out.keep W7b
    have hkind:=hn7.kind
    have hHa:=Lib.hid hcaI
    clear hcaI
    have hC1:Hid (∀ j,cnv (upd P ca (x1,y1,z1) j)=upd (zcg ns (cn .f32 x,cn .f32 y,cn .f32 z) (ns.length-(k+1))) ca (q9 n (zcg ns (cn .f32 x,cn .f32 y,cn .f32 z) (ns.length-(k+1)) k)) j):=fun j=>by
     unfold upd
     split
     ·rw[hv,← hHC.out k];rfl
     ·exact hHC.out j
    have hBk:inI n.kind 5 8=true→0≤n.b∧n.b<(k:Int):=fun h=>hcb (by rw[hHki2.out]at h;simpa using h)
    generalize upd P ca (x1,y1,z1)=P1 at *
    clear hv hHC
    cases htw:inI n.kind 5 8
    ·go_wp2_with (go_at_call 120;refine (htwo _).mono ?_;rintro _ w4⟨rfl,rfl⟩;rw[htw])
     exact⟨⟨k,P1,by omega,rfl,hset,fun j=>by rw[hHrun.out,zii,hlf,htw,hHa.out];exact hC1.out j,W7b⟩,by first|(simp[intOf];done)|(simp[intOf];omega)⟩
    ·obtain⟨cb,hcbI⟩:=Int.eq_ofNat_of_zero_le (hBk htw).1
     have hcbl:cb<k:=by have:=(hBk htw).2;omega
     have hcbn:cb<ns.length:=by omega
     have hcbL:(cb:Int)<(ns.length:Int):=by omega
     have hB:=hn7.b
     rw[hcbI]at hB
     obtain⟨p0,p1,p2⟩:=zeo hset k hkn
     have hkept:zc [(⟨nb,no+k*4+2,none⟩,.int .i64 (cb:Int)),(⟨w.heap.size+1,k*3,none⟩,F1 (P1 k).1),(⟨w.heap.size+1,k*3+1,none⟩,F1 (P1 k).2.1),(⟨w.heap.size+1,k*3+2,none⟩,F1 (P1 k).2.2)] [] w7:=by
      simp only[zc,ka,kb,zb,kfa,kga]
      exact⟨hB,p0,p1,p2⟩
     have hHb:=Lib.hid hcbI
     clear p0 p1 p2 hB hcbI hBk hn7
     go_upto_region 10 with (go_at_call 120;refine (htwo _).mono ?_;rintro _ w4⟨rfl,rfl⟩;rw[htw])
     clear hkind
     refine Qr.wp_below 10 (by kernel_rfl) (by kernel_rfl) (PhiQ n) ?_
     repeat (refine Qr.walk_plain rfl fun K hK=>?_;apply Qr.one_det;(focus (intro w' hw';have HK:=keep hkept hw';simp only[zc,ka,kb,zb,kfa,kga]at HK;go_simp;first|done|rfl));go_simp;refine hK _ ?_;clear hK K)
     refine Qr.walk_nil fun w8 hw8=>?_
     have hpar8:w8.heap[w.heap.size+1]? = some (.cells (zbg ns.length P1) 38 (0,0)):=by
      rw[hw8.block (w.heap.size+1) (Array.getElem?_eq_some_iff.1 hset).1];exact hset
     have W8b:=za W7b hw8
     obtain⟨q0,q1,q2⟩:=zeo hpar8 cb hcbn
     have hfz:=zdu hpar8
     have hset2:=zju hpar8 cb (P1 k).1 (P1 k).2.1 (P1 k).2.2
     have W9b:=((W8b.setCell (p:=⟨w.heap.size+1,cb*3,none⟩) (by exact Nat.le_succ _) (F1 (P1 k).1)).setCell (p:=⟨w.heap.size+1,cb*3+1,none⟩) (by exact Nat.le_succ _) (F1 (P1 k).2.1)).setCell (p:=⟨w.heap.size+1,cb*3+2,none⟩) (by exact Nat.le_succ _) (F1 (P1 k).2.2)
     clear hkept hw8 hset W7b hpar8 W8b
     have hHset:=Lib.hid hset2
     clear hset2
     go_wp2_with fail
     exact⟨⟨k,upd P1 cb (P1 k),by omega,rfl,hHset.out,fun j=>by
      rw[hHrun.out,zii,hlf,htw,hHa.out,hHb.out]
      show _=upd _ _ _ _
      have h1:=hC1.out
      unfold upd at h1 ⊢
      split
      ·rename_i hj;rw[hj]at *;simp only[Int.toNat_natCast,if_true];rw[h1 k];try rfl
      ·rename_i hj;rw[h1 j];simp only[Int.toNat_natCast,hj,if_false];try rfl,W9b⟩,by first|(simp[intOf];done)|(simp[intOf];omega)⟩
   ·have hC1:∀ j,cnv (P j)=zcg ns (cn .f32 x,cn .f32 y,cn .f32 z) (ns.length-k) j:=fun j=>by rw[hrun,zii,hlf];exact hC j
    have htw:inI n.kind 5 8=false:=by
     simp only[inI,Bool.and_eq_true,decide_eq_true_eq,Bool.and_eq_false_iff,decide_eq_false_iff_not]at hlf ⊢
     omega
    have hHC:=Lib.hid hC1
    clear hC1 hC hrun hki1 hki2 hsh hok hlist hca hcb hn0
    go_wp2_with (go_at_call 119;refine (hleaf _).mono ?_;rintro _ w4⟨rfl,rfl⟩;rw[hlf])
    exact⟨⟨k,P,by omega,rfl,hpar,hHC.out,Wb⟩,by first|(simp[intOf];done)|(simp[intOf];omega)⟩
end Go.Proofs.YtbiacfkiakddiaaGreat

namespace Go.Proofs.YtbiacfkiakddiaaGreat
open Go.RowKit Go.Fl Go.ChangeShapes Go.WideShapes Go.Deep
section
variable {H:Type} {enc:TypeId × Value→H} {P:Program} {w:World} {base:Nat} {spare:Nat→Bool} {held:Bool}
theorem zed {t:TypeId} {k:FloatKind} {fuel:Nat} {cs:List Value} {x:DataW H × List MemPlace} (ht:P.underlying t=some (.float k)) (h:DataW.trod enc P w base spare held fuel t cs=some x):∃ b,cs=[.float k b]:=by
 cases fuel with
 | zero=>simp[DataW.trod]at h
 | succ n =>
  unfold DataW.trod at h
  rw[ht]at h
  split at h<;>simp_all

theorem zvm (a:Addr) (i j:Nat) (h:a.spot=none):(a.add i).add j=⟨a.block,a.off+i+j,none⟩:=by
 obtain⟨b,o,s⟩:=a
 simp only at h
 subst h
 rw[Go.WideShapes.add_plain,Go.WideShapes.add_plain]
end
theorem zxn {α:Type} {l:List α} (h:l.length=4):∃ a b c d,l=[a,b,c,d]:=by
 match l,h with
 | [a,b,c,d],_=>exact⟨a,b,c,d,rfl⟩

theorem zqc {Pp:Nat→PN→Prop}:∀ n,(∀ i,i<n→∃ x,Pp i x)→∃ ns:List PN,ns.length=n∧∀ i (h:i<ns.length),Pp i ns[i]
 | 0,_=>⟨[],rfl,fun i h=>by simp at h⟩
 | n+1,h=>by
  obtain⟨ns,h1,h2⟩:=zqc n (fun i hi=>h i (by omega))
  obtain⟨x,hx⟩:=h n (by omega)
  refine⟨ns++[x],by simp[h1],fun i hi=>?_⟩
  by_cases e:i<ns.length
  ·rw[List.getElem_append_left e];exact h2 i e
  ·have:i=n:=by simp at hi;omega
   subst this
   rw[List.getElem_append_right (by omega)]
   simpa [h1] using hx

theorem zqv {Pp:Nat→Nat→Prop}:∀ n,(∀ i,i<n→∃ x,Pp i x)→∃ ns:List Nat,ns.length=n∧∀ i (h:i<ns.length),Pp i ns[i]
 | 0,_=>⟨[],rfl,fun i h=>by simp at h⟩
 | n+1,h=>by
  obtain⟨ns,h1,h2⟩:=zqv n (fun i hi=>h i (by omega))
  obtain⟨x,hx⟩:=h n (by omega)
  refine⟨ns++[x],by simp[h1],fun i hi=>?_⟩
  by_cases e:i<ns.length
  ·rw[List.getElem_append_left e];exact h2 i e
  ·have:i=n:=by simp at hi;omega
   subst this
   rw[List.getElem_append_right (by omega)]
   simpa [h1] using hx

theorem zri {H:Type} {enc:TypeId × Value→H} {w:World} {base fuel:Nat} {spare:Nat→Bool} {held:Bool} {cs:List Value} {x:DataW H × List MemPlace} (h:DataW.trod enc Tryz.prog w base spare held fuel 140 cs=some x) :
  ∃ (xs:List Nat) (bp:Option Addr) (bv ov cap:Nat),cs=[.slice bp xs.length cap]∧xs.length≤maxLen∧(xs ≠ []→bp=some ⟨bv,ov,none⟩)∧∀ i (h:i<xs.length),w.cell? ⟨bv,ov+i,none⟩=some (F1 xs[i]):=by
 rcases open_slice1 Tryz.underlying140 (by kernel_rfl) h with⟨rfl,-⟩|⟨a,len,cap,m,n,V,D,Pl,rfl,-,hlc,hcm,hmm,-,hcell⟩
 ·exact⟨[],none,0,0,0,rfl,Nat.zero_le _,fun h=>absurd rfl h,fun i hi=>by simp at hi⟩
 ·have hm:len≤m:=by rw[hmm];split<;>omega
  have hx:∀ i,i<len→∃ b,w.cell? (a.add i)=some (F1 b):=fun i hi=>by
   obtain⟨h1,h2⟩:=hcell i (by omega)
   obtain⟨b,hb⟩:=zed Tryz.underlying25 h2
   injection hb with hb
   exact⟨b,by rw[h1,hb]⟩
  obtain⟨xs,rfl,hxs⟩:=zqv len hx
  obtain⟨b,off,spot⟩:=a
  refine⟨xs,some ⟨b,off,spot⟩,b,off,cap,rfl,by omega,fun hne=>?_,fun i hi=>?_⟩
  ·have h0:0<xs.length:=List.length_pos_iff.2 hne
   have:=World.cell?_spot (hxs 0 h0)
   have hspot:spot=none:=by simpa [Addr.add] using this
   rw[hspot]
  ·have h0:0<xs.length:=by omega
   have:=World.cell?_spot (hxs 0 h0)
   have hspot:spot=none:=by simpa [Addr.add] using this
   subst hspot
   rw[← Go.WideShapes.add_plain]
   exact hxs i hi

theorem zfw {H:Type} {enc:TypeId × Value→H} {w:World} {base fuel:Nat} {spare:Nat→Bool} {held:Bool} {cs:List Value} {x:DataW H × List MemPlace} (h:DataW.trod enc Tryz.prog w base spare held fuel 2 cs=some x):∃ n,cs=[.int .i64 n]:=by
 obtain⟨n,h1,-⟩:=DataW.trod_int Tryz.underlying2 h
 exact⟨n,h1⟩

set_option maxRecDepth 100000 in
theorem znw {H:Type} {enc:TypeId × Value→H} {w:World} {base fuel:Nat} {spare:Nat→Bool} {held:Bool} {cs:List Value} {x:DataW H × List MemPlace} (h:DataW.trod enc Tryz.prog w base spare held fuel 22 cs=some x) :
  ∃ (ns:List PN) (bp:Option Addr) (nb no cap:Nat),cs=[.slice bp ns.length cap]∧NodesIn ns bp nb no w:=by
 rcases open_slice Tryz.underlying22 h with⟨rfl,-⟩|⟨a,len,cap,m,n,D,Pl,rfl,-,hlc,hcm,hmm,-,hel⟩
 ·exact⟨[],none,0,0,0,rfl,fun h=>absurd rfl h,fun i hi=>by simp at hi,Nat.zero_le _,fun n hn=>by cases hn⟩
 ·have hm:len≤m:=by rw[hmm];split<;>omega
  have hC:Tryz.prog.cellsOf 175=4:=by kernel_rfl
  have hx:∀ i,i<len→∃ n:PN,(a.spot=none∧NodeIn n a.block (a.off+i*4) w)∧n.nums.length≤maxLen:=fun i hi=>by
   obtain⟨cs',hc,ht⟩:=hel i (by omega)
   rw[hC]at hc
   obtain⟨-,hcl,hat⟩:=World.cells?_some hc
   obtain⟨ys,n',-,-,-,hyl,hf⟩:=DataW.trod_struct Tryz.underlying175 ht
   obtain⟨c0,c1,c2,c3,rfl⟩:=zxn hcl
   obtain⟨y0,y1,y2,y3,rfl⟩:=zxn (hyl.trans rfl)
   obtain⟨cs0,hz,-⟩:=hel 0 (by omega)
   rw[hC]at hz
   obtain⟨-,hzl,hzat⟩:=World.cells?_some hz
   have hz0:=hzat 0 (by omega)
   have hspot:a.spot=none:=by
    obtain⟨z0,z1,z2,z3,rfl⟩:=zxn hzl
    have:=World.cell?_spot (show w.cell? ((a.add (0*4)).add 0)=some z0 from hz0)
    simpa [Addr.add] using this
   have f0:=hf 0 _ rfl
   have f1:=hf 1 _ rfl
   have f2:=hf 2 _ rfl
   have f3:=hf 3 _ rfl
   have t0:DataW.trod enc Tryz.prog w base spare held n' 2 [c0]=some y0:=f0
   have t1:DataW.trod enc Tryz.prog w base spare held n' 2 [c1]=some y1:=f1
   have t2:DataW.trod enc Tryz.prog w base spare held n' 2 [c2]=some y2:=f2
   have t3:DataW.trod enc Tryz.prog w base spare held n' 140 [c3]=some y3:=f3
   obtain⟨k,e0⟩:=zfw t0
   obtain⟨na,e1⟩:=zfw t1
   obtain⟨nb,e2⟩:=zfw t2
   obtain⟨xs,bp,bv,ov,cp,e3,hxl,hp,hcells⟩:=zri t3
   injection e0 with e0
   injection e1 with e1
   injection e2 with e2
   injection e3 with e3
   have hc0:=hat 0 (by omega)
   have hc1:=hat 1 (by omega)
   have hc2:=hat 2 (by omega)
   have hc3:=hat 3 (by omega)
   have had:∀ j,(a.add (i*4)).add j=⟨a.block,a.off+i*4+j,none⟩:=fun j=>by exact zvm a (i*4) j hspot
   rw[had]at hc0 hc1 hc2 hc3
   rw[Nat.add_zero]at hc0
   refine⟨⟨k,na,nb,xs⟩,⟨hspot,⟨?_,?_,?_,bp,bv,ov,cp,?_,hp,hcells⟩⟩,hxl⟩
   ·rw[hc0,← e0];rfl
   ·rw[hc1,← e1];rfl
   ·rw[hc2,← e2];rfl
   ·rw[hc3,← e3];rfl
  obtain⟨ns,rfl,hns⟩:=zqc len hx
  refine⟨ns,some a,a.block,a.off,cap,rfl,fun hne=>?_,fun i hi=>(hns i hi).1.2,by omega,fun n hn=>?_⟩
  ·have h0:0<ns.length:=List.length_pos_iff.2 hne
   have:=(hns 0 h0).1.1
   obtain⟨b,o,s⟩:=a
   simp only at this
   rw[this]
  ·obtain⟨i,hi,rfl⟩:=List.getElem_of_mem hn
   exact (hns i hi).2

theorem zyi {α:Type} {l:List α} (h:l.length=3):∃ a b c,l=[a,b,c]:=by
 match l,h with
 | [a,b,c],_=>exact⟨a,b,c,rfl⟩
theorem uno {α:Type} {l:List α} (h:l.length=1):∃ a,l=[a]:=by
 match l,h with
 | [a],_=>exact⟨a,rfl⟩

set_option maxRecDepth 100000 in
theorem zg7 {H:Type} {enc:TypeId × Value→H} {w:World} {base b0:Nat} {r:Reach} {spare:Nat→Bool} {held:Bool} {v:Value} {d:DataW H} {p:List MemPlace} (hv:Value.okWide Tryz.prog w r b0 24 v) (h:DataW.Trod enc Tryz.prog w base spare held 24 v d p) :
  ∃ (ns:List PN) (bp:Option Addr) (nb no cap:Nat),v=.agg #[.slice bp ns.length cap]∧NodesIn ns bp nb no w:=by
 obtain⟨cs,rfl,hsz⟩:=okWide_struct Tryz.underlying24 hv
 have hC:Tryz.prog.cellsOf 24=1:=by kernel_rfl
 obtain⟨l⟩:=cs
 obtain⟨c0,rfl⟩:=uno (show l.length=1 from hsz.trans hC)
 obtain⟨fuel,hf⟩:=h
 obtain⟨ys,n',-,-,-,hyl,hg⟩:=DataW.trod_struct Tryz.underlying24 hf
 obtain⟨y0,rfl⟩:=uno (hyl.trans rfl)
 have f0:=hg 0 _ rfl
 have t0:DataW.trod enc Tryz.prog w base spare held n' 22 [c0]=some y0:=f0
 obtain⟨ns,bp,nb,no,cap,e,hns⟩:=znw t0
 injection e with e
 exact⟨ns,bp,nb,no,cap,by rw[e],hns⟩

open Go.RowKit Go.Fl Go.ChangeShapes Go.WideShapes Go.ChangeAt
theorem ztt:ownKnob Tryz.prog.godebug=none:=by kernel_rfl
theorem zd0:laidOutB Tryz.prog=true:=by kernel_rfl

theorem zn4 {H:Type} {enc:TypeId × Value→H} {P:Program} {f:Func} {s:ChangeSpec} {apart fresh handsOn again:Bool} {W W':World} {args:Array Value} {v:Value} {ds gs:List (DataW H)} {before pa pv:List MemPlace}
  (hW:DataW.Whole enc P f.params.toList s.vars apart W args.toList ds gs before)
  (hres:∀ (b:Nat) (sp:Nat→Bool) (hd:Bool),DataW.TrodAll enc P W' b sp hd f.resultTypes.toList (v.resultList f.resultTypes.size) (s.fn H (ds++gs)).results [])
  (hargs:∀ sp:Nat→Bool,(∀ p∈before,sp p.block=true)→DataW.TrodAll enc P W' 0 sp true f.params.toList args.toList (s.fn H (ds++gs)).args pa)
  (hvars:∀ sp:Nat→Bool,(∀ p∈before,sp p.block=true)→DataW.TrodVars enc P W' sp s.vars (s.fn H (ds++gs)).vars pv)
  (hps:before=pa++pv) (hb:Below W.heap.size W W')
  (hok:∀ (j:Nat) (t:TypeId) (r:Value),f.resultTypes[j]? = some t→(v.resultList f.resultTypes.size)[j]? = some r→Value.okWide P W' .any 0 t r) :
  s.post enc P f apart fresh handsOn again W args v W':=by
 have hold:∀ p∈before,(fun b=>decide (b<W.heap.size)) p.block=true:=fun p hp=>by simpa using hW.lt p hp
 refine⟨ds,gs,before,[],pa,pv,hW,hres _ _ _,hargs _ hold,hvars _ hold,World.keptBut_mono (fun p hp=>⟨hp,?_⟩) (hb.frame (·∈before)),fun _=>?_⟩
 ·rw[hps,List.mem_append]at hp
  exact .inr hp
 ·have hlt:∀ p∈before,p.block<W.heap.size:=fun p hp=>hW.lt p hp
  obtain⟨_,_,_,_,_,hz,hn⟩:=hW
  refine⟨hok,_,_,([]++pa)++pv,⟨[]++pa,pv,trodAll_append (hargs _ (fun _ _=>rfl)) (hres _ _ _),hvars _ (fun _ _=>rfl),rfl,?_,?_⟩,?_⟩
  ·intro b off hp
   have hin:MemPlace.cell b off∈before:=by rw[hps];simpa using hp
   have h1:=hlt _ hin
   rw[hb.frozen h1]
   exact hz b off hin
  ·intro ha
   have:=hn ha
   rw[hps]at this
   simpa using this
  ·intro p hp _
   rw[hps]
   simpa using hp

end Go.Proofs.YtbiacfkiakddiaaGreat

namespace Go.Proofs.YtbiacfkiakddiaaGreat
open Go.RowKit Go.Fl Go.ChangeShapes Go.WideShapes Go.ChangeAt
theorem zxl {a b:Bool} (h:a=true) (k:b=true):(a && b)=true:=by rw[h,k];rfl
theorem six {α:Type} {l:List α} (h:l.length=6):∃ a b c d e f,l=[a,b,c,d,e,f]:=by
 match l,h with
 | [a,b,c,d,e,f],_=>exact⟨a,b,c,d,e,f,rfl⟩
theorem duo {α:Type} {l:List α} (h:l.length=2):∃ a b,l=[a,b]:=by
 match l,h with
 | [a,b],_=>exact⟨a,b,rfl⟩

set_option maxRecDepth 100000 in
theorem zl6 {H:Type} {enc:TypeId × Value→H} {w:World} {base fuel:Nat} {spare:Nat→Bool} {held:Bool} {c0 c1 c2:Value} {x:DataW H × List MemPlace} (h:DataW.trod enc Tryz.prog w base spare held fuel 27 [c0,c1,c2]=some x) :
  ∃ a b c:Nat,c0=F1 a∧c1=F1 b∧c2=F1 c:=by
 obtain⟨ys,n',-,-,-,hyl,hg⟩:=DataW.trod_struct Tryz.underlying27 h
 obtain⟨y0,y1,y2,rfl⟩:=zyi (hyl.trans rfl)
 have t0:DataW.trod enc Tryz.prog w base spare held n' 25 [c0]=some y0:=hg 0 _ rfl
 have t1:DataW.trod enc Tryz.prog w base spare held n' 25 [c1]=some y1:=hg 1 _ rfl
 have t2:DataW.trod enc Tryz.prog w base spare held n' 25 [c2]=some y2:=hg 2 _ rfl
 obtain⟨x,e0⟩:=zed Tryz.underlying25 t0
 obtain⟨y,e1⟩:=zed Tryz.underlying25 t1
 obtain⟨z,e2⟩:=zed Tryz.underlying25 t2
 injection e0 with e0
 injection e1 with e1
 injection e2 with e2
 exact⟨x,y,z,e0,e1,e2⟩

set_option maxRecDepth 100000 in
theorem ztu {H:Type} {enc:TypeId × Value→H} {w:World} {base b0:Nat} {r:Reach} {spare:Nat→Bool} {held:Bool} {v:Value} {d:DataW H} {p:List MemPlace} (hv:Value.okWide Tryz.prog w r b0 29 v) (h:DataW.Trod enc Tryz.prog w base spare held 29 v d p) :
  ∃ a b c d e f:Nat,v=.agg #[F1 a,F1 b,F1 c,F1 d,F1 e,F1 f]:=by
 obtain⟨cs,rfl,hsz⟩:=okWide_struct Tryz.underlying29 hv
 have hC:Tryz.prog.cellsOf 29=6:=by kernel_rfl
 obtain⟨l⟩:=cs
 obtain⟨c0,c1,c2,c3,c4,c5,rfl⟩:=six (show l.length=6 from hsz.trans hC)
 obtain⟨fuel,hf⟩:=h
 obtain⟨ys,n',-,-,-,hyl,hg⟩:=DataW.trod_struct Tryz.underlying29 hf
 obtain⟨y0,y1,rfl⟩:=duo (hyl.trans rfl)
 have t0:DataW.trod enc Tryz.prog w base spare held n' 27 [c0,c1,c2]=some y0:=hg 0 _ rfl
 have t1:DataW.trod enc Tryz.prog w base spare held n' 27 [c3,c4,c5]=some y1:=hg 1 _ rfl
 obtain⟨a,b,c,e0,e1,e2⟩:=zl6 t0
 obtain⟨d',e',f',e3,e4,e5⟩:=zl6 t1
 exact⟨a,b,c,d',e',f',by rw[e0,e1,e2,e3,e4,e5]⟩
end Go.Proofs.YtbiacfkiakddiaaGreat

namespace Go.Proofs.YtbiacfkiakddiaaGreat
open Go.RowKit Go.Fl
def zpm (n:PN) (p:V) (L:List Nat):Nat :=
 if inI n.kind 0 4 then zmr n p.1 p.2.1 p.2.2
 else if inI n.kind 5 8 then zrn n (L.getD n.a.toNat 0) (L.getD n.b.toNat 0)
 else zrn n (L.getD n.a.toNat 0) 0
def zcb (ns:List PN) (C:Nat→V):Nat→List Nat
 | 0=>[]
 | m+1=>match ns[m]? with
  | none=>zcb ns C m
  | some n=>zcb ns C m++[zpm n (C m) (zcb ns C m)]

theorem zdt:(Tryz.prog.info? 25).map (fun i=>(i.zero,i.size,i.bytes))=some (some (F1 0),1,4):=by kernel_rfl

theorem yg {W w':World} {base:Nat} {e:TypeId} {size:Nat} {v:Value} {n:Nat} {xs:List Value} (h:W.ownsRow base e size v n xs) (hb:Below W.heap.size W w'):w'.ownsRow base e size v n xs :=
 World.ownsRow.kept (row:=none) h ⟨hb.os,hb.tape,hb.output,hb.size,fun k hk _=>hb.block k hk⟩ (by cases v<;>simp[Value.ownBlock]<;>rename_i p _ _<;>cases p<;>simp[Value.ownBlock])

abbrev fl (xs:List Nat):List Value:=xs.map F1

theorem zjl {ops:Array Oper} {rest:List Oper} {o:Oper} {a:Act} {Q:Exit→Act→World→Prop} {W:World} (base:Nat) (hgd:o.guard=none) (s x:Operand)
  (ho:o.op=.call { callee:=.builtin .append,args:=#[s,x],argTypes:=#[140,140] })
  (v:Value) (m:Nat) (xs:List Nat) (hs:a.eval s=v) (hown:W.ownsRow base 25 1 v m (fl xs)) (gn r:Nat) (hx:a.eval x=.slice (some ⟨gn,0,none⟩) 1 1) (hcell:W.cell? ⟨gn,0,none⟩=some (F1 r))
  (hm:m≤1000) (hbase:base≤W.heap.size)
  (h:∀ v' w',w'.ownsRow base 25 1 v' (m+1) (fl (xs++[r]))→W.grownBy w' v.ownBlock→wpList Tryz.prog ops Q rest (a.put o.dst v') w'):wpList Tryz.prog ops Q (o::rest) a W:=by
 obtain⟨i0,hi,hz0,hz1,hz2⟩:=info_parts zdt
 refine wpList_append_own _ hgd s x 140 ho base 25 i0 (F1 0) 1 4 Tryz.underlying140 hi hz0 hz1 hz2 rfl (by decide) v m (fl xs) hs hown ⟨gn,0,none⟩ 1 1 [F1 r] hx rfl ?_ ?_ (by unfold maxLen;omega) (by omega) hbase ?_
 ·intro j u hu
  cases j with
  | zero=>simp at hu;subst hu;exact hcell
  | succ j=>simp at hu
 ·intro u hu
  simp at hu
  subst hu
  rfl
 ·intro v' w' h1 h2 _
  refine h v' w' ?_ h2
  simpa [fl] using h1

theorem ud {W w':World} {base g:Nat} {v:Value} {m:Nat} {xs:List Value} {e:TypeId} {size:Nat} {o:Obj} (hown:W.ownsRow base e size v m xs) (hg:W.grownBy w' v.ownBlock) (hgb:g<base) (hgs:g<W.heap.size) (h:W.heap[g]? = some o):w'.heap[g]? = some o:=by
 rw[hg.block g hgs (fun e=>by have:=(hown.lt g e.symm).1;omega)];exact h

theorem yx {w W w':World} {base:Nat} {v:Value} {m:Nat} {xs:List Value} {e:TypeId} {size:Nat} (hb:Below w.heap.size w W) (hown:W.ownsRow base e size v m xs) (hg:W.grownBy w' v.ownBlock) (hbase:w.heap.size≤base):Below w.heap.size w w' :=
 hb.grown hg hb.size (fun k hk=>by have:=(hown.lt k hk).1;omega)

inductive PhiM (E0:Nat):FuncId→Array Value→Value→Prop
 | mix (args:Array Value) (r:Nat) (h:cn .f32 r=E0):PhiM E0 231 args (F1 r)
def zy4 (E0:Nat) (v:Value):Prop:=∃ r,v=F1 r∧cn .f32 r=E0

def zy0 (ns:List PN) (C:Nat→V) (w:World) (e:Ending) (w':World):Prop :=
 ∃ v xs,e=.returned v∧w'.ownsRow w.heap.size 25 1 v ns.length (fl xs)∧xs.map (cn .f32)=zcb ns C ns.length∧Below w.heap.size w w'

set_option maxRecDepth 100000 in
theorem zsa (ns:List PN) (hok:qx ns) (hl:1≤ns.length∧ns.length≤16) (sb so nb no cap x y z:Nat) (w:World) (hsh:ShapeIn ns sb so nb no cap w) :
  Calls Tryz.prog 146 #[.pointer (some ⟨sb,so,none⟩),V3 x y z] w (zy0 ns (zcg ns (cn .f32 x,cn .f32 y,cn .f32 z) ns.length) w):=by
 have hlist:=hsh.list
 have hsb:sb<w.heap.size:=zg (a:=⟨sb,so,none⟩) (by rw[hlist];rfl)
 obtain⟨i0,hi,hz0,hz1,hz2⟩:=info_parts zdt
 go_enter Tryz.func146,Tryz.ntmps146
 go_wp2_with fail
 have W1b:Below w.heap.size w (w.alloc (.cells #[F1 x,F1 y,F1 z] 38)):=(by repeat' (first|exact zi _ _|refine zd ?_ _|refine Below.alloc ?_ (by simp<;>omega) _|refine zj ?_ (by simp<;>omega) _|refine za ?_ ‹_›))

 have hsh1:=hsh.keep W1b
 generalize w.alloc (.cells #[F1 x,F1 y,F1 z] 38)=W1 at *
 refine (zjp ns hok hl sb so nb no cap x y z W1 hsh1).mono ?_
 rintro _ w2⟨g,P,rfl,hpar,hC,hb2,hg⟩
 have W2b:=za W1b hb2
 have hgw:w.heap.size≤g:=Nat.le_trans W1b.size hg
 generalize zcg ns (cn .f32 x,cn .f32 y,cn .f32 z) ns.length=C at *
 have hgl:g<w2.heap.size:=(Array.getElem?_eq_some_iff.1 hpar).1
 have hw2:=W2b.size
 clear hb2 hsh1 hg W1b
 go_wp2_with fail
 go_loopw [6,7] (fun v i wr=>∃ (m:Nat) (xs:List Nat),m≤ns.length∧i=.int .i64 (m:Int)∧w2.heap.size≤wr.heap.size∧wr.ownsRow w2.heap.size 25 1 v m (fl xs)∧xs.map (cn .f32)=zcb ns C m∧wr.heap[g]? = some (.cells (zbg ns.length P) 38 (0,0))∧Below w.heap.size w wr) (fun _ i _=>ns.length-(intOf i).toNat)
 case atStart =>
  refine⟨0,[],by omega,rfl,by simp,World.ownsRow_lit w2 #[] 0 (Nat.le_refl _) (by unfold maxLen;omega) rfl,rfl,?_,W2b.alloc W2b.size _⟩
  have hgl:=(Array.getElem?_eq_some_iff.1 hpar).1
  rw[show (w2.alloc (.cells #[] 25)).heap=w2.heap.push (.cells #[] 25) from rfl,Array.getElem?_push_lt hgl,← Array.getElem?_eq_getElem hgl];exact hpar
 case round =>
  obtain⟨m,xs,hm,rfl,hsz,hown,hxs,hpar',Wb⟩:=hrel
  clear hpar W2b
  by_cases hlt:m<ns.length
  ·have hlt':(m:Int)<(ns.length:Int):=by omega
   have h0:(0:Int)≤(m:Int):=by omega
   have hn:=(hsh.node m hlt).keep Wb
   have hSr:=(hsh.keep Wb).list
   obtain⟨hokn,hca,hcb⟩:=hok m hlt
   have hall:zcb ns C (m+1)=zcb ns C m++[zpm ns[m] (C m) (zcb ns C m)]:=by rw[zcb,List.getElem?_eq_getElem hlt]
   obtain⟨hki1,hki2⟩:=zb4 hokn.kind
   generalize ns[m]=n at *
   have hleaf:∀ (w:World),Calls Tryz.prog 119 #[.int .i64 n.kind] w (fun e w'=>e=.returned (.bool (inI n.kind 0 4))∧w=w'):=fun w=>kp _ w
   have htwo:∀ (w:World),Calls Tryz.prog 120 #[.int .i64 n.kind] w (fun e w'=>e=.returned (.bool (inI n.kind 5 8))∧w=w'):=fun w=>zah _ w
   have hkind:=hn.kind
   obtain⟨p0,p1,p2⟩:=zeo hpar' m hlt
   have hlen:xs.length=m:=by have:=hown.1;simpa using this
   have hCm:=hC m
   have hHC:=Lib.hid hC
   have hHall:=Lib.hid hall
   have hHxs:=Lib.hid hxs
   clear hC hall hxs
   cases hlf:inI n.kind 0 4
   ·rw[hlf]at hki1
    have hne:(zz n.kind).2.1 ≠ 0:=by simpa using hki1.symm
    obtain⟨ca,hcaI⟩:=Int.eq_ofNat_of_zero_le (hca hne).1
    have hcal:ca<m:=by have:=(hca hne).2;omega
    have hcaL:(ca:Int)<(m:Int):=by omega
    obtain⟨g6,cap6,rfl,hg6,hg6s⟩:=hown.form (by omega)
    have hA:=hn.a
    rw[hcaI]at hA
    have hcA:=hown.cellAt ca (by omega)
    rw[show (fl xs)[ca]? = some (F1 xs[ca]) by simp[fl]]at hcA
    have hHa:Hid (n.a.toNat=ca):=by unfold Hid;rw[hcaI];rfl
    have hHki2:=Lib.hid hki2
    have hgetA:Hid ((zcb ns C m).getD ca 0=cn .f32 xs[ca]):=by unfold Hid;rw[← hHxs.out,List.getD_eq_getElem?_getD,List.getElem?_map,List.getElem?_eq_getElem (show ca<xs.length by omega)];rfl
    have hxa:xs[ca]=xs[ca]:=rfl
    generalize xs[ca]=va at hcA hgetA
    clear hki1 hki2 hcaI hxa p0 p1 p2
    cases htw:inI n.kind 5 8
    ·clear hcb
     go_wp2_with (first
      | (go_at_call 119;refine (hleaf _).mono ?_;rintro _ w4⟨rfl,rfl⟩;rw[hlf])
      | (go_at_call 120;refine (htwo _).mono ?_;rintro _ w4⟨rfl,rfl⟩;rw[htw])
      | (go_at_call 231;refine (zfv hn hokn hne _ _).mono ?_;rintro _ w4⟨r,rfl,hr,hb4⟩;have hown4:=yg hown hb4)
      | (at_builtin;refine zjl w2.heap.size rfl (.tmp 28) (.tmp 38) rfl _ m xs rfl (hown4.alloc _) w4.heap.size r rfl (by simp) (by omega) (by have:=hb4.size;simp;omega) ?_;intro v5 w5 hown5 hg5))
     have hb5:=hb4.size
     have hg5s:=hg5.size
     rw[show (w4.alloc (.cells #[F1 r] 25)).heap.size=w4.heap.size+1 by simp]at hg5s
     refine⟨⟨m+1,xs++[r],by omega,by simp,by omega,hown5,?_,?_,yx ((za Wb hb4).alloc (by have:=Wb.size;omega) _) (hown4.alloc _) hg5 hw2⟩,by simp[intOf];omega⟩
     ·rw[List.map_append,hHxs.out,hHall.out,zpm,hlf,htw,hHa.out,hgetA.out]
      simp only[List.map_cons,List.map_nil,hr,ye]
      rfl
     ·refine ud (hown4.alloc _) hg5 hgl (by simp;omega) ?_
      have h1:=hb4.block g (by omega)
      rw[show (w4.alloc (.cells #[F1 r] 25)).heap=w4.heap.push (.cells #[F1 r] 25) from rfl,Array.getElem?_push_lt (by omega),← Array.getElem?_eq_getElem (by omega),h1];exact hpar'
    ·have hbb:=hcb (by have:=hHki2.out;rw[htw]at this;simpa using this.symm)
     obtain⟨cb,hcbI⟩:=Int.eq_ofNat_of_zero_le hbb.1
     have hcbl:cb<m:=by omega
     have hcbL:(cb:Int)<(m:Int):=by omega
     have hB:=hn.b
     rw[hcbI]at hB
     have hcB:=hown.cellAt cb (by omega)
     rw[show (fl xs)[cb]? = some (F1 xs[cb]) by simp[fl]]at hcB
     have hHb:Hid (n.b.toNat=cb):=by unfold Hid;rw[hcbI];rfl
     have hgetB:Hid ((zcb ns C m).getD cb 0=cn .f32 xs[cb]):=by unfold Hid;rw[← hHxs.out,List.getD_eq_getElem?_getD,List.getElem?_map,List.getElem?_eq_getElem (show cb<xs.length by omega)];rfl
     generalize xs[cb]=vb at hcB hgetB
     have hkept:zc [(⟨nb,no+m*4+1,none⟩,.int .i64 (ca:Int)),(⟨nb,no+m*4+2,none⟩,.int .i64 (cb:Int)),(⟨g6,ca,none⟩,F1 va),(⟨g6,cb,none⟩,F1 vb)] [] wr:=by
      simp only[zc,ka,kb,zb,kfa,kga]
      exact⟨hA,hB,hcA,hcB⟩
     clear hcb hbb hcbI hA hB hcA hcB
     go_upto_region 11 with (first
      | (go_at_call 119;refine (hleaf _).mono ?_;rintro _ w4⟨rfl,rfl⟩;rw[hlf])
      | (go_at_call 120;refine (htwo _).mono ?_;rintro _ w4⟨rfl,rfl⟩;rw[htw]))
     clear hkind
     refine Qr.wp_madeS 18 17 16 78 77 (zy4 (zrn n (cn .f32 va) (cn .f32 vb))) 25 (by kernel_rfl) (by kernel_rfl) (PhiM (zrn n (cn .f32 va) (cn .f32 vb))) ⟨by show 78<81;decide,by show 77<81;decide⟩ (by kernel_rfl) (by kernel_rfl)
      ⟨_,rfl,by kernel_rfl,rfl,?_⟩ ⟨_,rfl,rfl,fun a w=>⟨_,_,by go_simp;exact⟨rfl,rfl⟩⟩⟩ ⟨_,rfl,by kernel_rfl⟩ (fun f args v h=>by obtain⟨_,r,hr⟩:=h;exact⟨r,rfl,hr⟩) (by kernel_rfl) ?_
     ·intro a w v hv he
      obtain⟨r,rfl,_⟩:=hv
      have he':a.tmps[77]?.getD undef=F1 r:=by rw[← Array.getD_eq_getD_getElem?];exact he
      clear he
      go_simp
     repeat (first|(refine Qr.walk_plain rfl fun K hK=>?_;apply Qr.one_det;(focus (intro w' hw';have HK:=keep hkept hw';simp only[zc,ka,kb,zb,kfa,kga]at HK;go_simp;first|done|rfl));go_simp;refine hK _ ?_;clear hK K)|(refine Qr.walk_plain rfl fun K hK=>?_;apply Qr.one_call;(focus (intro w' hw';go_simp;first|done|exact⟨rfl,rfl⟩));(focus (intro w' hw'; go_at_call 231;refine (zfv (hn.keep hw') hokn hne _ _).mono ?_;rintro _ w2⟨r1,rfl,hr1,hb1⟩;exact⟨_,rfl,PhiM.mix _ _ hr1,za hw' ‹_›,by assumption⟩));intro v hv;obtain⟨_,r1,hr1⟩:=hv;go_simp;refine hK _ ?_;clear hK K)|(refine Qr.walk_plain rfl fun K hK=>?_;refine Qr.one_rel (fun v=>∃ gs,v=.slice (some ⟨gs,0,none⟩) 1 1) (fun w' hw'=>⟨.slice (some ⟨w'.heap.size,0,none⟩) 1 1,_,by go_simp;rfl,⟨_,rfl⟩,hw'.alloc hw'.size _,zt ..⟩) (fun v hv=>?_);obtain⟨gs,rfl⟩:=hv;go_simp;refine hK _ ?_;clear hK K))
     refine Qr.walk_nil fun w6 hw6 hmade=>?_
     obtain⟨g7,v7,e1,hg7,⟨r7,rfl,hr7⟩,hcell⟩:=hmade
     have e2:Value.slice (some ⟨gs,0,none⟩) 1 1=.slice (some ⟨g7,0,none⟩) 1 1:=e1
     injection e2 with e2
     injection e2 with e2
     injection e2 with e2
     subst e2
     clear e1
     have hc7:w6.cell? ⟨gs,0,none⟩=some (F1 r7):=by simp[World.cell?,hcell]
     have hown6:=yg hown hw6
     have hb6:=hw6.size
     clear hcell hkept hn hSr
     go_simp
     refine zjl w2.heap.size rfl (.tmp 61) (.tmp 78) rfl _ m xs rfl hown6 gs r7 rfl hc7 (by omega) (by omega) ?_
     intro v5 w5 hown5 hg5
     go_wp2_with fail
     have hg5s:=hg5.size
     refine⟨⟨m+1,xs++[r7],by omega,by simp,by omega,hown5,?_,?_,yx (za Wb hw6) hown6 hg5 hw2⟩,by simp[intOf];omega⟩
     ·rw[List.map_append,hHxs.out,hHall.out,zpm,hlf,htw,hHa.out,hgetA.out,hHb.out,hgetB.out]
      simp only[List.map_cons,List.map_nil,hr7]
      rfl
     ·refine ud hown6 hg5 hgl (by omega) ?_
      rw[hw6.block g (by omega)];exact hpar'
   ·have hc0:(zz n.kind).2.1=0:=by rw[hlf]at hki1;simpa using hki1.symm
    have hHc0:=Lib.hid hc0
    clear hki1 hki2 hca hcb hc0
    go_wp2_with (first
     | (go_at_call 119;refine (hleaf _).mono ?_;rintro _ w4⟨rfl,rfl⟩;rw[hlf])
     | (go_at_call 196;refine (znd hn hokn hHc0.out _ _ _).mono ?_;rintro _ w4⟨r,rfl,hr,hb4⟩;have hown4:=yg hown hb4)
     | (at_builtin;refine zjl w2.heap.size rfl (.tmp 46) (.tmp 53) rfl _ m xs rfl (hown4.alloc _) w4.heap.size r rfl (by simp) (by omega) (by have:=hb4.size;simp;omega) ?_;intro v5 w5 hown5 hg5))
    have hb5:=hb4.size
    have hg5s:=hg5.size
    rw[show (w4.alloc (.cells #[F1 r] 25)).heap.size=w4.heap.size+1 by simp]at hg5s
    refine⟨⟨m+1,xs++[r],by omega,by simp,by omega,hown5,?_,?_,yx ((za Wb hb4).alloc (by have:=Wb.size;omega) _) (hown4.alloc _) hg5 hw2⟩,by simp[intOf];omega⟩
    ·rw[List.map_append,hHxs.out,hHall.out,zpm,hlf,if_pos rfl,← hCm]
     simp only[List.map_cons,List.map_nil,hr]
     rfl
    ·refine ud (hown4.alloc _) hg5 hgl (by simp;omega) ?_
     have h1:=hb4.block g (by omega)
     rw[show (w4.alloc (.cells #[F1 r] 25)).heap=w4.heap.push (.cells #[F1 r] 25) from rfl,Array.getElem?_push_lt (by omega),← Array.getElem?_eq_getElem (by omega),h1];exact hpar'
  ·obtain rfl:m=ns.length:=by omega
   have hHxs:=Lib.hid hxs
   have hSr:=(hsh.keep Wb).list
   clear hxs hsh hok
   go_wp2_with fail
   go_ret
   exact⟨_,xs,rfl,World.ownsRow.mono hown hw2,hHxs.out,Wb⟩
end Go.Proofs.YtbiacfkiakddiaaGreat
