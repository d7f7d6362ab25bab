/-
  Lemmas: V15,V22,V24,U3,U6,C4,U7,U8,U10,C5,V16.
-/
import Derived.Test.YtbiacfkiakddiaaGreatXbi
import Derived.Test.YtbiacfkiakddiaaGreatXbk
set_option linter.unusedVariables false
set_option linter.unusedSimpArgs false
namespace Go.Proofs.YtbiacfkiakddiaaGreat
open Go.RowKit Go.Fl
def ztw (box:Nat→Nat→Nat→Nat→Nat→Nat→Nat) (n:PN) (x y z:Nat × Nat):Nat × Nat :=
  match n.kind,n.nums.map (cn .f32) with
  | 0,[r]=>zdi (fun x y z=>zdg x y z r) x y z
  | 1,[u,v,t]=>zdi (fun x y z=>box x y z u v t) x y z
  | 2,[h,r]=>uf (zal x (zb6 (fun y=>zbv y h) y) z) r
  | 3,[u,r]=>uf (zal (uf (zal x (cn .f32 0,cn .f32 0) z) u) y (cn .f32 0,cn .f32 0)) r
  | 4,[a,b,c,d]=>uf (zbn (zbn (xw x a) (xw y b)) (xw z c)) d
  | _,_=>(0,0)

theorem ve {w:World}:zc [] [] w:=kof (fun p h=>by cases h)
theorem zm {a:Addr} {v:Value} {l:List (Addr × Value)} {w:World} (h:w.cell? a=some v) (t:zc l [] w):zc ((a,v)::l) [] w :=
  kof (fun p hp=>by
    rcases List.mem_cons.1 hp with rfl|hp
    · exact h
    · exact t.1 p hp)

theorem zoh {n:PN} {b o:Nat} {w:World} (hn:NodeIn n b o w) (hok:n.ok) (hc:(zz n.kind).2.1=0) (x0 x1 y0 y1 z0 z1:Nat) :
    Calls Tryz.prog 135 #[.pointer (some ⟨b,o,none⟩),Rg3 x0 x1 y0 y1 z0 z1] w (x6 (za5 (x9 (cn .f32 x0,cn .f32 x1) && x9 (cn .f32 y0,cn .f32 y1) && x9 (cn .f32 z0,cn .f32 z1)) (ztw zce n (cn .f32 x0,cn .f32 x1) (cn .f32 y0,cn .f32 y1) (cn .f32 z0,cn .f32 z1))) w):=by
  obtain⟨bp,bv,ov,cap,h1,h2,h3⟩:=hn.nums
  have hk:=hn.kind
  have hr:=hok.kind
  have hl:=hok.nums
  obtain⟨k,na,nb,nums⟩:=n
  simp only at *
  have:k=0∨k=1∨k=2∨k=3∨k=4∨k=5∨k=6∨k=7∨k=8∨k=9∨k=10∨k=11∨k=12∨k=13∨k=14∨k=15∨k=16:=by omega
  rcases this with h|h|h|h|h|h|h|h|h|h|h|h|h|h|h|h|h<;>subst h
  · obtain⟨r,rfl⟩:=uv hl
    have:=h2 (by simp)
    subst this
    exact zod (zm hk (zm h1 (zm (h3 0 (by simp)) ve)))
  · obtain⟨r,s,t,rfl⟩:=zdl hl
    have:=h2 (by simp)
    subst this
    exact zr9 (zm hk (zm h1 (zm (h3 0 (by simp)) (zm (h3 1 (by simp)) (zm (h3 2 (by simp)) ve)))))
  · obtain⟨r,s,rfl⟩:=zhm hl
    have:=h2 (by simp)
    subst this
    exact zo5 (zm hk (zm h1 (zm (h3 0 (by simp)) (zm (h3 1 (by simp)) ve))))
  · obtain⟨r,s,rfl⟩:=zhm hl
    have:=h2 (by simp)
    subst this
    exact zpj (zm hk (zm h1 (zm (h3 0 (by simp)) (zm (h3 1 (by simp)) ve))))
  · obtain⟨r,s,t,u,rfl⟩:=zuw hl
    have:=h2 (by simp)
    subst this
    exact znk (zm hk (zm h1 (zm (h3 0 (by simp)) (zm (h3 1 (by simp)) (zm (h3 2 (by simp)) (zm (h3 3 (by simp)) ve))))))
  all_goals exact absurd hc (by decide)

def zfl (c p x0 x1 y0 y1 z0 z1:Nat) (w:World):Prop:=∀ q∈[((⟨c,p,none⟩:Addr),F1 x0),(⟨c,p+1,none⟩,F1 x1),(⟨c,p+2,none⟩,F1 y0),(⟨c,p+3,none⟩,F1 y1),(⟨c,p+4,none⟩,F1 z0),(⟨c,p+5,none⟩,F1 z1)],w.cell? q.1=some q.2

theorem zj8 {n:PN} {b o c p:Nat} {w:World} (hn:NodeIn n b o w) (hok:n.ok) (hc:(zz n.kind).2.1=0) (x0 x1 y0 y1 z0 z1:Nat) (hs:zfl c p x0 x1 y0 y1 z0 z1 w) :
    Calls Tryz.prog 123 #[.pointer (some ⟨b,o,none⟩),.pointer (some ⟨c,p,none⟩)] w (x6 (ztw ja n (cn .f32 x0,cn .f32 x1) (cn .f32 y0,cn .f32 y1) (cn .f32 z0,cn .f32 z1)) w):=by
  obtain⟨bp,bv,ov,cap,h1,h2,h3⟩:=hn.nums
  have hk:=hn.kind
  have hr:=hok.kind
  have hl:=hok.nums
  obtain⟨k,na,nb,nums⟩:=n
  simp only at *
  have s1:=hs _ (.head _)
  have s2:=hs _ (.tail _ (.head _))
  have s3:=hs _ (.tail _ (.tail _ (.head _)))
  have s4:=hs _ (.tail _ (.tail _ (.tail _ (.head _))))
  have s5:=hs _ (.tail _ (.tail _ (.tail _ (.tail _ (.head _)))))
  have s6:=hs _ (.tail _ (.tail _ (.tail _ (.tail _ (.tail _ (.head _))))))
  have:k=0∨k=1∨k=2∨k=3∨k=4∨k=5∨k=6∨k=7∨k=8∨k=9∨k=10∨k=11∨k=12∨k=13∨k=14∨k=15∨k=16:=by omega
  rcases this with h|h|h|h|h|h|h|h|h|h|h|h|h|h|h|h|h<;>subst h
  · obtain⟨r,rfl⟩:=uv hl
    have:=h2 (by simp)
    subst this
    exact zkn (zm hk (zm h1 (zm (h3 0 (by simp)) (zm s1 (zm s2 (zm s3 (zm s4 (zm s5 (zm s6 ve)))))))))
  · obtain⟨r,s,t,rfl⟩:=zdl hl
    have:=h2 (by simp)
    subst this
    exact zmz (zm hk (zm h1 (zm (h3 0 (by simp)) (zm (h3 1 (by simp)) (zm (h3 2 (by simp)) (zm s1 (zm s2 (zm s3 (zm s4 (zm s5 (zm s6 ve)))))))))))
  · obtain⟨r,s,rfl⟩:=zhm hl
    have:=h2 (by simp)
    subst this
    exact zjo (zm hk (zm h1 (zm (h3 0 (by simp)) (zm (h3 1 (by simp)) (zm s1 (zm s2 (zm s3 (zm s4 (zm s5 (zm s6 ve))))))))))
  · obtain⟨r,s,rfl⟩:=zhm hl
    have:=h2 (by simp)
    subst this
    exact zi6 (zm hk (zm h1 (zm (h3 0 (by simp)) (zm (h3 1 (by simp)) (zm s1 (zm s2 (zm s3 (zm s4 (zm s5 (zm s6 ve))))))))))
  · obtain⟨r,s,t,u,rfl⟩:=zuw hl
    have:=h2 (by simp)
    subst this
    exact zhz (zm hk (zm h1 (zm (h3 0 (by simp)) (zm (h3 1 (by simp)) (zm (h3 2 (by simp)) (zm (h3 3 (by simp)) (zm s1 (zm s2 (zm s3 (zm s4 (zm s5 (zm s6 ve))))))))))))
  all_goals exact absurd hc (by decide)
abbrev Pl:=(Nat × Nat) × (Nat × Nat) × (Nat × Nat)
def uq (v:Nat) (r:Nat × Nat):Nat × Nat:=zb6 (fun x=>B .quo x v) r
def znv (b:Int) (g:Nat × Nat→Nat × Nat) (p:Pl):Pl:=if b=0 then (g p.1,p.2.1,p.2.2) else if b=1 then (p.1,g p.2.1,p.2.2) else (p.1,p.2.1,g p.2.2)
def zb3 (t:Nat) (i j:Nat × Nat):Nat × Nat:=zbn (xw i (jr (B .sub 1048576000 t))) (xw j (jr t))
def zdd (t:Nat) (i j:Nat × Nat):Nat × Nat:=jm (xw j (jr (B .sub 1048576000 t))) (xw i (jr t))
def ztx (b:Int) (t:Nat) (p:Pl):Pl:=if b=0 then (p.1,zb3 t p.2.1 p.2.2,zdd t p.2.1 p.2.2) else if b=1 then (zdd t p.2.2 p.1,p.2.1,zb3 t p.2.2 p.1) else (zb3 t p.1 p.2.1,zdd t p.1 p.2.1,p.2.2)

def k0 (fold:Nat × Nat→Nat→Nat × Nat) (n:PN) (p:Pl):Pl :=
  match n.kind,n.nums.map (cn .f32) with
  | 9,[a,b,c]=>(uf p.1 a,uf p.2.1 b,uf p.2.2 c)
  | 10,[a]=>(uq a p.1,uq a p.2.1,uq a p.2.2)
  | 11,[a,b,c]=>(uq a p.1,uq b p.2.1,uq c p.2.2)
  | 12,[t]=>ztx n.b t p
  | 13,_=>znv n.b yz p
  | 14,[s]=>znv n.b (fun r=>fold r s) p
  | _,_=>p

def vv (P:Nat→Pl) (c:Nat) (v:Pl):Nat→Pl:=fun i=>if i=c then v else P i
def za2 (fold:Nat × Nat→Nat→Nat × Nat) (n:PN) (i:Nat) (C:Nat→Pl):Nat→Pl :=
  match (zz n.kind).2.1 with
  | 0=>C
  | 1=>vv C n.a.toNat (k0 fold n (C i))
  | _=>vv (vv C n.a.toNat (C i)) n.b.toNat (C i)
def qw (fold:Nat × Nat→Nat→Nat × Nat) (ns:List PN) (p:Pl):Nat→(Nat→Pl)
  | 0=>vv (fun _=>((0,0),(0,0),(0,0))) (ns.length-1) p
  | d+1=>match ns[ns.length-1-d]? with
    | none=>qw fold ns p d
    | some n=>za2 fold n (ns.length-1-d) (qw fold ns p d)
def zqy (p:Pl):Bool:=x9 p.1 && x9 p.2.1 && x9 p.2.2
def xj (r:Nat × Nat):Nat × Nat:=if jq r.1 || jq r.2 then (zaz,kl) else r
def k7 (box:Nat→Nat→Nat→Nat→Nat→Nat→Nat) (n:PN) (p:Pl) (l:List (Nat × Nat)):Nat × Nat :=
  match (zz n.kind).2.1 with
  | 0=>za5 (zqy p) (ztw box n p.1 p.2.1 p.2.2)
  | 1=>zss n (l.getD n.a.toNat (0,0)) (0,0)
  | _=>zss n (l.getD n.a.toNat (0,0)) (l.getD n.b.toNat (0,0))
def uu (box:Nat→Nat→Nat→Nat→Nat→Nat→Nat) (ns:List PN) (C:Nat→Pl):Nat→List (Nat × Nat)
  | 0=>[]
  | m+1=>match ns[m]? with
    | none=>uu box ns C m
    | some n=>uu box ns C m++[xj (k7 box n (C m) (uu box ns C m))]
def za3 (ns:List PN) (p:Pl):List (Nat × Nat):=uu zce ns (qw vl ns p ns.length) ns.length
def j9 (ns:List PN) (p:Pl):List (Nat × Nat):=uu ja ns (qw xl ns p ns.length) ns.length
def zm8 (p:Pl) (j:Nat):Value:=if j=0 then F1 p.1.1 else if j=1 then F1 p.1.2 else if j=2 then F1 p.2.1.1 else if j=3 then F1 p.2.1.2 else if j=4 then F1 p.2.2.1 else F1 p.2.2.2
def jb (n:Nat) (P:Nat→Pl):Array Value:=Array.ofFn (n:=6*n) fun k=>zm8 (P (k.val / 6)) (k.val % 6)
def cn6 (p:Pl):Pl:=((cn .f32 p.1.1,cn .f32 p.1.2),(cn .f32 p.2.1.1,cn .f32 p.2.1.2),(cn .f32 p.2.2.1,cn .f32 p.2.2.2))
def qo:Pl:=((0,0),(0,0),(0,0))

theorem vi {w:World} {g n:Nat} {P:Nat→Pl} {T:TypeId} (h:w.heap[g]? = some (.cells (jb n P) T (0,0))) (i:Nat) (hi:i<n) :
    w.cell? ⟨g,i*6,none⟩=some (F1 (P i).1.1)∧w.cell? ⟨g,i*6+1,none⟩=some (F1 (P i).1.2)∧w.cell? ⟨g,i*6+2,none⟩=some (F1 (P i).2.1.1)∧w.cell? ⟨g,i*6+3,none⟩=some (F1 (P i).2.1.2)∧w.cell? ⟨g,i*6+4,none⟩=some (F1 (P i).2.2.1)∧w.cell? ⟨g,i*6+5,none⟩=some (F1 (P i).2.2.2):=by
  have key:∀ j,j<6→w.cell? ⟨g,i*6+j,none⟩=some (zm8 (P i) j):=fun j hj=>by
    have hlt:i*6+j<6*n:=by omega
    have e1:(i*6+j) / 6=i:=by omega
    have e2:(i*6+j) % 6=j:=by omega
    simp[World.cell?,h,jb,hlt,e1,e2]
  exact⟨key 0 (by omega),key 1 (by omega),key 2 (by omega),key 3 (by omega),key 4 (by omega),key 5 (by omega)⟩

theorem vk {w:World} {g n:Nat} {P:Nat→Pl} {T:TypeId} (h:w.heap[g]? = some (.cells (jb n P) T (0,0))) (o:Nat):w.frozen? ⟨g,o,none⟩=false:=by
  simp[World.frozen?,h]

theorem zly (n:Nat) (P:Nat→Pl) (k:Nat) (h:k<(jb n P).size):(jb n P)[k]=zm8 (P (k / 6)) (k % 6):=by simp[jb]
def zwg (p:Pl) (j:Nat) (x:Nat):Pl :=
  if j=0 then ((x,p.1.2),p.2.1,p.2.2) else if j=1 then ((p.1.1,x),p.2.1,p.2.2) else if j=2 then (p.1,(x,p.2.1.2),p.2.2) else if j=3 then (p.1,(p.2.1.1,x),p.2.2) else if j=4 then (p.1,p.2.1,(x,p.2.2.2)) else (p.1,p.2.1,(p.2.2.1,x))
theorem zlf (p:Pl) (j x k:Nat) (hj:j<6) (hk:k<6):zm8 (zwg p j x) k=if k=j then F1 x else zm8 p k:=by
  have h1:j=0∨j=1∨j=2∨j=3∨j=4∨j=5:=by omega
  have h2:k=0∨k=1∨k=2∨k=3∨k=4∨k=5:=by omega
  rcases h1 with rfl|rfl|rfl|rfl|rfl|rfl<;>rcases h2 with rfl|rfl|rfl|rfl|rfl|rfl<;>rfl
theorem zru (n:Nat) (P:Nat→Pl) (c j x:Nat) (hj:j<6):(jb n P).setIfInBounds (c*6+j) (F1 x)=jb n (vv P c (zwg (P c) j x)):=by
  refine Array.ext (by simp[jb]) fun k h1 h2=>?_
  have hk:k<6*n:=by simpa [jb] using h2
  rw[Array.getElem_setIfInBounds (by simpa [jb] using hk),zly,zly]
  unfold vv
  by_cases e:c*6+j=k
  · have e1:k / 6=c:=by omega
    have e2:k % 6=j:=by omega
    rw[if_pos e,e1,e2,if_pos rfl,zlf _ _ _ _ hj hj,if_pos rfl]
  · rw[if_neg e]
    by_cases e1:k / 6=c
    · have e2:k % 6 ≠ j:=by omega
      rw[e1,if_pos rfl,zlf _ _ _ _ hj (by omega),if_neg e2]
    · rw[if_neg e1]

theorem zge {w:World} {g:Nat} {A:Array Value} {T:TypeId} (h:w.heap[g]? = some (.cells A T (0,0))) (o:Nat) (x:Value):(w.setCell ⟨g,o,none⟩ x).heap[g]? = some (.cells (A.setIfInBounds o x) T (0,0)):=by
  simp only[World.setCell,Array.getElem?_modify,if_true,h,Option.map_some]
  rfl
theorem zir (P:Nat→Pl) (c:Nat) (u v:Pl):vv (vv P c u) c v=vv P c v:=by
  funext i;unfold vv;split<;>rfl
theorem zsg (P:Nat→Pl) (c:Nat) (u:Pl):vv P c u c=u:=by unfold vv;rw[if_pos rfl]
theorem zt6 {w:World} {g n:Nat} {P:Nat→Pl} {T:TypeId} (h:w.heap[g]? = some (.cells (jb n P) T (0,0))) (c j x:Nat) (hj:j<6):(w.setCell ⟨g,c*6+j,none⟩ (F1 x)).heap[g]? = some (.cells (jb n (vv P c (zwg (P c) j x))) T (0,0)):=by
  rw[← zru n P c j x hj];exact zge h _ _
theorem zao {w:World} {g n:Nat} {P:Nat→Pl} {T:TypeId} {c:Nat} {p:Pl} (h:w.heap[g]? = some (.cells (jb n (vv P c p)) T (0,0))) (j x:Nat) (hj:j<6):(w.setCell ⟨g,c*6+j,none⟩ (F1 x)).heap[g]? = some (.cells (jb n (vv P c (zwg p j x))) T (0,0)):=by
  have:=zt6 h c j x hj
  rwa [zsg,zir]at this
theorem zu1 {w:World} {g n:Nat} {P:Nat→Pl} {T:TypeId} (h:w.heap[g]? = some (.cells (jb n P) T (0,0))) (c a b d e f k:Nat) :
    ((((((w.setCell ⟨g,c*6,none⟩ (F1 a)).setCell ⟨g,c*6+1,none⟩ (F1 b)).setCell ⟨g,c*6+2,none⟩ (F1 d)).setCell ⟨g,c*6+3,none⟩ (F1 e)).setCell ⟨g,c*6+4,none⟩ (F1 f)).setCell ⟨g,c*6+5,none⟩ (F1 k)).heap[g]? = some (.cells (jb n (vv P c ((a,b),(d,e),(f,k)))) T (0,0)):=by
  have h0:=zt6 h c 0 a (by omega)
  rw[Nat.add_zero]at h0
  exact zao (zao (zao (zao (zao h0 1 b (by omega)) 2 d (by omega)) 3 e (by omega)) 4 f (by omega)) 5 k (by omega)
theorem zwv {w:World} {g n:Nat} {P:Nat→Pl} {T:TypeId} {c:Nat} {p:Pl} (h:w.heap[g]? = some (.cells (jb n (vv P c p)) T (0,0))) (a b:Nat) :
    ((w.setCell ⟨g,c*6,none⟩ (F1 a)).setCell ⟨g,c*6+1,none⟩ (F1 b)).heap[g]? = some (.cells (jb n (vv P c ((a,b),p.2.1,p.2.2))) T (0,0)):=by
  have h0:=zao h 0 a (by omega)
  rw[Nat.add_zero]at h0
  exact zao h0 1 b (by omega)
theorem zwu {w:World} {g n:Nat} {P:Nat→Pl} {T:TypeId} {c:Nat} {p:Pl} (h:w.heap[g]? = some (.cells (jb n (vv P c p)) T (0,0))) (a b:Nat) :
    ((w.setCell ⟨g,c*6+2,none⟩ (F1 a)).setCell ⟨g,c*6+3,none⟩ (F1 b)).heap[g]? = some (.cells (jb n (vv P c (p.1,(a,b),p.2.2))) T (0,0)) :=
  zao (zao h 2 a (by omega)) 3 b (by omega)
theorem zwi {w:World} {g n:Nat} {P:Nat→Pl} {T:TypeId} {c:Nat} {p:Pl} (h:w.heap[g]? = some (.cells (jb n (vv P c p)) T (0,0))) (a b:Nat) :
    ((w.setCell ⟨g,c*6+4,none⟩ (F1 a)).setCell ⟨g,c*6+5,none⟩ (F1 b)).heap[g]? = some (.cells (jb n (vv P c (p.1,p.2.1,(a,b)))) T (0,0)) :=
  zao (zao h 4 a (by omega)) 5 b (by omega)
theorem zrt (P:Nat→Pl) (c:Nat):vv P c (P c)=P:=by
  funext i;unfold vv;split
  · rename_i h;rw[h]
  · rfl
theorem x7 {w:World} {g k:Nat} {x:Option Obj} (h:w.heap[k]? = x) (hne:g ≠ k) (o:Nat) (v:Value):(w.setCell ⟨g,o,none⟩ v).heap[k]? = x:=by
  simp only[World.setCell,Array.getElem?_modify,if_neg hne];exact h

def zq5 (r:Nat × Nat) (j:Nat):Value:=if j=0 then F1 r.1 else F1 r.2
def zab (n:Nat) (O:Nat→Nat × Nat):Array Value:=Array.ofFn (n:=2*n) fun k=>zq5 (O (k.val / 2)) (k.val % 2)
def zep (O:Nat→Nat × Nat) (c:Nat) (v:Nat × Nat):Nat→Nat × Nat:=fun i=>if i=c then v else O i
def cn2 (r:Nat × Nat):Nat × Nat:=(cn .f32 r.1,cn .f32 r.2)
theorem jn {w:World} {g n:Nat} {O:Nat→Nat × Nat} {T:TypeId} (h:w.heap[g]? = some (.cells (zab n O) T (0,0))) (i:Nat) (hi:i<n) :
    w.cell? ⟨g,i*2,none⟩=some (F1 (O i).1)∧w.cell? ⟨g,i*2+1,none⟩=some (F1 (O i).2):=by
  have key:∀ j,j<2→w.cell? ⟨g,i*2+j,none⟩=some (zq5 (O i) j):=fun j hj=>by
    have hlt:i*2+j<2*n:=by omega
    have e1:(i*2+j) / 2=i:=by omega
    have e2:(i*2+j) % 2=j:=by omega
    simp[World.cell?,h,zab,hlt,e1,e2]
  exact⟨key 0 (by omega),key 1 (by omega)⟩
theorem qf {w:World} {g n:Nat} {O:Nat→Nat × Nat} {T:TypeId} (h:w.heap[g]? = some (.cells (zab n O) T (0,0))) (o:Nat):w.frozen? ⟨g,o,none⟩=false:=by
  simp[World.frozen?,h]
theorem zsm (n:Nat) (O:Nat→Nat × Nat) (c a b:Nat):((zab n O).setIfInBounds (c*2) (F1 a)).setIfInBounds (c*2+1) (F1 b)=zab n (zep O c (a,b)):=by
  refine Array.ext (by simp[zab]) fun k h1 h2=>?_
  have hk:k<2*n:=by simpa [zab] using h2
  rw[Array.getElem_setIfInBounds (by simpa [zab] using hk),Array.getElem_setIfInBounds (by simpa [zab] using hk)]
  simp only[zab,Array.getElem_ofFn,zep]
  by_cases e1:c*2+1=k
  · have:k / 2=c:=by omega
    have h3:k % 2=1:=by omega
    simp[e1,this,h3,zq5]
  · by_cases e0:c*2=k
    · have:k / 2=c:=by omega
      have h3:k % 2=0:=by omega
      simp[e1,e0,this,h3,zq5]
    · have:k / 2 ≠ c:=by omega
      simp[e1,e0,this]
theorem zuf {w:World} {g n:Nat} {O:Nat→Nat × Nat} {T:TypeId} (h:w.heap[g]? = some (.cells (zab n O) T (0,0))) (c a b:Nat) :
    ((w.setCell ⟨g,c*2,none⟩ (F1 a)).setCell ⟨g,c*2+1,none⟩ (F1 b)).heap[g]? = some (.cells (zab n (zep O c (a,b))) T (0,0)):=by
  rw[← zsm]
  exact zge (zge h _ _) _ _

set_option maxRecDepth 100000 in
theorem zw8 (n:Nat) (hn:n≤16) (w:World):(Instr.makeSlice 193 (.int .i64 (n:Int)) (.int .i64 (n:Int))).run Tryz.prog w=.ok (.slice (some ⟨w.heap.size,0,none⟩) n n) (w.alloc (.cells (jb n fun _=>qo) 197)):=by
  have:n=0∨n=1∨n=2∨n=3∨n=4∨n=5∨n=6∨n=7∨n=8∨n=9∨n=10∨n=11∨n=12∨n=13∨n=14∨n=15∨n=16:=by omega
  rcases this with h|h|h|h|h|h|h|h|h|h|h|h|h|h|h|h|h <;>subst h<;>(first|rfl|(show _=_;kernel_rfl))
set_option maxRecDepth 100000 in
theorem zvt (n:Nat) (hn:n≤16) (w:World):(Instr.makeSlice 31 (.int .i64 (n:Int)) (.int .i64 (n:Int))).run Tryz.prog w=.ok (.slice (some ⟨w.heap.size,0,none⟩) n n) (w.alloc (.cells (zab n fun _=>(0,0)) 118)):=by
  have:n=0∨n=1∨n=2∨n=3∨n=4∨n=5∨n=6∨n=7∨n=8∨n=9∨n=10∨n=11∨n=12∨n=13∨n=14∨n=15∨n=16:=by omega
  rcases this with h|h|h|h|h|h|h|h|h|h|h|h|h|h|h|h|h <;>subst h<;>(first|rfl|(show _=_;kernel_rfl))
set_option maxRecDepth 100000 in
theorem zvq (n:Nat) (hn:n≤16) (w:World):(Instr.makeSlice 178 (.int .i64 (n:Int)) (.int .i64 (n:Int))).run Tryz.prog w=.ok (.slice (some ⟨w.heap.size,0,none⟩) n n) (w.alloc (.cells (jb n fun _=>qo) 180)):=by
  have:n=0∨n=1∨n=2∨n=3∨n=4∨n=5∨n=6∨n=7∨n=8∨n=9∨n=10∨n=11∨n=12∨n=13∨n=14∨n=15∨n=16:=by omega
  rcases this with h|h|h|h|h|h|h|h|h|h|h|h|h|h|h|h|h <;>subst h<;>(first|rfl|(show _=_;kernel_rfl))

theorem zjk (P:Nat→Pl) {c i:Nat} (h:i ≠ c) (v:Pl):vv P c v i=P i:=by unfold vv;rw[if_neg h]
theorem zws (O:Nat→Nat × Nat) {c i:Nat} (h:i ≠ c) (v:Nat × Nat):zep O c v i=O i:=by unfold zep;rw[if_neg h]
theorem zcy (O:Nat→Nat × Nat) (c:Nat) (v:Nat × Nat):zep O c v c=v:=by unfold zep;rw[if_pos rfl]
theorem zbk {cs:List (Addr × Value)} {w:World} {g:Nat} (h:zc cs [] w) (hcs:∀ p∈cs,g ≠ p.1.block) (o:Nat) (v:Value):zc cs [] (w.setCell ⟨g,o,none⟩ v):=vy h hcs (by simp) v
theorem zaj (O:Nat→Nat × Nat) (c:Nat) (u v:Nat × Nat):zep (zep O c u) c v=zep O c v:=by
  funext i;unfold zep;split<;>rfl
theorem zk0 (box:Nat→Nat→Nat→Nat→Nat→Nat→Nat) (ns:List PN) (C:Nat→Pl):∀ m,m≤ns.length→(uu box ns C m).length=m
  | 0,_=>rfl
  | m+1,h=>by
    rw[uu,List.getElem?_eq_getElem (show m<ns.length by omega)]
    simp only[List.length_append,List.length_cons,List.length_nil]
    rw[zk0 box ns C m (by omega)]
theorem qr {box:Nat→Nat→Nat→Nat→Nat→Nat→Nat} {ns:List PN} {C:Nat→Pl} {m:Nat} {O:Nat→Nat × Nat} {n:PN} {r:Nat × Nat} (hm:m<ns.length) (hg:ns[m]? = some n) (hO:∀ j,j<m→cn2 (O j)=(uu box ns C m).getD j (0,0)) (hr:cn2 r=xj (k7 box n (C m) (uu box ns C m))) :
    ∀ j,j<m+1→cn2 (zep O m r j)=(uu box ns C (m+1)).getD j (0,0):=by
  intro j hj
  have hl:=zk0 box ns C m (by omega)
  rw[uu,hg]
  simp only
  rw[List.getD_eq_getElem?_getD]
  by_cases h:j=m
  · subst h
    rw[zcy,hr,List.getElem?_append_right (by omega),hl,Nat.sub_self]
    rfl
  · rw[zws _ h,hO j (by omega),List.getElem?_append_left (by omega),List.getD_eq_getElem?_getD]

theorem zni {w w0:World} {ga gb n:Nat} {P:Nat→Pl} {T:TypeId} {x:Option Obj} {cs:List (Addr × Value)} (hpa:w.heap[ga]? = some (.cells (jb n P) T (0,0))) (hpb:w.heap[gb]? = x) (hab:ga ≠ gb) (hk:zc cs [] w) (hcs:∀ p∈cs,ga ≠ p.1.block) (hb:Below w0.heap.size w0 w) (hg:w0.heap.size≤ga) (c a b d e f k:Nat) :
    ((((((w.setCell ⟨ga,c*6,none⟩ (F1 a)).setCell ⟨ga,c*6+1,none⟩ (F1 b)).setCell ⟨ga,c*6+2,none⟩ (F1 d)).setCell ⟨ga,c*6+3,none⟩ (F1 e)).setCell ⟨ga,c*6+4,none⟩ (F1 f)).setCell ⟨ga,c*6+5,none⟩ (F1 k)).heap[ga]? = some (.cells (jb n (vv P c ((a,b),(d,e),(f,k)))) T (0,0)) ∧
    ((((((w.setCell ⟨ga,c*6,none⟩ (F1 a)).setCell ⟨ga,c*6+1,none⟩ (F1 b)).setCell ⟨ga,c*6+2,none⟩ (F1 d)).setCell ⟨ga,c*6+3,none⟩ (F1 e)).setCell ⟨ga,c*6+4,none⟩ (F1 f)).setCell ⟨ga,c*6+5,none⟩ (F1 k)).heap[gb]? = x ∧
    zc cs [] ((((((w.setCell ⟨ga,c*6,none⟩ (F1 a)).setCell ⟨ga,c*6+1,none⟩ (F1 b)).setCell ⟨ga,c*6+2,none⟩ (F1 d)).setCell ⟨ga,c*6+3,none⟩ (F1 e)).setCell ⟨ga,c*6+4,none⟩ (F1 f)).setCell ⟨ga,c*6+5,none⟩ (F1 k)) ∧
    Below w0.heap.size w0 ((((((w.setCell ⟨ga,c*6,none⟩ (F1 a)).setCell ⟨ga,c*6+1,none⟩ (F1 b)).setCell ⟨ga,c*6+2,none⟩ (F1 d)).setCell ⟨ga,c*6+3,none⟩ (F1 e)).setCell ⟨ga,c*6+4,none⟩ (F1 f)).setCell ⟨ga,c*6+5,none⟩ (F1 k)) :=
  ⟨zu1 hpa c a b d e f k,
   x7 (x7 (x7 (x7 (x7 (x7 hpb hab _ _) hab _ _) hab _ _) hab _ _) hab _ _) hab _ _,
   zbk (zbk (zbk (zbk (zbk (zbk hk hcs _ _) hcs _ _) hcs _ _) hcs _ _) hcs _ _) hcs _ _,
   (((((hb.setCell (p:=⟨ga,_,none⟩) hg _).setCell (p:=⟨ga,_,none⟩) hg _).setCell (p:=⟨ga,_,none⟩) hg _).setCell (p:=⟨ga,_,none⟩) hg _).setCell (p:=⟨ga,_,none⟩) hg _).setCell (p:=⟨ga,_,none⟩) hg _⟩
theorem zjb {w w0:World} {ga gb n:Nat} {O:Nat→Nat × Nat} {T:TypeId} {x:Option Obj} (hpb:w.heap[gb]? = some (.cells (zab n O) T (0,0))) (hpa:w.heap[ga]? = x) (hab:gb ≠ ga) (hb:Below w0.heap.size w0 w) (hg:w0.heap.size≤gb) (c a b:Nat) :
    ((w.setCell ⟨gb,c*2,none⟩ (F1 a)).setCell ⟨gb,c*2+1,none⟩ (F1 b)).heap[gb]? = some (.cells (zab n (zep O c (a,b))) T (0,0)) ∧
    ((w.setCell ⟨gb,c*2,none⟩ (F1 a)).setCell ⟨gb,c*2+1,none⟩ (F1 b)).heap[ga]? = x ∧
    Below w0.heap.size w0 ((w.setCell ⟨gb,c*2,none⟩ (F1 a)).setCell ⟨gb,c*2+1,none⟩ (F1 b)) :=
  ⟨zuf hpb c a b,x7 (x7 hpa hab _ _) hab _ _,(hb.setCell (p:=⟨gb,_,none⟩) hg _).setCell (p:=⟨gb,_,none⟩) hg _⟩

theorem zog {P:Program} {ops:Array Oper} {C:World→Prop} {Phi:FuncId→Array Value→Value→Prop} {Gd:Tmp→Value→World→Prop} {ad:List Tmp} {o:Oper} {a:Act} {K:Act→Prop} {w0:World} (val:Nat→Value) (b:Obj) (h0:C w0) (had:∀ d,o.dst=some d→d ∉ ad) (hw:Region.wanted o (yielded ops a.tmps)=true) (h:∀ w,C w→(execOp a.eval o).run P w=.ok (.value (val w.heap.size)) (w.alloc b))
    (hc':∀ w,C w→C (w.alloc b)) (hgd:∀ w,C w→Qg.gd Gd o.dst (val w.heap.size) (w.alloc b)) (hk:∀ g,K (a.put o.dst (val g))):Qg.step P ops C Phi Gd ad o a K:=by
  refine⟨fun _=>⟨⟨_,w0,h0,by rw[h w0 h0]⟩,fun w hc hs=>?_⟩,fun u hu=>?_⟩
  · rw[h w hc];exact⟨⟨hc' w hc,zt ..⟩,hgd w hc,fun d hd hda=>absurd hda (had d hd)⟩
  · unfold Qg.vals at hu
    rw[if_pos hw]at hu
    obtain⟨w,hc,hv⟩:=hu
    rw[h w hc]at hv
    simp only at hv
    rw[hv];exact hk _

def SlD (W:World) (n:Nat) (d1 d2:Tmp) (d:Tmp) (v:Value) (w:World):Prop :=
  (d=d1→v=undef∨∃ g,v=.slice (some ⟨g,0,none⟩) n n∧W.heap.size≤g∧w.heap[g]? = some (.cells (jb n fun _=>qo) 197 (0,0))) ∧
  (d=d2→v=undef∨∃ g,v=.slice (some ⟨g,0,none⟩) n n∧W.heap.size≤g∧w.heap[g]? = some (.cells (zab n fun _=>(0,0)) 118 (0,0)))
theorem zl {w:World} {g:Nat} {o:Obj} (h:w.heap[g]? = some o):g<w.heap.size:=(Array.getElem?_eq_some_iff.1 h).1
theorem zrg (W:World) (n:Nat) (d1 d2:Tmp):Qg.Lasts (SlD W n d1 d2):=by
  refine⟨fun d v w w' h hb=>⟨fun hd=>?_,fun hd=>?_⟩,fun d w=>⟨fun _=>.inl rfl,fun _=>.inl rfl⟩⟩
  · rcases h.1 hd with h|⟨g,h1,h2,h3⟩
    · exact .inl h
    · exact .inr ⟨g,h1,h2,by rw[hb.block g (zl h3)];exact h3⟩
  · rcases h.2 hd with h|⟨g,h1,h2,h3⟩
    · exact .inl h
    · exact .inr ⟨g,h1,h2,by rw[hb.block g (zl h3)];exact h3⟩
theorem zs7 {W:World} {n:Nat} {d1 d2:Tmp} {a:Act} {w:World} (h:∀ d∈[d1,d2],a.tmps.getD d undef=undef):Qg.E (SlD W n d1 d2) [] a w:=by
  refine⟨fun d=>⟨fun hd=>.inl (h d (by rw[hd];simp)),fun hd=>.inl (h d (by rw[hd];simp))⟩,?_,?_⟩<;>(intro d hd;cases hd)
theorem zxq {W:World} {n:Nat} {d1 d2 d:Tmp} {v:Value} {w:World} (h1:d ≠ d1) (h2:d ≠ d2):Qg.gd (SlD W n d1 d2) (some d) v w:=⟨fun h=>absurd h h1,fun h=>absurd h h2⟩
theorem zch (w:World) (b:Obj):(w.alloc b).heap[w.heap.size]? = some b:=by show (w.heap.push _)[w.heap.size]? = _;simp
theorem jt {w:World} {g:Nat} (b:Obj) (h:g<w.heap.size):(w.alloc b).heap[g]? = w.heap[g]?:=by show (w.heap.push _)[g]? = _;rw[Array.getElem?_push_lt h,← Array.getElem?_eq_getElem h]
theorem zw1 {W:World} {n:Nat} {d1 d2:Tmp} {w:World} (hne:d1 ≠ d2) (hb:Below W.heap.size W w):Qg.gd (SlD W n d1 d2) (some d1) (.slice (some ⟨w.heap.size,0,none⟩) n n) (w.alloc (.cells (jb n fun _=>qo) 197)) :=
  ⟨fun _=>.inr ⟨_,rfl,hb.size,zch _ _⟩,fun h=>absurd h hne⟩
theorem zvw {W:World} {n:Nat} {d1 d2:Tmp} {w:World} (hne:d2 ≠ d1) (hb:Below W.heap.size W w):Qg.gd (SlD W n d1 d2) (some d2) (.slice (some ⟨w.heap.size,0,none⟩) n n) (w.alloc (.cells (zab n fun _=>(0,0)) 118)) :=
  ⟨fun h=>absurd h hne,fun _=>.inr ⟨_,rfl,hb.size,zch _ _⟩⟩
structure Mrk (lo hi:Nat) (w w':World):Prop where
  low:Below lo w w'
  high:∀ b,hi≤b→b<w.heap.size→w'.heap[b]? = w.heap[b]?

theorem zvp {w w':World} {lo G hi:Nat} {e:TypeId} {size n:Nat} {v:Value} {xs:List Value} (h:w.ownsRow lo e size v n xs) (hm:Mrk G hi w w') (hl:hi≤lo):w'.ownsRow lo e size v n xs:=by
  obtain⟨h1,h2|⟨g,cap,cur,hv,hb,hg,r⟩⟩:=h
  · exact⟨h1,.inl h2⟩
  · exact⟨h1,.inr ⟨g,cap,cur,hv,hb,by rw[hm.high g (Nat.le_trans hl hb) (Array.getElem?_eq_some_iff.1 hg).1];exact hg,r⟩⟩
theorem ztj:∀ (ns:List PN) (l:Int),0≤l→szL ns l≤l
  | [],l,_=>Int.le_refl _
  | n::r,l,h=>by
    unfold szL
    split
    · omega
    · rename_i ht
      have h1:=ztj r (ue n.nums.length l) (by omega)
      have h2:ue n.nums.length l≤l:=by unfold ue;split<;>omega
      omega
theorem zxo (ns:List PN) (l:Int) (h:0≤l):szS ns l≤l:=by
  unfold szS
  split
  · omega
  · rename_i ht
    have h1:=ztj ns (ue ns.length l) (by omega)
    have h2:ue ns.length l≤l:=by unfold ue;split<;>omega
    omega

def vn (r:(Nat × Nat) × (Nat × Nat) × (Nat × Nat)) (w:World) (e:Ending) (w':World):Prop:=∃ a0 a1 b0 b1 c0 c1,e=.returned (Rg3 a0 a1 b0 b1 c0 c1)∧(cn .f32 a0,cn .f32 a1)=r.1∧(cn .f32 b0,cn .f32 b1)=r.2.1∧(cn .f32 c0,cn .f32 c1)=r.2.2∧Below w.heap.size w w'


set_option maxRecDepth 100000 in
set_option maxHeartbeats 2000000 in
theorem zo2 {b o bv ov cap r0 r1 r2 x0 x1 y0 y1 z0 z1:Nat} {w:World} (hN:zc [(⟨b,o,none⟩,.int .i64 9),(⟨b,o+2,none⟩,.int .i64 0),(⟨b,o+3,none⟩,.slice (some ⟨bv,ov,none⟩) 3 cap),(⟨bv,ov,none⟩,F1 r0),(⟨bv,ov+1,none⟩,F1 r1),(⟨bv,ov+2,none⟩,F1 r2)] [] w) :
    Calls Tryz.prog 134 #[.pointer (some ⟨b,o,none⟩),Rg3 x0 x1 y0 y1 z0 z1] w (vn (uf (cn .f32 x0,cn .f32 x1) (cn .f32 r0),uf (cn .f32 y0,cn .f32 y1) (cn .f32 r1),uf (cn .f32 z0,cn .f32 z1) (cn .f32 r2)) w):=by
  have hK:=hN
  simp only[zc,ka,kb,zb,kfa,kga]at hK
  have hb:b<w.heap.size:=zg (a:=⟨b,o,none⟩) (by rw[hK.1];rfl)
  go_enter Tryz.func134,Tryz.ntmps134
  go_upto_region 1 with fail
  clear hK
  generalize hW:(w.alloc (.cells #[F1 x0,F1 x1,F1 y0,F1 y1,F1 z0,F1 z1] 197)).alloc (.cells #[F1 0,F1 0,F1 0,F1 0,F1 0,F1 0] 197)=W1 at *
  have W1b:Below w.heap.size w W1:=by subst hW;exact xa ..
  have hkept:=yt false true hW;simp only[zr,zq,zo,zv,Nat.reduceAdd]at hkept;clear hW
  have hkept:=ze (keep hN W1b) hkept
  clear hN
  have hK:=hkept;simp only[zc,ka,kb,zb,kfa,kga]at hK
  have hb1:b<W1.heap.size:=Nat.lt_of_lt_of_le hb W1b.size
  go_upto_region 2 with fail
  refine Qr.wp_below_all (by kernel_rfl) (by kernel_rfl) PhiTb ?_
  repeat (first|(refine Qr.walk_plain rfl fun K hK=>?_;refine zk _ _ _ _ _ rfl _ _ _ rfl rfl rfl (fun r hr=>?_);go_simp;refine hK _ ?_;clear hK K)|(refine Qr.walk_plain rfl fun K hK=>?_;apply Qr.one_det;(focus (intro w' hw';have HK:=keep hkept hw';simp only[zc,ka,kb,zb,kfa,kga]at HK;go_simp;first|done|rfl));go_simp;refine hK _ ?_;clear hK K))
  refine Qr.walk_nil fun w6 hw6=>?_
  have hkept:=keep hkept hw6
  have W6b:=za W1b hw6
  clear hK
  have hK:=hkept
  simp only[zc,ka,kb,zb,kfa,kga]at hK
  go_upto_region 5 with fail
  refine Qr.wp_below 19 (by kernel_rfl) (by kernel_rfl) PhiTb ?_
  repeat (refine Qr.walk_plain rfl fun K hK=>?_;(first|(refine zk _ _ _ _ _ rfl _ _ _ rfl rfl rfl (fun r hr=>?_))|(apply Qr.one_det;(focus (intro w' hw';have HK:=keep hkept hw';simp only[zc,ka,kb,zb,kfa,kga]at HK;go_simp;first|done|rfl)))|(apply Qr.one_call;(focus (intro w' hw';go_simp;first|done|exact⟨rfl,rfl⟩));(focus (intro w' hw';go_at_call 208;refine (ux _ _ _ _).mono ?_;rintro _ w2⟨l1,u1,rfl,hr1,hb1⟩;exact⟨_,rfl,by constructor<;>assumption,za hw' ‹_›,by assumption⟩));intro v hv;cases hv));go_simp;refine hK _ ?_;clear hK K)
  rename_i a0 a1 e1 b0 b1 e2 c0 c1 e3
  refine Qr.walk_nil fun w8 hw8=>?_
  have hkept:=keep hkept hw8
  have W8b:=za W6b hw8
  clear hK
  have hK:=hkept
  simp only[zc,ka,kb,zb,kfa,kga]at hK
  go_wp2_with fail
  exact bodyPost_ret (v:=Rg3 a0 a1 b0 b1 c0 c1) (by simp[results,Tryz.results134,go_sem,hK,zf,zh];first|done|exact⟨rfl,rfl,rfl,rfl,rfl,rfl⟩) rfl ⟨_,_,_,_,_,_,rfl,e1,e2,e3,xr W8b (by omega) ..⟩
end Go.Proofs.YtbiacfkiakddiaaGreat
