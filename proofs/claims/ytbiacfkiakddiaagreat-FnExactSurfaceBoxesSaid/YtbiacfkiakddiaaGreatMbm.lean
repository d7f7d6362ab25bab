/-
  Lemmas: V15,V22,V24,U3.
-/
import Derived.Test.YtbiacfkiakddiaaGreatMbi
import Derived.Test.YtbiacfkiakddiaaGreatMbk
import Derived.Test.YtbiacfkiakddiaaGreatMbl
set_option linter.unusedVariables false
set_option linter.unusedSimpArgs false
namespace Go.Proofs.YtbiacfkiakddiaaGreat
open Go.RowKit Go.Fl
/-- The range of a leaf;box is how a box is told. -/
def leafR (box:Nat → Nat → Nat → Nat → Nat → Nat → Nat) (n:PN) (x y z:Nat × Nat):Nat × Nat :=
  match n.kind,n.nums.map (cn .f32) with
  | 0,[r] => endsR (fun x y z => ballF x y z r) x y z
  | 1,[u,v,t] => endsR (fun x y z => box x y z u v t) x y z
  | 2,[h,r] => downR (longR x (bothR (fun y => shortF y h) y) z) r
  | 3,[u,r] => downR (longR (downR (longR x (cn .f32 0,cn .f32 0) z) u) y (cn .f32 0,cn .f32 0)) r
  | 4,[a,b,c,d] => downR (plusR (plusR (timesR x a) (timesR y b)) (timesR z c)) d
  | _,_ => (0,0)

theorem knil {w:World}:Kept [] [] w:=kof (fun p h => by cases h)
theorem kcons {a:Addr} {v:Value} {l:List (Addr × Value)} {w:World} (h:w.cell? a = some v) (t:Kept l [] w):Kept ((a,v) :: l) [] w :=
  kof (fun p hp => by
    rcases List.mem_cons.1 hp with rfl | hp
    · exact h
    · exact t.1 p hp)

theorem leafr_node {n:PN} {b o:Nat} {w:World} (hn:NodeIn n b o w) (hok:n.ok) (hc:(ruleF n.kind).2.1 = 0) (x0 x1 y0 y1 z0 z1:Nat) :
    Calls Tryz.prog 135 #[.pointer (some ⟨b,o,none⟩),Rg3 x0 x1 y0 y1 z0 z1] w (RetR (leafG (fineR (cn .f32 x0,cn .f32 x1) && fineR (cn .f32 y0,cn .f32 y1) && fineR (cn .f32 z0,cn .f32 z1)) (leafR boxF n (cn .f32 x0,cn .f32 x1) (cn .f32 y0,cn .f32 y1) (cn .f32 z0,cn .f32 z1))) w):=by
  obtain ⟨bp,bv,ov,cap,h1,h2,h3⟩:=hn.nums
  have hk:=hn.kind
  have hr:=hok.kind
  have hl:=hok.nums
  obtain ⟨k,na,nb,nums⟩:=n
  simp only at *
  have:k = 0 ∨ k = 1 ∨ k = 2 ∨ k = 3 ∨ k = 4 ∨ k = 5 ∨ k = 6 ∨ k = 7 ∨ k = 8 ∨ k = 9 ∨ k = 10 ∨ k = 11 ∨ k = 12 ∨ k = 13 ∨ k = 14 ∨ k = 15 ∨ k = 16:=by omega
  rcases this with h | h | h | h | h | h | h | h | h | h | h | h | h | h | h | h | h <;> subst h
  · obtain ⟨r,rfl⟩:=len1 hl
    have:=h2 (by simp)
    subst this
    exact leafr_ball (kcons hk (kcons h1 (kcons (h3 0 (by simp)) knil)))
  · obtain ⟨r,s,t,rfl⟩:=len3 hl
    have:=h2 (by simp)
    subst this
    exact leafr_box (kcons hk (kcons h1 (kcons (h3 0 (by simp)) (kcons (h3 1 (by simp)) (kcons (h3 2 (by simp)) knil)))))
  · obtain ⟨r,s,rfl⟩:=len2 hl
    have:=h2 (by simp)
    subst this
    exact leafr_tube (kcons hk (kcons h1 (kcons (h3 0 (by simp)) (kcons (h3 1 (by simp)) knil))))
  · obtain ⟨r,s,rfl⟩:=len2 hl
    have:=h2 (by simp)
    subst this
    exact leafr_ring (kcons hk (kcons h1 (kcons (h3 0 (by simp)) (kcons (h3 1 (by simp)) knil))))
  · obtain ⟨r,s,t,u,rfl⟩:=len4 hl
    have:=h2 (by simp)
    subst this
    exact leafr_plane (kcons hk (kcons h1 (kcons (h3 0 (by simp)) (kcons (h3 1 (by simp)) (kcons (h3 2 (by simp)) (kcons (h3 3 (by simp)) knil))))))
  all_goals exact absurd hc (by decide)

/-- A space lies at a place. -/
def SpaceIn (c p x0 x1 y0 y1 z0 z1:Nat) (w:World):Prop:=∀ q ∈ [((⟨c,p,none⟩:Addr),F1 x0),(⟨c,p + 1,none⟩,F1 x1),(⟨c,p + 2,none⟩,F1 y0),(⟨c,p + 3,none⟩,F1 y1),(⟨c,p + 4,none⟩,F1 z0),(⟨c,p + 5,none⟩,F1 z1)],w.cell? q.1 = some q.2

theorem s_leafr_node {n:PN} {b o c p:Nat} {w:World} (hn:NodeIn n b o w) (hok:n.ok) (hc:(ruleF n.kind).2.1 = 0) (x0 x1 y0 y1 z0 z1:Nat) (hs:SpaceIn c p x0 x1 y0 y1 z0 z1 w) :
    Calls Tryz.prog 123 #[.pointer (some ⟨b,o,none⟩),.pointer (some ⟨c,p,none⟩)] w (RetR (leafR boxS n (cn .f32 x0,cn .f32 x1) (cn .f32 y0,cn .f32 y1) (cn .f32 z0,cn .f32 z1)) w):=by
  obtain ⟨bp,bv,ov,cap,h1,h2,h3⟩:=hn.nums
  have hk:=hn.kind
  have hr:=hok.kind
  have hl:=hok.nums
  obtain ⟨k,na,nb,nums⟩:=n
  simp only at *
  have s1:=hs _ (.head _)
  have s2:=hs _ (.tail _ (.head _))
  have s3:=hs _ (.tail _ (.tail _ (.head _)))
  have s4:=hs _ (.tail _ (.tail _ (.tail _ (.head _))))
  have s5:=hs _ (.tail _ (.tail _ (.tail _ (.tail _ (.head _)))))
  have s6:=hs _ (.tail _ (.tail _ (.tail _ (.tail _ (.tail _ (.head _))))))
  have:k = 0 ∨ k = 1 ∨ k = 2 ∨ k = 3 ∨ k = 4 ∨ k = 5 ∨ k = 6 ∨ k = 7 ∨ k = 8 ∨ k = 9 ∨ k = 10 ∨ k = 11 ∨ k = 12 ∨ k = 13 ∨ k = 14 ∨ k = 15 ∨ k = 16:=by omega
  rcases this with h | h | h | h | h | h | h | h | h | h | h | h | h | h | h | h | h <;> subst h
  · obtain ⟨r,rfl⟩:=len1 hl
    have:=h2 (by simp)
    subst this
    exact s_leafr_ball (kcons hk (kcons h1 (kcons (h3 0 (by simp)) (kcons s1 (kcons s2 (kcons s3 (kcons s4 (kcons s5 (kcons s6 knil)))))))))
  · obtain ⟨r,s,t,rfl⟩:=len3 hl
    have:=h2 (by simp)
    subst this
    exact s_leafr_box (kcons hk (kcons h1 (kcons (h3 0 (by simp)) (kcons (h3 1 (by simp)) (kcons (h3 2 (by simp)) (kcons s1 (kcons s2 (kcons s3 (kcons s4 (kcons s5 (kcons s6 knil)))))))))))
  · obtain ⟨r,s,rfl⟩:=len2 hl
    have:=h2 (by simp)
    subst this
    exact s_leafr_tube (kcons hk (kcons h1 (kcons (h3 0 (by simp)) (kcons (h3 1 (by simp)) (kcons s1 (kcons s2 (kcons s3 (kcons s4 (kcons s5 (kcons s6 knil))))))))))
  · obtain ⟨r,s,rfl⟩:=len2 hl
    have:=h2 (by simp)
    subst this
    exact s_leafr_ring (kcons hk (kcons h1 (kcons (h3 0 (by simp)) (kcons (h3 1 (by simp)) (kcons s1 (kcons s2 (kcons s3 (kcons s4 (kcons s5 (kcons s6 knil))))))))))
  · obtain ⟨r,s,t,u,rfl⟩:=len4 hl
    have:=h2 (by simp)
    subst this
    exact s_leafr_plane (kcons hk (kcons h1 (kcons (h3 0 (by simp)) (kcons (h3 1 (by simp)) (kcons (h3 2 (by simp)) (kcons (h3 3 (by simp)) (kcons s1 (kcons s2 (kcons s3 (kcons s4 (kcons s5 (kcons s6 knil))))))))))))
  all_goals exact absurd hc (by decide)
end Go.Proofs.YtbiacfkiakddiaaGreat

namespace Go.Proofs.YtbiacfkiakddiaaGreat
open Go.RowKit Go.Fl
abbrev Pl:=(Nat × Nat) × (Nat × Nat) × (Nat × Nat)
def quoR (v:Nat) (r:Nat × Nat):Nat × Nat:=bothR (fun x => B .quo x v) r
def onAx (b:Int) (g:Nat × Nat → Nat × Nat) (p:Pl):Pl:=if b = 0 then (g p.1,p.2.1,p.2.2) else if b = 1 then (p.1,g p.2.1,p.2.2) else (p.1,p.2.1,g p.2.2)
def tuR1 (t:Nat) (i j:Nat × Nat):Nat × Nat:=plusR (timesR i (sineF (B .sub 1048576000 t))) (timesR j (sineF t))
def tuR2 (t:Nat) (i j:Nat × Nat):Nat × Nat:=lessR (timesR j (sineF (B .sub 1048576000 t))) (timesR i (sineF t))
def turnP (b:Int) (t:Nat) (p:Pl):Pl:=if b = 0 then (p.1,tuR1 t p.2.1 p.2.2,tuR2 t p.2.1 p.2.2) else if b = 1 then (tuR2 t p.2.2 p.1,p.2.1,tuR1 t p.2.2 p.1) else (tuR1 t p.1 p.2.1,tuR2 t p.1 p.2.1,p.2.2)

/-- The ranges of the coordinates of a child's place. -/
def placeX (fold:Nat × Nat → Nat → Nat × Nat) (n:PN) (p:Pl):Pl :=
  match n.kind,n.nums.map (cn .f32) with
  | 9,[a,b,c] => (downR p.1 a,downR p.2.1 b,downR p.2.2 c)
  | 10,[a] => (quoR a p.1,quoR a p.2.1,quoR a p.2.2)
  | 11,[a,b,c] => (quoR a p.1,quoR b p.2.1,quoR c p.2.2)
  | 12,[t] => turnP n.b t p
  | 13,_ => onAx n.b sizeR p
  | 14,[s] => onAx n.b (fun r => fold r s) p
  | _,_ => p

def updP (P:Nat → Pl) (c:Nat) (v:Pl):Nat → Pl:=fun i => if i = c then v else P i
/-- One node's children get their places. -/
def stepQ (fold:Nat × Nat → Nat → Nat × Nat) (n:PN) (i:Nat) (C:Nat → Pl):Nat → Pl :=
  match (ruleF n.kind).2.1 with
  | 0 => C
  | 1 => updP C n.a.toNat (placeX fold n (C i))
  | _ => updP (updP C n.a.toNat (C i)) n.b.toNat (C i)
/-- .. of the last d nodes. -/
def runQ (fold:Nat × Nat → Nat → Nat × Nat) (ns:List PN) (p:Pl):Nat → (Nat → Pl)
  | 0 => updP (fun _ => ((0,0),(0,0),(0,0))) (ns.length - 1) p
  | d + 1 => match ns[ns.length - 1 - d]? with
    | none => runQ fold ns p d
    | some n => stepQ fold n (ns.length - 1 - d) (runQ fold ns p d)
def fineP (p:Pl):Bool:=fineR p.1 && fineR p.2.1 && fineR p.2.2
def madeR (r:Nat × Nat):Nat × Nat:=if nanP r.1 || nanP r.2 then (minw,infw) else r
/-- The range of a node before it is looked at. -/
def rawQ (box:Nat → Nat → Nat → Nat → Nat → Nat → Nat) (n:PN) (p:Pl) (l:List (Nat × Nat)):Nat × Nat :=
  match (ruleF n.kind).2.1 with
  | 0 => leafG (fineP p) (leafR box n p.1 p.2.1 p.2.2)
  | 1 => mixR n (l.getD n.a.toNat (0,0)) (0,0)
  | _ => mixR n (l.getD n.a.toNat (0,0)) (l.getD n.b.toNat (0,0))
/-- The ranges of the first m nodes. -/
def allQ (box:Nat → Nat → Nat → Nat → Nat → Nat → Nat) (ns:List PN) (C:Nat → Pl):Nat → List (Nat × Nat)
  | 0 => []
  | m + 1 => match ns[m]? with
    | none => allQ box ns C m
    | some n => allQ box ns C m ++ [madeR (rawQ box n (C m) (allQ box ns C m))]
/-- All ranges of a shape in a box,as the program has them,and as the reference. -/
def rangesF (ns:List PN) (p:Pl):List (Nat × Nat):=allQ boxF ns (runQ foldRF ns p ns.length) ns.length
def rangesS (ns:List PN) (p:Pl):List (Nat × Nat):=allQ boxS ns (runQ foldRS ns p ns.length) ns.length
end Go.Proofs.YtbiacfkiakddiaaGreat

namespace Go.Proofs.YtbiacfkiakddiaaGreat
open Go.RowKit Go.Fl
def comp6 (p:Pl) (j:Nat):Value:=if j = 0 then F1 p.1.1 else if j = 1 then F1 p.1.2 else if j = 2 then F1 p.2.1.1 else if j = 3 then F1 p.2.1.2 else if j = 4 then F1 p.2.2.1 else F1 p.2.2.2
def vec6 (n:Nat) (P:Nat → Pl):Array Value:=Array.ofFn (n:=6 * n) fun k => comp6 (P (k.val / 6)) (k.val % 6)
def cn6 (p:Pl):Pl:=((cn .f32 p.1.1,cn .f32 p.1.2),(cn .f32 p.2.1.1,cn .f32 p.2.1.2),(cn .f32 p.2.2.1,cn .f32 p.2.2.2))
def zero6:Pl:=((0,0),(0,0),(0,0))

theorem vec6_at {w:World} {g n:Nat} {P:Nat → Pl} {T:TypeId} (h:w.heap[g]? = some (.cells (vec6 n P) T (0,0))) (i:Nat) (hi:i < n) :
    w.cell? ⟨g,i * 6,none⟩ = some (F1 (P i).1.1) ∧ w.cell? ⟨g,i * 6 + 1,none⟩ = some (F1 (P i).1.2) ∧ w.cell? ⟨g,i * 6 + 2,none⟩ = some (F1 (P i).2.1.1) ∧ w.cell? ⟨g,i * 6 + 3,none⟩ = some (F1 (P i).2.1.2) ∧ w.cell? ⟨g,i * 6 + 4,none⟩ = some (F1 (P i).2.2.1) ∧ w.cell? ⟨g,i * 6 + 5,none⟩ = some (F1 (P i).2.2.2):=by
  have key:∀ j,j < 6 → w.cell? ⟨g,i * 6 + j,none⟩ = some (comp6 (P i) j):=fun j hj => by
    have hlt:i * 6 + j < 6 * n:=by omega
    have e1:(i * 6 + j) / 6 = i:=by omega
    have e2:(i * 6 + j) % 6 = j:=by omega
    simp [World.cell?,h,vec6,hlt,e1,e2]
  exact ⟨key 0 (by omega),key 1 (by omega),key 2 (by omega),key 3 (by omega),key 4 (by omega),key 5 (by omega)⟩

theorem vec6_frozen {w:World} {g n:Nat} {P:Nat → Pl} {T:TypeId} (h:w.heap[g]? = some (.cells (vec6 n P) T (0,0))) (o:Nat):w.frozen? ⟨g,o,none⟩ = false:=by
  simp [World.frozen?,h]

theorem vec6_get (n:Nat) (P:Nat → Pl) (k:Nat) (h:k < (vec6 n P).size):(vec6 n P)[k] = comp6 (P (k / 6)) (k % 6):=by simp [vec6]
/-- One component is set. -/
def setC (p:Pl) (j:Nat) (x:Nat):Pl :=
  if j = 0 then ((x,p.1.2),p.2.1,p.2.2) else if j = 1 then ((p.1.1,x),p.2.1,p.2.2) else if j = 2 then (p.1,(x,p.2.1.2),p.2.2) else if j = 3 then (p.1,(p.2.1.1,x),p.2.2) else if j = 4 then (p.1,p.2.1,(x,p.2.2.2)) else (p.1,p.2.1,(p.2.2.1,x))
theorem comp_set (p:Pl) (j x k:Nat) (hj:j < 6) (hk:k < 6):comp6 (setC p j x) k = if k = j then F1 x else comp6 p k:=by
  have h1:j = 0 ∨ j = 1 ∨ j = 2 ∨ j = 3 ∨ j = 4 ∨ j = 5:=by omega
  have h2:k = 0 ∨ k = 1 ∨ k = 2 ∨ k = 3 ∨ k = 4 ∨ k = 5:=by omega
  rcases h1 with rfl | rfl | rfl | rfl | rfl | rfl <;> rcases h2 with rfl | rfl | rfl | rfl | rfl | rfl <;> rfl
theorem vec6_set1 (n:Nat) (P:Nat → Pl) (c j x:Nat) (hj:j < 6):(vec6 n P).setIfInBounds (c * 6 + j) (F1 x) = vec6 n (updP P c (setC (P c) j x)):=by
  refine Array.ext (by simp [vec6]) fun k h1 h2 => ?_
  have hk:k < 6 * n:=by simpa [vec6] using h2
  rw [Array.getElem_setIfInBounds (by simpa [vec6] using hk),vec6_get,vec6_get]
  unfold updP
  by_cases e:c * 6 + j = k
  · have e1:k / 6 = c:=by omega
    have e2:k % 6 = j:=by omega
    rw [if_pos e,e1,e2,if_pos rfl,comp_set _ _ _ _ hj hj,if_pos rfl]
  · rw [if_neg e]
    by_cases e1:k / 6 = c
    · have e2:k % 6 ≠ j:=by omega
      rw [e1,if_pos rfl,comp_set _ _ _ _ hj (by omega),if_neg e2]
    · rw [if_neg e1]

theorem cell_set {w:World} {g:Nat} {A:Array Value} {T:TypeId} (h:w.heap[g]? = some (.cells A T (0,0))) (o:Nat) (x:Value):(w.setCell ⟨g,o,none⟩ x).heap[g]? = some (.cells (A.setIfInBounds o x) T (0,0)):=by
  simp only [World.setCell,Array.getElem?_modify,if_true,h,Option.map_some]
  rfl
theorem updP_updP (P:Nat → Pl) (c:Nat) (u v:Pl):updP (updP P c u) c v = updP P c v:=by
  funext i;unfold updP;split <;> rfl
theorem updP_same (P:Nat → Pl) (c:Nat) (u:Pl):updP P c u c = u:=by unfold updP;rw [if_pos rfl]
theorem vec6_c {w:World} {g n:Nat} {P:Nat → Pl} {T:TypeId} (h:w.heap[g]? = some (.cells (vec6 n P) T (0,0))) (c j x:Nat) (hj:j < 6):(w.setCell ⟨g,c * 6 + j,none⟩ (F1 x)).heap[g]? = some (.cells (vec6 n (updP P c (setC (P c) j x))) T (0,0)):=by
  rw [← vec6_set1 n P c j x hj];exact cell_set h _ _
theorem vec6_u {w:World} {g n:Nat} {P:Nat → Pl} {T:TypeId} {c:Nat} {p:Pl} (h:w.heap[g]? = some (.cells (vec6 n (updP P c p)) T (0,0))) (j x:Nat) (hj:j < 6):(w.setCell ⟨g,c * 6 + j,none⟩ (F1 x)).heap[g]? = some (.cells (vec6 n (updP P c (setC p j x))) T (0,0)):=by
  have:=vec6_c h c j x hj
  rwa [updP_same,updP_updP] at this
/-- A place is set. -/
theorem vec6_set {w:World} {g n:Nat} {P:Nat → Pl} {T:TypeId} (h:w.heap[g]? = some (.cells (vec6 n P) T (0,0))) (c a b d e f k:Nat) :
    ((((((w.setCell ⟨g,c * 6,none⟩ (F1 a)).setCell ⟨g,c * 6 + 1,none⟩ (F1 b)).setCell ⟨g,c * 6 + 2,none⟩ (F1 d)).setCell ⟨g,c * 6 + 3,none⟩ (F1 e)).setCell ⟨g,c * 6 + 4,none⟩ (F1 f)).setCell ⟨g,c * 6 + 5,none⟩ (F1 k)).heap[g]? = some (.cells (vec6 n (updP P c ((a,b),(d,e),(f,k)))) T (0,0)):=by
  have h0:=vec6_c h c 0 a (by omega)
  rw [Nat.add_zero] at h0
  exact vec6_u (vec6_u (vec6_u (vec6_u (vec6_u h0 1 b (by omega)) 2 d (by omega)) 3 e (by omega)) 4 f (by omega)) 5 k (by omega)
theorem vec6_u0 {w:World} {g n:Nat} {P:Nat → Pl} {T:TypeId} {c:Nat} {p:Pl} (h:w.heap[g]? = some (.cells (vec6 n (updP P c p)) T (0,0))) (a b:Nat) :
    ((w.setCell ⟨g,c * 6,none⟩ (F1 a)).setCell ⟨g,c * 6 + 1,none⟩ (F1 b)).heap[g]? = some (.cells (vec6 n (updP P c ((a,b),p.2.1,p.2.2))) T (0,0)):=by
  have h0:=vec6_u h 0 a (by omega)
  rw [Nat.add_zero] at h0
  exact vec6_u h0 1 b (by omega)
theorem vec6_u1 {w:World} {g n:Nat} {P:Nat → Pl} {T:TypeId} {c:Nat} {p:Pl} (h:w.heap[g]? = some (.cells (vec6 n (updP P c p)) T (0,0))) (a b:Nat) :
    ((w.setCell ⟨g,c * 6 + 2,none⟩ (F1 a)).setCell ⟨g,c * 6 + 3,none⟩ (F1 b)).heap[g]? = some (.cells (vec6 n (updP P c (p.1,(a,b),p.2.2))) T (0,0)) :=
  vec6_u (vec6_u h 2 a (by omega)) 3 b (by omega)
theorem vec6_u2 {w:World} {g n:Nat} {P:Nat → Pl} {T:TypeId} {c:Nat} {p:Pl} (h:w.heap[g]? = some (.cells (vec6 n (updP P c p)) T (0,0))) (a b:Nat) :
    ((w.setCell ⟨g,c * 6 + 4,none⟩ (F1 a)).setCell ⟨g,c * 6 + 5,none⟩ (F1 b)).heap[g]? = some (.cells (vec6 n (updP P c (p.1,p.2.1,(a,b)))) T (0,0)) :=
  vec6_u (vec6_u h 4 a (by omega)) 5 b (by omega)
theorem updP_self (P:Nat → Pl) (c:Nat):updP P c (P c) = P:=by
  funext i;unfold updP;split
  · rename_i h;rw [h]
  · rfl
/-- A block that is not written stays. -/
theorem heap_other {w:World} {g k:Nat} {x:Option Obj} (h:w.heap[k]? = x) (hne:g ≠ k) (o:Nat) (v:Value):(w.setCell ⟨g,o,none⟩ v).heap[k]? = x:=by
  simp only [World.setCell,Array.getElem?_modify,if_neg hne];exact h

/-- A list of ranges. -/
def comp2 (r:Nat × Nat) (j:Nat):Value:=if j = 0 then F1 r.1 else F1 r.2
def vec2 (n:Nat) (O:Nat → Nat × Nat):Array Value:=Array.ofFn (n:=2 * n) fun k => comp2 (O (k.val / 2)) (k.val % 2)
def updO (O:Nat → Nat × Nat) (c:Nat) (v:Nat × Nat):Nat → Nat × Nat:=fun i => if i = c then v else O i
def cn2 (r:Nat × Nat):Nat × Nat:=(cn .f32 r.1,cn .f32 r.2)
theorem vec2_at {w:World} {g n:Nat} {O:Nat → Nat × Nat} {T:TypeId} (h:w.heap[g]? = some (.cells (vec2 n O) T (0,0))) (i:Nat) (hi:i < n) :
    w.cell? ⟨g,i * 2,none⟩ = some (F1 (O i).1) ∧ w.cell? ⟨g,i * 2 + 1,none⟩ = some (F1 (O i).2):=by
  have key:∀ j,j < 2 → w.cell? ⟨g,i * 2 + j,none⟩ = some (comp2 (O i) j):=fun j hj => by
    have hlt:i * 2 + j < 2 * n:=by omega
    have e1:(i * 2 + j) / 2 = i:=by omega
    have e2:(i * 2 + j) % 2 = j:=by omega
    simp [World.cell?,h,vec2,hlt,e1,e2]
  exact ⟨key 0 (by omega),key 1 (by omega)⟩
theorem vec2_frozen {w:World} {g n:Nat} {O:Nat → Nat × Nat} {T:TypeId} (h:w.heap[g]? = some (.cells (vec2 n O) T (0,0))) (o:Nat):w.frozen? ⟨g,o,none⟩ = false:=by
  simp [World.frozen?,h]
theorem vec2_sets (n:Nat) (O:Nat → Nat × Nat) (c a b:Nat):((vec2 n O).setIfInBounds (c * 2) (F1 a)).setIfInBounds (c * 2 + 1) (F1 b) = vec2 n (updO O c (a,b)):=by
  refine Array.ext (by simp [vec2]) fun k h1 h2 => ?_
  have hk:k < 2 * n:=by simpa [vec2] using h2
  rw [Array.getElem_setIfInBounds (by simpa [vec2] using hk),Array.getElem_setIfInBounds (by simpa [vec2] using hk)]
  simp only [vec2,Array.getElem_ofFn,updO]
  by_cases e1:c * 2 + 1 = k
  · have:k / 2 = c:=by omega
    have h3:k % 2 = 1:=by omega
    simp [e1,this,h3,comp2]
  · by_cases e0:c * 2 = k
    · have:k / 2 = c:=by omega
      have h3:k % 2 = 0:=by omega
      simp [e1,e0,this,h3,comp2]
    · have:k / 2 ≠ c:=by omega
      simp [e1,e0,this]
theorem vec2_set {w:World} {g n:Nat} {O:Nat → Nat × Nat} {T:TypeId} (h:w.heap[g]? = some (.cells (vec2 n O) T (0,0))) (c a b:Nat) :
    ((w.setCell ⟨g,c * 2,none⟩ (F1 a)).setCell ⟨g,c * 2 + 1,none⟩ (F1 b)).heap[g]? = some (.cells (vec2 n (updO O c (a,b))) T (0,0)):=by
  rw [← vec2_sets]
  exact cell_set (cell_set h _ _) _ _

set_option maxRecDepth 100000 in
theorem make_pl (n:Nat) (hn:n ≤ 16) (w:World):(Instr.makeSlice 193 (.int .i64 (n:Int)) (.int .i64 (n:Int))).run Tryz.prog w = .ok (.slice (some ⟨w.heap.size,0,none⟩) n n) (w.alloc (.cells (vec6 n fun _ => zero6) 197)):=by
  have:n = 0 ∨ n = 1 ∨ n = 2 ∨ n = 3 ∨ n = 4 ∨ n = 5 ∨ n = 6 ∨ n = 7 ∨ n = 8 ∨ n = 9 ∨ n = 10 ∨ n = 11 ∨ n = 12 ∨ n = 13 ∨ n = 14 ∨ n = 15 ∨ n = 16:=by omega
  rcases this with h | h | h | h | h | h | h | h | h | h | h | h | h | h | h | h | h  <;> subst h <;> (first | rfl | (show _ = _;kernel_rfl))
set_option maxRecDepth 100000 in
theorem make_rs (n:Nat) (hn:n ≤ 16) (w:World):(Instr.makeSlice 31 (.int .i64 (n:Int)) (.int .i64 (n:Int))).run Tryz.prog w = .ok (.slice (some ⟨w.heap.size,0,none⟩) n n) (w.alloc (.cells (vec2 n fun _ => (0,0)) 118)):=by
  have:n = 0 ∨ n = 1 ∨ n = 2 ∨ n = 3 ∨ n = 4 ∨ n = 5 ∨ n = 6 ∨ n = 7 ∨ n = 8 ∨ n = 9 ∨ n = 10 ∨ n = 11 ∨ n = 12 ∨ n = 13 ∨ n = 14 ∨ n = 15 ∨ n = 16:=by omega
  rcases this with h | h | h | h | h | h | h | h | h | h | h | h | h | h | h | h | h  <;> subst h <;> (first | rfl | (show _ = _;kernel_rfl))
set_option maxRecDepth 100000 in
theorem make_sp (n:Nat) (hn:n ≤ 16) (w:World):(Instr.makeSlice 178 (.int .i64 (n:Int)) (.int .i64 (n:Int))).run Tryz.prog w = .ok (.slice (some ⟨w.heap.size,0,none⟩) n n) (w.alloc (.cells (vec6 n fun _ => zero6) 180)):=by
  have:n = 0 ∨ n = 1 ∨ n = 2 ∨ n = 3 ∨ n = 4 ∨ n = 5 ∨ n = 6 ∨ n = 7 ∨ n = 8 ∨ n = 9 ∨ n = 10 ∨ n = 11 ∨ n = 12 ∨ n = 13 ∨ n = 14 ∨ n = 15 ∨ n = 16:=by omega
  rcases this with h | h | h | h | h | h | h | h | h | h | h | h | h | h | h | h | h  <;> subst h <;> (first | rfl | (show _ = _;kernel_rfl))

theorem updP_ne (P:Nat → Pl) {c i:Nat} (h:i ≠ c) (v:Pl):updP P c v i = P i:=by unfold updP;rw [if_neg h]
theorem updO_ne (O:Nat → Nat × Nat) {c i:Nat} (h:i ≠ c) (v:Nat × Nat):updO O c v i = O i:=by unfold updO;rw [if_neg h]
theorem updO_same (O:Nat → Nat × Nat) (c:Nat) (v:Nat × Nat):updO O c v c = v:=by unfold updO;rw [if_pos rfl]
theorem kept_put {cs:List (Addr × Value)} {w:World} {g:Nat} (h:Kept cs [] w) (hcs:∀ p ∈ cs,g ≠ p.1.block) (o:Nat) (v:Value):Kept cs [] (w.setCell ⟨g,o,none⟩ v):=kept_set h hcs (by simp) v
theorem updO_updO (O:Nat → Nat × Nat) (c:Nat) (u v:Nat × Nat):updO (updO O c u) c v = updO O c v:=by
  funext i;unfold updO;split <;> rfl
theorem allQ_len (box:Nat → Nat → Nat → Nat → Nat → Nat → Nat) (ns:List PN) (C:Nat → Pl):∀ m,m ≤ ns.length → (allQ box ns C m).length = m
  | 0,_ => rfl
  | m + 1,h => by
    rw [allQ,List.getElem?_eq_getElem (show m < ns.length by omega)]
    simp only [List.length_append,List.length_cons,List.length_nil]
    rw [allQ_len box ns C m (by omega)]
theorem all_step {box:Nat → Nat → Nat → Nat → Nat → Nat → Nat} {ns:List PN} {C:Nat → Pl} {m:Nat} {O:Nat → Nat × Nat} {n:PN} {r:Nat × Nat} (hm:m < ns.length) (hg:ns[m]? = some n) (hO:∀ j,j < m → cn2 (O j) = (allQ box ns C m).getD j (0,0)) (hr:cn2 r = madeR (rawQ box n (C m) (allQ box ns C m))) :
    ∀ j,j < m + 1 → cn2 (updO O m r j) = (allQ box ns C (m + 1)).getD j (0,0):=by
  intro j hj
  have hl:=allQ_len box ns C m (by omega)
  rw [allQ,hg]
  simp only
  rw [List.getD_eq_getElem?_getD]
  by_cases h:j = m
  · subst h
    rw [updO_same,hr,List.getElem?_append_right (by omega),hl,Nat.sub_self]
    rfl
  · rw [updO_ne _ h,hO j (by omega),List.getElem?_append_left (by omega),List.getD_eq_getElem?_getD]

/-- A place is written: all that is known. -/
theorem put6 {w w0:World} {ga gb n:Nat} {P:Nat → Pl} {T:TypeId} {x:Option Obj} {cs:List (Addr × Value)} (hpa:w.heap[ga]? = some (.cells (vec6 n P) T (0,0))) (hpb:w.heap[gb]? = x) (hab:ga ≠ gb) (hk:Kept cs [] w) (hcs:∀ p ∈ cs,ga ≠ p.1.block) (hb:Below w0.heap.size w0 w) (hg:w0.heap.size ≤ ga) (c a b d e f k:Nat) :
    ((((((w.setCell ⟨ga,c * 6,none⟩ (F1 a)).setCell ⟨ga,c * 6 + 1,none⟩ (F1 b)).setCell ⟨ga,c * 6 + 2,none⟩ (F1 d)).setCell ⟨ga,c * 6 + 3,none⟩ (F1 e)).setCell ⟨ga,c * 6 + 4,none⟩ (F1 f)).setCell ⟨ga,c * 6 + 5,none⟩ (F1 k)).heap[ga]? = some (.cells (vec6 n (updP P c ((a,b),(d,e),(f,k)))) T (0,0)) ∧
    ((((((w.setCell ⟨ga,c * 6,none⟩ (F1 a)).setCell ⟨ga,c * 6 + 1,none⟩ (F1 b)).setCell ⟨ga,c * 6 + 2,none⟩ (F1 d)).setCell ⟨ga,c * 6 + 3,none⟩ (F1 e)).setCell ⟨ga,c * 6 + 4,none⟩ (F1 f)).setCell ⟨ga,c * 6 + 5,none⟩ (F1 k)).heap[gb]? = x ∧
    Kept cs [] ((((((w.setCell ⟨ga,c * 6,none⟩ (F1 a)).setCell ⟨ga,c * 6 + 1,none⟩ (F1 b)).setCell ⟨ga,c * 6 + 2,none⟩ (F1 d)).setCell ⟨ga,c * 6 + 3,none⟩ (F1 e)).setCell ⟨ga,c * 6 + 4,none⟩ (F1 f)).setCell ⟨ga,c * 6 + 5,none⟩ (F1 k)) ∧
    Below w0.heap.size w0 ((((((w.setCell ⟨ga,c * 6,none⟩ (F1 a)).setCell ⟨ga,c * 6 + 1,none⟩ (F1 b)).setCell ⟨ga,c * 6 + 2,none⟩ (F1 d)).setCell ⟨ga,c * 6 + 3,none⟩ (F1 e)).setCell ⟨ga,c * 6 + 4,none⟩ (F1 f)).setCell ⟨ga,c * 6 + 5,none⟩ (F1 k)) :=
  ⟨vec6_set hpa c a b d e f k,
   heap_other (heap_other (heap_other (heap_other (heap_other (heap_other hpb hab _ _) hab _ _) hab _ _) hab _ _) hab _ _) hab _ _,
   kept_put (kept_put (kept_put (kept_put (kept_put (kept_put hk hcs _ _) hcs _ _) hcs _ _) hcs _ _) hcs _ _) hcs _ _,
   (((((hb.setCell (p:=⟨ga,_,none⟩) hg _).setCell (p:=⟨ga,_,none⟩) hg _).setCell (p:=⟨ga,_,none⟩) hg _).setCell (p:=⟨ga,_,none⟩) hg _).setCell (p:=⟨ga,_,none⟩) hg _).setCell (p:=⟨ga,_,none⟩) hg _⟩
/-- A range is written: all that is known. -/
theorem put2 {w w0:World} {ga gb n:Nat} {O:Nat → Nat × Nat} {T:TypeId} {x:Option Obj} (hpb:w.heap[gb]? = some (.cells (vec2 n O) T (0,0))) (hpa:w.heap[ga]? = x) (hab:gb ≠ ga) (hb:Below w0.heap.size w0 w) (hg:w0.heap.size ≤ gb) (c a b:Nat) :
    ((w.setCell ⟨gb,c * 2,none⟩ (F1 a)).setCell ⟨gb,c * 2 + 1,none⟩ (F1 b)).heap[gb]? = some (.cells (vec2 n (updO O c (a,b))) T (0,0)) ∧
    ((w.setCell ⟨gb,c * 2,none⟩ (F1 a)).setCell ⟨gb,c * 2 + 1,none⟩ (F1 b)).heap[ga]? = x ∧
    Below w0.heap.size w0 ((w.setCell ⟨gb,c * 2,none⟩ (F1 a)).setCell ⟨gb,c * 2 + 1,none⟩ (F1 b)) :=
  ⟨vec2_set hpb c a b,heap_other (heap_other hpa hab _ _) hab _ _,(hb.setCell (p:=⟨gb,_,none⟩) hg _).setCell (p:=⟨gb,_,none⟩) hg _⟩

/-- One operation that makes a block and yields a value on it. -/
theorem one_mk {P:Program} {ops:Array Oper} {C:World → Prop} {Phi:FuncId → Array Value → Value → Prop} {Gd:Tmp → Value → World → Prop} {ad:List Tmp} {o:Oper} {a:Act} {K:Act → Prop} {w0:World} (val:Nat → Value) (b:Obj) (h0:C w0) (had:∀ d,o.dst = some d → d ∉ ad) (hw:Region.wanted o (yielded ops a.tmps) = true) (h:∀ w,C w → (execOp a.eval o).run P w = .ok (.value (val w.heap.size)) (w.alloc b))
    (hc':∀ w,C w → C (w.alloc b)) (hgd:∀ w,C w → Qg.gd Gd o.dst (val w.heap.size) (w.alloc b)) (hk:∀ g,K (a.put o.dst (val g))):Qg.step P ops C Phi Gd ad o a K:=by
  refine ⟨fun _ => ⟨⟨_,w0,h0,by rw [h w0 h0]⟩,fun w hc hs => ?_⟩,fun u hu => ?_⟩
  · rw [h w hc];exact ⟨⟨hc' w hc,(Below.refl _ _).alloc (Nat.le_refl _) _⟩,hgd w hc,fun d hd hda => absurd hda (had d hd)⟩
  · unfold Qg.vals at hu
    rw [if_pos hw] at hu
    obtain ⟨w,hc,hv⟩:=hu
    rw [h w hc] at hv
    simp only at hv
    rw [hv];exact hk _

/-- The words of two slots: new slices. -/
def SlD (W:World) (n:Nat) (d1 d2:Tmp) (d:Tmp) (v:Value) (w:World):Prop :=
  (d = d1 → v = undef ∨ ∃ g,v = .slice (some ⟨g,0,none⟩) n n ∧ W.heap.size ≤ g ∧ w.heap[g]? = some (.cells (vec6 n fun _ => zero6) 197 (0,0))) ∧
  (d = d2 → v = undef ∨ ∃ g,v = .slice (some ⟨g,0,none⟩) n n ∧ W.heap.size ≤ g ∧ w.heap[g]? = some (.cells (vec2 n fun _ => (0,0)) 118 (0,0)))
theorem block_lt {w:World} {g:Nat} {o:Obj} (h:w.heap[g]? = some o):g < w.heap.size:=(Array.getElem?_eq_some_iff.1 h).1
theorem sld_lasts (W:World) (n:Nat) (d1 d2:Tmp):Qg.Lasts (SlD W n d1 d2):=by
  refine ⟨fun d v w w' h hb => ⟨fun hd => ?_,fun hd => ?_⟩,fun d w => ⟨fun _ => .inl rfl,fun _ => .inl rfl⟩⟩
  · rcases h.1 hd with h | ⟨g,h1,h2,h3⟩
    · exact .inl h
    · exact .inr ⟨g,h1,h2,by rw [hb.block g (block_lt h3)];exact h3⟩
  · rcases h.2 hd with h | ⟨g,h1,h2,h3⟩
    · exact .inl h
    · exact .inr ⟨g,h1,h2,by rw [hb.block g (block_lt h3)];exact h3⟩
theorem sld_start {W:World} {n:Nat} {d1 d2:Tmp} {a:Act} {w:World} (h:∀ d ∈ [d1,d2],a.tmps.getD d undef = undef):Qg.E (SlD W n d1 d2) [] a w:=by
  refine ⟨fun d => ⟨fun hd => .inl (h d (by rw [hd];simp)),fun hd => .inl (h d (by rw [hd];simp))⟩,?_,?_⟩ <;> (intro d hd;cases hd)
theorem sld_no {W:World} {n:Nat} {d1 d2 d:Tmp} {v:Value} {w:World} (h1:d ≠ d1) (h2:d ≠ d2):Qg.gd (SlD W n d1 d2) (some d) v w:=⟨fun h => absurd h h1,fun h => absurd h h2⟩
theorem heap_new (w:World) (b:Obj):(w.alloc b).heap[w.heap.size]? = some b:=by show (w.heap.push _)[w.heap.size]? = _;simp
theorem heap_old {w:World} {g:Nat} (b:Obj) (h:g < w.heap.size):(w.alloc b).heap[g]? = w.heap[g]?:=by show (w.heap.push _)[g]? = _;rw [Array.getElem?_push_lt h,← Array.getElem?_eq_getElem h]
theorem sld_one {W:World} {n:Nat} {d1 d2:Tmp} {w:World} (hne:d1 ≠ d2) (hb:Below W.heap.size W w):Qg.gd (SlD W n d1 d2) (some d1) (.slice (some ⟨w.heap.size,0,none⟩) n n) (w.alloc (.cells (vec6 n fun _ => zero6) 197)) :=
  ⟨fun _ => .inr ⟨_,rfl,hb.size,heap_new _ _⟩,fun h => absurd h hne⟩
theorem sld_two {W:World} {n:Nat} {d1 d2:Tmp} {w:World} (hne:d2 ≠ d1) (hb:Below W.heap.size W w):Qg.gd (SlD W n d1 d2) (some d2) (.slice (some ⟨w.heap.size,0,none⟩) n n) (w.alloc (.cells (vec2 n fun _ => (0,0)) 118)) :=
  ⟨fun h => absurd h hne,fun _ => .inr ⟨_,rfl,hb.size,heap_new _ _⟩⟩
end Go.Proofs.YtbiacfkiakddiaaGreat

namespace Go.Proofs.YtbiacfkiakddiaaGreat
open Go.RowKit Go.Fl
/-- A list of ranges of one's own: no block,or a whole block from lo on. -/
def RgOwn (lo n:Nat) (v:Value) (A:Nat → Nat × Nat) (w:World):Prop:=(n = 0 ∧ v = .slice none 0 0) ∨ ∃ g,v = .slice (some ⟨g,0,none⟩) n n ∧ lo ≤ g ∧ w.heap[g]? = some (.cells (vec2 n A) 118 (0,0))
/-- A list of ranges that can be read. -/
def RgRead (n:Nat) (v:Value) (A:Nat → Nat × Nat) (w:World):Prop:=(n = 0 ∧ v = .slice none 0 0) ∨ ∃ g cap,v = .slice (some ⟨g,0,none⟩) n cap ∧ RgAt n g A w
theorem RgOwn.read {lo n:Nat} {v:Value} {A:Nat → Nat × Nat} {w:World} (h:RgOwn lo n v A w):RgRead n v A w:=by
  rcases h with h | ⟨g,rfl,_,h⟩
  · exact .inl h
  · exact .inr ⟨g,n,rfl,fun i hi => vec2_at h i hi⟩
theorem RgRead.keep {n:Nat} {v:Value} {A:Nat → Nat × Nat} {w w':World} (h:RgRead n v A w) (hb:Below w.heap.size w w'):RgRead n v A w':=by
  rcases h with h | ⟨g,cap,rfl,h⟩
  · exact .inl h
  · exact .inr ⟨g,cap,rfl,h.keep hb⟩
theorem RgOwn.keep {lo n:Nat} {v:Value} {A:Nat → Nat × Nat} {w w':World} (h:RgOwn lo n v A w) (hb:Below w.heap.size w w'):RgOwn lo n v A w':=by
  rcases h with h | ⟨g,rfl,hg,h⟩
  · exact .inl h
  · exact .inr ⟨g,rfl,hg,by rw [hb.block g (Array.getElem?_eq_some_iff.1 h).1];exact h⟩

end Go.Proofs.YtbiacfkiakddiaaGreat
