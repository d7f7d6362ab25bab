/-
 Lemmas: S13,S14,Ro.
-/
import Derived.Test.YtbiacfkiakddiaaGreatOaq
import Derived.Test.YtbiacfkiakddiaaGreatObg
import Derived.Test.YtbiacfkiakddiaaGreatObi
set_option linter.unusedVariables false
set_option linter.unusedSimpArgs false
namespace Go.Proofs.YtbiacfkiakddiaaGreat
open Go.RowKit Go.Fl
def leafS (n:PN) (x y z:Nat):Nat :=
 match n.kind,n.nums.map (cn .f32) with
 | 0,[r] => ballF x y z r
 | 1,[u,v,t] => boxS x y z u v t
 | 2,[h,r] => tubeS x y z h r
 | 3,[u,r] => ringS x y z u r
 | 4,[a,b,c,d] => planeF x y z a b c d
 | _,_ => 0
def mixS (n:PN) (x y:Nat):Nat :=
 match n.kind,n.nums.map (cn .f32) with
 | 5,_ => lesserF x y
 | 6,_ => greaterF x y
 | 7,_ => greaterF x (negc .f32 y)
 | 8,[k] => smoothS x y k
 | 10,[r] => B .mul x r
 | 15,[r] => B .sub x r
 | 16,[r] => B .sub (sizeS x) r
 | _,_ => x
def pointS (n:PN) (p:Nat × Nat × Nat):Nat × Nat × Nat :=
 match n.kind,n.b,n.nums.map (cn .f32) with
 | 9,_,[a,b,c] => (B .sub p.1 a,B .sub p.2.1 b,B .sub p.2.2 c)
 | 10,_,[r] => (B .quo p.1 r,B .quo p.2.1 r,B .quo p.2.2 r)
 | 11,_,[a,b,c] => (B .quo p.1 a,B .quo p.2.1 b,B .quo p.2.2 c)
 | 12,0,[t] => (p.1,turn1 t p.2.1 p.2.2,turn2 t p.2.1 p.2.2)
 | 12,1,[t] => (turn2 t p.2.2 p.1,p.2.1,turn1 t p.2.2 p.1)
 | 12,2,[t] => (turn1 t p.1 p.2.1,turn2 t p.1 p.2.1,p.2.2)
 | 13,0,_ => (sizeS p.1,p.2.1,p.2.2)
 | 13,1,_ => (p.1,sizeS p.2.1,p.2.2)
 | 13,2,_ => (p.1,p.2.1,sizeS p.2.2)
 | 14,0,[s] => (foldedS p.1 s,p.2.1,p.2.2)
 | 14,1,[s] => (p.1,foldedS p.2.1 s,p.2.2)
 | 14,2,[s] => (p.1,p.2.1,foldedS p.2.2 s)
 | _,_,_ => p


theorem s_leaf_node {n:PN} {b o:Nat} {w:World} (hn:NodeIn n b o w) (hok:n.ok) (hc:(ruleF n.kind).2.1 = 0) (x y z:Nat) :
  Calls Tryz.prog 196 #[.pointer (some ⟨b,o,none⟩),V3 x y z] w (Ret .f32 (leafS n (cn .f32 x) (cn .f32 y) (cn .f32 z)) w):=by
 obtain ⟨bp,bv,ov,cap,h1,h2,h3⟩:=hn.nums
 have hk:=hn.kind
 have hr:=hok.kind
 have hl:=hok.nums
 obtain ⟨k,na,nb,nums⟩:=n
 simp only at *
 have:k = 0 ∨ k = 1 ∨ k = 2 ∨ k = 3 ∨ k = 4 ∨ k = 5 ∨ k = 6 ∨ k = 7 ∨ k = 8 ∨ k = 9 ∨ k = 10 ∨ k = 11 ∨ k = 12 ∨ k = 13 ∨ k = 14 ∨ k = 15 ∨ k = 16:=by omega
 rcases this with h | h | h | h | h | h | h | h | h | h | h | h | h | h | h | h | h <;> subst h
 ·obtain ⟨r,rfl⟩:=len1 hl
  have:=h2 (by simp)
  subst this
  exact s_leaf_ball b o bv ov cap r x y z w hk h1 (h3 0 (by simp))
 ·obtain ⟨r,s,t,rfl⟩:=len3 hl
  have:=h2 (by simp)
  subst this
  exact s_leaf_box b o bv ov cap r s t x y z w hk h1 (h3 0 (by simp)) (h3 1 (by simp)) (h3 2 (by simp))
 ·obtain ⟨r,s,rfl⟩:=len2 hl
  have:=h2 (by simp)
  subst this
  exact s_leaf_tube b o bv ov cap r s x y z w hk h1 (h3 0 (by simp)) (h3 1 (by simp))
 ·obtain ⟨r,s,rfl⟩:=len2 hl
  have:=h2 (by simp)
  subst this
  exact s_leaf_ring b o bv ov cap r s x y z w hk h1 (h3 0 (by simp)) (h3 1 (by simp))
 ·obtain ⟨r,s,t,u,rfl⟩:=len4 hl
  have:=h2 (by simp)
  subst this
  exact s_leaf_plane b o bv ov cap r s t u x y z w hk h1 (h3 0 (by simp)) (h3 1 (by simp)) (h3 2 (by simp)) (h3 3 (by simp))
 all_goals exact absurd hc (by decide)

theorem s_mix_node {n:PN} {b o:Nat} {w:World} (hn:NodeIn n b o w) (hok:n.ok) (hc:(ruleF n.kind).2.1 ≠ 0) (x y:Nat) :
  Calls Tryz.prog 231 #[.pointer (some ⟨b,o,none⟩),F1 x,F1 y] w (Ret .f32 (mixS n (cn .f32 x) (cn .f32 y)) w):=by
 obtain ⟨bp,bv,ov,cap,h1,h2,h3⟩:=hn.nums
 have hk:=hn.kind
 have hr:=hok.kind
 have hl:=hok.nums
 obtain ⟨k,na,nb,nums⟩:=n
 simp only at *
 have:k = 0 ∨ k = 1 ∨ k = 2 ∨ k = 3 ∨ k = 4 ∨ k = 5 ∨ k = 6 ∨ k = 7 ∨ k = 8 ∨ k = 9 ∨ k = 10 ∨ k = 11 ∨ k = 12 ∨ k = 13 ∨ k = 14 ∨ k = 15 ∨ k = 16:=by omega
 rcases this with h | h | h | h | h | h | h | h | h | h | h | h | h | h | h | h | h <;> subst h
 iterate 5 exact absurd rfl hc
 ·exact s_mix_union b o x y w hk
 ·exact s_mix_cut b o x y w hk
 ·exact s_mix_less b o x y w hk
 ·obtain ⟨r,rfl⟩:=len1 hl
  have:=h2 (by simp)
  subst this
  exact s_mix_smooth b o bv ov cap r x y w hk h1 (h3 0 (by simp))
 ·exact s_mix_move b o x y w hk
 ·obtain ⟨r,rfl⟩:=len1 hl
  have:=h2 (by simp)
  subst this
  exact s_mix_scale b o bv ov cap r x y w hk h1 (h3 0 (by simp))
 ·exact s_mix_stretch b o x y w hk
 ·exact s_mix_turn b o x y w hk
 ·exact s_mix_mirror b o x y w hk
 ·exact s_mix_fold b o x y w hk
 ·obtain ⟨r,rfl⟩:=len1 hl
  have:=h2 (by simp)
  subst this
  exact s_mix_round b o bv ov cap r x y w hk h1 (h3 0 (by simp))
 ·obtain ⟨r,rfl⟩:=len1 hl
  have:=h2 (by simp)
  subst this
  exact s_mix_shell b o bv ov cap r x y w hk h1 (h3 0 (by simp))

theorem s_point_node {n:PN} {b o:Nat} {w:World} (hn:NodeIn n b o w) (hok:n.ok) (hc:(ruleF n.kind).2.1 ≠ 0) (x y z:Nat) :
  Calls Tryz.prog 263 #[.pointer (some ⟨b,o,none⟩),V3 x y z] w (RetV (pointS n (cn .f32 x,cn .f32 y,cn .f32 z)).1 (pointS n (cn .f32 x,cn .f32 y,cn .f32 z)).2.1 (pointS n (cn .f32 x,cn .f32 y,cn .f32 z)).2.2 w):=by
 obtain ⟨bp,bv,ov,cap,h1,h2,h3⟩:=hn.nums
 have hk:=hn.kind
 have hB:=hn.b
 have hr:=hok.kind
 have hl:=hok.nums
 have hax:=hok.axis
 obtain ⟨k,na,nb,nums⟩:=n
 simp only at *
 have:k = 0 ∨ k = 1 ∨ k = 2 ∨ k = 3 ∨ k = 4 ∨ k = 5 ∨ k = 6 ∨ k = 7 ∨ k = 8 ∨ k = 9 ∨ k = 10 ∨ k = 11 ∨ k = 12 ∨ k = 13 ∨ k = 14 ∨ k = 15 ∨ k = 16:=by omega
 rcases this with h | h | h | h | h | h | h | h | h | h | h | h | h | h | h | h | h <;> subst h
 iterate 5 exact absurd rfl hc
 ·exact s_point_same 5 (by decide) (kof (by simp only [List.forall_mem_cons,List.not_mem_nil,false_implies,implies_true,and_true];exact hk))
 ·exact s_point_same 6 (by decide) (kof (by simp only [List.forall_mem_cons,List.not_mem_nil,false_implies,implies_true,and_true];exact hk))
 ·exact s_point_same 7 (by decide) (kof (by simp only [List.forall_mem_cons,List.not_mem_nil,false_implies,implies_true,and_true];exact hk))
 ·exact s_point_same 8 (by decide) (kof (by simp only [List.forall_mem_cons,List.not_mem_nil,false_implies,implies_true,and_true];exact hk))
 ·have hb0:nb = 0:=by
   rcases hax with h | h | ⟨h,_⟩
   ·exact absurd h (by decide)
   ·exact h
   ·exact absurd h (by decide)
  subst hb0
  obtain ⟨r,s,t,rfl⟩:=len3 hl
  have:=h2 (by simp)
  subst this
  exact s_point_move (kof (by simp only [List.forall_mem_cons,List.not_mem_nil,false_implies,implies_true,and_true];exact ⟨hk,hB,h1,h3 0 (by simp),h3 1 (by simp),h3 2 (by simp)⟩))
 ·have hb0:nb = 0:=by
   rcases hax with h | h | ⟨h,_⟩
   ·exact absurd h (by decide)
   ·exact h
   ·exact absurd h (by decide)
  subst hb0
  obtain ⟨r,rfl⟩:=len1 hl
  have:=h2 (by simp)
  subst this
  exact s_point_scale (kof (by simp only [List.forall_mem_cons,List.not_mem_nil,false_implies,implies_true,and_true];exact ⟨hk,hB,h1,h3 0 (by simp)⟩))
 ·have hb0:nb = 0:=by
   rcases hax with h | h | ⟨h,_⟩
   ·exact absurd h (by decide)
   ·exact h
   ·exact absurd h (by decide)
  subst hb0
  obtain ⟨r,s,t,rfl⟩:=len3 hl
  have:=h2 (by simp)
  subst this
  exact s_point_stretch (kof (by simp only [List.forall_mem_cons,List.not_mem_nil,false_implies,implies_true,and_true];exact ⟨hk,hB,h1,h3 0 (by simp),h3 1 (by simp),h3 2 (by simp)⟩))
 ·have hb0:nb = 0 ∨ nb = 1 ∨ nb = 2:=by
   rcases hax with h | h | ⟨_,h⟩
   ·exact absurd h (by decide)
   ·omega
   ·omega
  obtain ⟨r,rfl⟩:=len1 hl
  have:=h2 (by simp)
  subst this
  rcases hb0 with h | h | h <;> subst h
  ·exact s_point_turn0 (kof (by simp only [List.forall_mem_cons,List.not_mem_nil,false_implies,implies_true,and_true];exact ⟨hk,hB,h1,h3 0 (by simp)⟩))
  ·exact s_point_turn1 (kof (by simp only [List.forall_mem_cons,List.not_mem_nil,false_implies,implies_true,and_true];exact ⟨hk,hB,h1,h3 0 (by simp)⟩))
  ·exact s_point_turn2 (kof (by simp only [List.forall_mem_cons,List.not_mem_nil,false_implies,implies_true,and_true];exact ⟨hk,hB,h1,h3 0 (by simp)⟩))
 ·have hb0:nb = 0 ∨ nb = 1 ∨ nb = 2:=by
   rcases hax with h | h | ⟨_,h⟩
   ·exact absurd h (by decide)
   ·omega
   ·omega
  have hl0:nums = []:=List.length_eq_zero_iff.1 hl
  subst hl0
  rcases hb0 with h | h | h <;> subst h
  ·exact s_point_mirror0 (kof (by simp only [List.forall_mem_cons,List.not_mem_nil,false_implies,implies_true,and_true];exact ⟨hk,hB⟩))
  ·exact s_point_mirror1 (kof (by simp only [List.forall_mem_cons,List.not_mem_nil,false_implies,implies_true,and_true];exact ⟨hk,hB⟩))
  ·exact s_point_mirror2 (kof (by simp only [List.forall_mem_cons,List.not_mem_nil,false_implies,implies_true,and_true];exact ⟨hk,hB⟩))
 ·have hb0:nb = 0 ∨ nb = 1 ∨ nb = 2:=by
   rcases hax with h | h | ⟨_,h⟩
   ·exact absurd h (by decide)
   ·omega
   ·omega
  obtain ⟨r,rfl⟩:=len1 hl
  have:=h2 (by simp)
  subst this
  rcases hb0 with h | h | h <;> subst h
  ·exact s_point_fold0 (kof (by simp only [List.forall_mem_cons,List.not_mem_nil,false_implies,implies_true,and_true];exact ⟨hk,hB,h1,h3 0 (by simp)⟩))
  ·exact s_point_fold1 (kof (by simp only [List.forall_mem_cons,List.not_mem_nil,false_implies,implies_true,and_true];exact ⟨hk,hB,h1,h3 0 (by simp)⟩))
  ·exact s_point_fold2 (kof (by simp only [List.forall_mem_cons,List.not_mem_nil,false_implies,implies_true,and_true];exact ⟨hk,hB,h1,h3 0 (by simp)⟩))
 ·exact s_point_same 15 (by decide) (kof (by simp only [List.forall_mem_cons,List.not_mem_nil,false_implies,implies_true,and_true];exact hk))
 ·exact s_point_same 16 (by decide) (kof (by simp only [List.forall_mem_cons,List.not_mem_nil,false_implies,implies_true,and_true];exact hk))

end Go.Proofs.YtbiacfkiakddiaaGreat

namespace Go.Proofs.YtbiacfkiakddiaaGreat
open Go.RowKit Go.Fl
abbrev V:=Nat × Nat × Nat
def comp (p:V) (j:Nat):Value:=if j = 0 then F1 p.1 else if j = 1 then F1 p.2.1 else F1 p.2.2
def vecs (n:Nat) (P:Nat → V):Array Value:=Array.ofFn (n:=3 * n) fun k => comp (P (k.val / 3)) (k.val % 3)
def upd (P:Nat → V) (c:Nat) (v:V):Nat → V:=fun i => if i = c then v else P i
def cnv (p:V):V:=(cn .f32 p.1,cn .f32 p.2.1,cn .f32 p.2.2)

theorem vec_at {w:World} {g n:Nat} {P:Nat → V} {T:TypeId} (h:w.heap[g]? = some (.cells (vecs n P) T (0,0))) (i:Nat) (hi:i < n) :
  w.cell? ⟨g,i * 3,none⟩ = some (F1 (P i).1) ∧ w.cell? ⟨g,i * 3 + 1,none⟩ = some (F1 (P i).2.1) ∧ w.cell? ⟨g,i * 3 + 2,none⟩ = some (F1 (P i).2.2):=by
 have key:∀ j,j < 3 → w.cell? ⟨g,i * 3 + j,none⟩ = some (comp (P i) j):=fun j hj => by
  have hlt:i * 3 + j < 3 * n:=by omega
  have e1:(i * 3 + j) / 3 = i:=by omega
  have e2:(i * 3 + j) % 3 = j:=by omega
  simp [World.cell?,h,vecs,hlt,e1,e2]
 exact ⟨key 0 (by omega),key 1 (by omega),key 2 (by omega)⟩

theorem vec_frozen {w:World} {g n:Nat} {P:Nat → V} {T:TypeId} (h:w.heap[g]? = some (.cells (vecs n P) T (0,0))) (o:Nat):w.frozen? ⟨g,o,none⟩ = false:=by
 simp [World.frozen?,h]

theorem vecs_set (n:Nat) (P:Nat → V) (c x y z:Nat) :
  (((vecs n P).setIfInBounds (c * 3) (F1 x)).setIfInBounds (c * 3 + 1) (F1 y)).setIfInBounds (c * 3 + 2) (F1 z) = vecs n (upd P c (x,y,z)):=by
 refine Array.ext (by simp [vecs]) fun k h1 h2 => ?_
 have hk:k < 3 * n:=by simpa [vecs] using h2
 rw [Array.getElem_setIfInBounds (by simpa [vecs] using hk),Array.getElem_setIfInBounds (by simpa [vecs] using hk),Array.getElem_setIfInBounds (by simpa [vecs] using hk)]
 simp only [vecs,Array.getElem_ofFn,upd]
 by_cases e2:c * 3 + 2 = k
 ·have:k / 3 = c:=by omega
  have h3:k % 3 = 2:=by omega
  simp [e2,this,h3,comp]
 ·by_cases e1:c * 3 + 1 = k
  ·have:k / 3 = c:=by omega
   have h3:k % 3 = 1:=by omega
   simp [e2,e1,this,h3,comp]
  ·by_cases e0:c * 3 = k
   ·have:k / 3 = c:=by omega
    have h3:k % 3 = 0:=by omega
    simp [e2,e1,e0,this,h3,comp]
   ·have:k / 3 ≠ c:=by omega
    simp [e2,e1,e0,this]

theorem vec_set {w:World} {g n:Nat} {P:Nat → V} {T:TypeId} (h:w.heap[g]? = some (.cells (vecs n P) T (0,0))) (c x y z:Nat) :
  (((w.setCell ⟨g,c * 3,none⟩ (F1 x)).setCell ⟨g,c * 3 + 1,none⟩ (F1 y)).setCell ⟨g,c * 3 + 2,none⟩ (F1 z)).heap[g]? = some (.cells (vecs n (upd P c (x,y,z))) T (0,0)):=by
 rw [← vecs_set]
 simp only [World.setCell,Array.getElem?_modify,if_true,h,Option.map_some]
 rfl

set_option maxRecDepth 100000 in
theorem make_vecs (n:Nat) (hn:n ≤ 16) (w:World):(Instr.makeSlice 64 (.int .i64 (n:Int)) (.int .i64 (n:Int))).run Tryz.prog w = .ok (.slice (some ⟨w.heap.size,0,none⟩) n n) (w.alloc (.cells (vecs n fun _ => (0,0,0)) 38)):=by
 have:n = 0 ∨ n = 1 ∨ n = 2 ∨ n = 3 ∨ n = 4 ∨ n = 5 ∨ n = 6 ∨ n = 7 ∨ n = 8 ∨ n = 9 ∨ n = 10 ∨ n = 11 ∨ n = 12 ∨ n = 13 ∨ n = 14 ∨ n = 15 ∨ n = 16:=by omega
 rcases this with h | h | h | h | h | h | h | h | h | h | h | h | h | h | h | h | h  <;> subst h <;> (first | rfl | (show _ = _;kernel_rfl))

theorem kids_in {k:Int} (h:0 ≤ k ∧ k ≤ 16):(inI k 0 4 = decide ((ruleF k).2.1 = 0)) ∧ (inI k 5 8 = decide ((ruleF k).2.1 = 2)):=by
 have:k = 0 ∨ k = 1 ∨ k = 2 ∨ k = 3 ∨ k = 4 ∨ k = 5 ∨ k = 6 ∨ k = 7 ∨ k = 8 ∨ k = 9 ∨ k = 10 ∨ k = 11 ∨ k = 12 ∨ k = 13 ∨ k = 14 ∨ k = 15 ∨ k = 16:=by omega
 rcases this with h | h | h | h | h | h | h | h | h | h | h | h | h | h | h | h | h <;> subst h <;> decide

/-- One node's children get their points. -/
def stepP (n:PN) (i:Nat) (C:Nat → V):Nat → V :=
 if inI n.kind 0 4 then C
 else if inI n.kind 5 8 then upd (upd C n.a.toNat (pointS n (C i))) n.b.toNat (upd C n.a.toNat (pointS n (C i)) i)
 else upd C n.a.toNat (pointS n (C i))
/-- .. of the last d nodes. -/
def runP (ns:List PN) (p:V):Nat → (Nat → V)
 | 0 => upd (fun _ => (0,0,0)) (ns.length - 1) p
 | d + 1 => match ns[ns.length - 1 - d]? with
  | none => runP ns p d
  | some n => stepP n (ns.length - 1 - d) (runP ns p d)

inductive PhiQ (n:PN):FuncId → Array Value → Value → Prop
 | point (pa:Addr) (x y z a b c:Nat) (h:cnv (a,b,c) = pointS n (cn .f32 x,cn .f32 y,cn .f32 z)):PhiQ n 263 #[.pointer (some pa),V3 x y z] (V3 a b c)

/-- The points come back. -/
def RetP (ns:List PN) (p:V) (w:World) (e:Ending) (w':World):Prop :=
 ∃ g P,e = .returned (.slice (some ⟨g,0,none⟩) ns.length ns.length) ∧ w'.heap[g]? = some (.cells (vecs ns.length P) 38 (0,0)) ∧ (∀ i,cnv (P i) = runP ns p ns.length i) ∧ Below w.heap.size w w' ∧ w.heap.size ≤ g

set_option maxRecDepth 100000 in
set_option maxHeartbeats 4000000 in
theorem s_points_any (ns:List PN) (hok:OkAll ns) (hl:1 ≤ ns.length ∧ ns.length ≤ 16) (sb so nb no cap x y z:Nat) (w:World) (hsh:ShapeIn ns sb so nb no cap w) :
  Calls Tryz.prog 230 #[.pointer (some ⟨sb,so,none⟩),V3 x y z] w (RetP ns (cn .f32 x,cn .f32 y,cn .f32 z) w):=by
 have hlist:=hsh.list
 have hsb:sb < w.heap.size:=some_lt (a:=⟨sb,so,none⟩) (by rw [hlist];rfl)
 have hr1:(1:Int) ≤ (ns.length:Int):=by omega
 have hr2:(ns.length:Int) ≤ 16:=by omega
 have hr0:(0:Int) ≤ (ns.length:Int) - 1:=by omega
 have hr3:((ns.length:Int) - 1).toNat = ns.length - 1:=by omega
 go_enter Tryz.func230,Tryz.ntmps230
 go_wp2_with fail
 rw [make_vecs _ hl.2]
 generalize hZ:vecs ns.length (fun _ => (0,0,0)) = Z
 have W1b:Below w.heap.size w ((w.alloc (.cells #[F1 x,F1 y,F1 z] 38)).alloc (.cells Z 38)):=(by repeat' (first | exact Below.refl _ _ | exact Nat.le_refl _ | refine below_drewN ?_ _ | refine Below.alloc ?_ (by simp <;> omega) _ | refine Below.setCell ?_ (by simp <;> omega) _ | refine below_step ?_ (by assumption)))

 have hbox:Kept [(⟨w.heap.size,0,none⟩,F1 x),(⟨w.heap.size,1,none⟩,F1 y),(⟨w.heap.size,2,none⟩,F1 z)] [] ((w.alloc (.cells #[F1 x,F1 y,F1 z] 38)).alloc (.cells Z 38)):=by
  simp only [Kept,ka,kb,kc,kd,ke,kfa,kga];simp
 have hpar:=heap_alloc_at (w.alloc (.cells #[F1 x,F1 y,F1 z] 38)) (.cells Z 38)
 have hsz:((w.alloc (.cells #[F1 x,F1 y,F1 z] 38))).heap.size = w.heap.size + 1:=by simp
 rw [hsz] at hpar ⊢
 generalize (w.alloc (.cells #[F1 x,F1 y,F1 z] 38)).alloc (.cells Z 38) = W1 at *
 subst hZ
 clear hsz
 have hK:=hbox
 simp only [Kept,ka,kb,kc,kd,ke,kfa,kga] at hK
 obtain ⟨hc0,hc1,hc2⟩:=vec_at hpar (ns.length - 1) (by omega)
 have hfz:=vec_frozen hpar
 go_wp2_with fail
 have hset0:=vec_set hpar (ns.length - 1) x y z
 have hb0:Below w.heap.size w (((W1.setCell ⟨w.heap.size + 1,(ns.length - 1) * 3,none⟩ (F1 x)).setCell ⟨w.heap.size + 1,(ns.length - 1) * 3 + 1,none⟩ (F1 y)).setCell ⟨w.heap.size + 1,(ns.length - 1) * 3 + 2,none⟩ (F1 z)) :=
  ((W1b.setCell (by exact Nat.le_succ _) _).setCell (by exact Nat.le_succ _) _).setCell (by exact Nat.le_succ _) _
 clear hc0 hc1 hc2 hfz hK hbox hpar W1b
 go_loopw [6] (fun i wr => ∃ (m:Nat) (P:Nat → V),m ≤ ns.length ∧ i = .int .i64 ((m:Int) - 1) ∧ wr.heap[w.heap.size + 1]? = some (.cells (vecs ns.length P) 38 (0,0)) ∧ (∀ j,cnv (P j) = runP ns (cn .f32 x,cn .f32 y,cn .f32 z) (ns.length - m) j) ∧ Below w.heap.size w wr) (fun i _ => (intOf i + 1).toNat)
 case atStart => exact ⟨ns.length,_,by omega,rfl,hset0,fun j => by
  rw [Nat.sub_self]
  show cnv (upd _ _ _ j) = upd _ _ _ j
  unfold upd
  split
  ·rfl
  ·show (cn .f32 0,cn .f32 0,cn .f32 0) = _
   rw [cn_zero],hb0⟩
 case round =>
  obtain ⟨m,P,hm,rfl,hpar,hC,Wb⟩:=hrel
  clear hset0 hb0
  cases m with
  | zero =>
   go_wp2_with fail
   go_ret
   exact ⟨w.heap.size + 1,P,rfl,hpar,hC,Wb,by omega⟩
  | succ k =>
   have hk1:((k + 1:Nat):Int) - 1 = (k:Int):=by omega
   rw [hk1]
   have hk0:(0:Int) ≤ (k:Int):=by omega
   have hkl:(k:Int) < (ns.length:Int):=by omega
   have hkn:k < ns.length:=by omega
   have hn0:=hsh.node k hkn
   have hn:=hn0.keep Wb
   have hSr:=(hsh.keep Wb).list
   have hnb:nb < w.heap.size:=some_lt (a:=⟨nb,no + k * 4,none⟩) (by rw [(hsh.node k hkn).kind];rfl)
   obtain ⟨hokn,hca,hcb⟩:=hok k hkn
   have hrun:∀ C,runP ns C (ns.length - k) = stepP ns[k] k (runP ns C (ns.length - (k + 1))):=fun C => by
    have h1:ns.length - k = (ns.length - (k + 1)) + 1:=by omega
    have h2:ns.length - 1 - (ns.length - (k + 1)) = k:=by omega
    rw [h1,runP,h2,List.getElem?_eq_getElem hkn]
   obtain ⟨hki1,hki2⟩:=kids_in hokn.kind
   generalize ns[k] = n at *
   have hleaf:∀ (w:World),Calls Tryz.prog 119 #[.int .i64 n.kind] w (fun e w' => e = .returned (.bool (inI n.kind 0 4)) ∧ w = w'):=fun w => s_leaf_any _ w
   have htwo:∀ (w:World),Calls Tryz.prog 120 #[.int .i64 n.kind] w (fun e w' => e = .returned (.bool (inI n.kind 5 8)) ∧ w = w'):=fun w => s_two_any _ w
   have hkind:=hn.kind
   cases hlf:inI n.kind 0 4
   ·rw [hlf] at hki1
    have hne:(ruleF n.kind).2.1 ≠ 0:=by simpa using hki1.symm
    obtain ⟨ca,hcaI⟩:=Int.eq_ofNat_of_zero_le (hca hne).1
    have hcal:ca < k:=by have:=(hca hne).2;omega
    have hcan:ca < ns.length:=by omega
    have hcaL:(ca:Int) < (ns.length:Int):=by omega
    obtain ⟨p0,p1,p2⟩:=vec_at hpar k hkn
    have hA:=hn.a
    rw [hcaI] at hA
    have hkept:Kept [(⟨nb,no + k * 4 + 1,none⟩,.int .i64 (ca:Int)),(⟨w.heap.size + 1,k * 3,none⟩,F1 (P k).1),(⟨w.heap.size + 1,k * 3 + 1,none⟩,F1 (P k).2.1),(⟨w.heap.size + 1,k * 3 + 2,none⟩,F1 (P k).2.2)] [] wr:=by
     simp only [Kept,ka,kb,kc,kd,ke,kfa,kga]
     exact ⟨hA,p0,p1,p2⟩
    have hHki2:=Lib.hid hki2
    have hHC:=Lib.hid hC
    have hHrun:=Lib.hid hrun
    have hHn0:=Lib.hid hn0
    clear hn0 p0 p1 p2 hA hki1 hki2 hC hrun hsh hok hlist
    go_upto_region 8 with (go_at_call 119;refine (hleaf _).mono ?_;rintro _ w4 ⟨rfl,rfl⟩;rw [hlf])
    refine Qr.wp_below 12 (by kernel_rfl) (by kernel_rfl) (PhiQ n) ?_
    repeat (first | (refine Qr.walk_plain rfl fun K hK => ?_;apply Qr.one_det;(focus (intro w' hw';have HK:=keep hkept hw';simp only [Kept,ka,kb,kc,kd,ke,kfa,kga] at HK;go_simp;first | done | rfl));go_simp;refine hK _ ?_;clear hK K) | (refine Qr.walk_plain rfl fun K hK => ?_;apply Qr.one_call;(focus (intro w' hw';go_simp;first | done | exact ⟨rfl,rfl⟩));(focus (intro w' hw'; go_at_call 263;refine (s_point_node (hn.keep hw') hokn hne _ _ _).mono ?_;rintro _ w2 ⟨x1,y1,z1,rfl,hx1,hy1,hz1,hb1⟩;exact ⟨_,rfl,PhiQ.point _ _ _ _ _ _ _ (by show (_,_,_) = _;rw [hx1,hy1,hz1]),below_step hw' (by assumption),by assumption⟩));intro v hv;obtain ⟨_,_,_,_,x1,y1,z1,hv⟩:=hv;go_simp;refine hK _ ?_;clear hK K))
    refine Qr.walk_nil fun w6 hw6 => ?_
    have hpar6:w6.heap[w.heap.size + 1]? = some (.cells (vecs ns.length P) 38 (0,0)):=by
     rw [hw6.block (w.heap.size + 1) (Array.getElem?_eq_some_iff.1 hpar).1];exact hpar
    have W6b:=below_step Wb hw6
    have hn6:=hn.keep hw6
    obtain ⟨q0,q1,q2⟩:=vec_at hpar6 ca hcan
    have hfz:=vec_frozen hpar6
    clear hn6 hkept hn hkind hw6 hpar Wb hSr
    go_upto_region 9 with fail
    have hset:=vec_set hpar6 ca x1 y1 z1
    have W7b:=((W6b.setCell (p:=⟨w.heap.size + 1,ca * 3,none⟩) (by exact Nat.le_succ _) (F1 x1)).setCell (p:=⟨w.heap.size + 1,ca * 3 + 1,none⟩) (by exact Nat.le_succ _) (F1 y1)).setCell (p:=⟨w.heap.size + 1,ca * 3 + 2,none⟩) (by exact Nat.le_succ _) (F1 z1)
    generalize ((w6.setCell ⟨w.heap.size + 1,ca * 3,none⟩ (F1 x1)).setCell ⟨w.heap.size + 1,ca * 3 + 1,none⟩ (F1 y1)).setCell ⟨w.heap.size + 1,ca * 3 + 2,none⟩ (F1 z1) = w7 at hset W7b ⊢
    clear q0 q1 q2 hfz hpar6 W6b
    have hn7:=hHn0.out.keep W7b
    have hkind:=hn7.kind
    have hHa:=Lib.hid hcaI
    clear hcaI
    have hC1:Hid (∀ j,cnv (upd P ca (x1,y1,z1) j) = upd (runP ns (cn .f32 x,cn .f32 y,cn .f32 z) (ns.length - (k + 1))) ca (pointS n (runP ns (cn .f32 x,cn .f32 y,cn .f32 z) (ns.length - (k + 1)) k)) j):=fun j => by
     unfold upd
     split
     ·rw [hv,← hHC.out k];rfl
     ·exact hHC.out j
    have hBk:inI n.kind 5 8 = true → 0 ≤ n.b ∧ n.b < (k:Int):=fun h => hcb (by rw [hHki2.out] at h;simpa using h)
    generalize upd P ca (x1,y1,z1) = P1 at *
    clear hv hHC
    cases htw:inI n.kind 5 8
    ·go_wp2_with (go_at_call 120;refine (htwo _).mono ?_;rintro _ w4 ⟨rfl,rfl⟩;rw [htw])
     exact ⟨⟨k,P1,by omega,rfl,hset,fun j => by rw [hHrun.out,stepP,hlf,htw,hHa.out];exact hC1.out j,W7b⟩,by first | (simp [intOf];done) | (simp [intOf];omega)⟩
    ·obtain ⟨cb,hcbI⟩:=Int.eq_ofNat_of_zero_le (hBk htw).1
     have hcbl:cb < k:=by have:=(hBk htw).2;omega
     have hcbn:cb < ns.length:=by omega
     have hcbL:(cb:Int) < (ns.length:Int):=by omega
     have hB:=hn7.b
     rw [hcbI] at hB
     obtain ⟨p0,p1,p2⟩:=vec_at hset k hkn
     have hkept:Kept [(⟨nb,no + k * 4 + 2,none⟩,.int .i64 (cb:Int)),(⟨w.heap.size + 1,k * 3,none⟩,F1 (P1 k).1),(⟨w.heap.size + 1,k * 3 + 1,none⟩,F1 (P1 k).2.1),(⟨w.heap.size + 1,k * 3 + 2,none⟩,F1 (P1 k).2.2)] [] w7:=by
      simp only [Kept,ka,kb,kc,kd,ke,kfa,kga]
      exact ⟨hB,p0,p1,p2⟩
     have hHb:=Lib.hid hcbI
     clear p0 p1 p2 hB hcbI hBk hn7
     go_upto_region 10 with (go_at_call 120;refine (htwo _).mono ?_;rintro _ w4 ⟨rfl,rfl⟩;rw [htw])
     clear hkind
     refine Qr.wp_below 10 (by kernel_rfl) (by kernel_rfl) (PhiQ n) ?_
     repeat (refine Qr.walk_plain rfl fun K hK => ?_;apply Qr.one_det;(focus (intro w' hw';have HK:=keep hkept hw';simp only [Kept,ka,kb,kc,kd,ke,kfa,kga] at HK;go_simp;first | done | rfl));go_simp;refine hK _ ?_;clear hK K)
     refine Qr.walk_nil fun w8 hw8 => ?_
     have hpar8:w8.heap[w.heap.size + 1]? = some (.cells (vecs ns.length P1) 38 (0,0)):=by
      rw [hw8.block (w.heap.size + 1) (Array.getElem?_eq_some_iff.1 hset).1];exact hset
     have W8b:=below_step W7b hw8
     obtain ⟨q0,q1,q2⟩:=vec_at hpar8 cb hcbn
     have hfz:=vec_frozen hpar8
     have hset2:=vec_set hpar8 cb (P1 k).1 (P1 k).2.1 (P1 k).2.2
     have W9b:=((W8b.setCell (p:=⟨w.heap.size + 1,cb * 3,none⟩) (by exact Nat.le_succ _) (F1 (P1 k).1)).setCell (p:=⟨w.heap.size + 1,cb * 3 + 1,none⟩) (by exact Nat.le_succ _) (F1 (P1 k).2.1)).setCell (p:=⟨w.heap.size + 1,cb * 3 + 2,none⟩) (by exact Nat.le_succ _) (F1 (P1 k).2.2)
     clear hkept hw8 hset W7b hpar8 W8b
     have hHset:=Lib.hid hset2
     clear hset2
     go_wp2_with fail
     exact ⟨⟨k,upd P1 cb (P1 k),by omega,rfl,hHset.out,fun j => by
      rw [hHrun.out,stepP,hlf,htw,hHa.out,hHb.out]
      show _ = upd _ _ _ _
      have h1:=hC1.out
      unfold upd at h1 ⊢
      split
      ·rename_i hj;rw [hj] at *;simp only [Int.toNat_natCast,if_true];rw [h1 k];try rfl
      ·rename_i hj;rw [h1 j];simp only [Int.toNat_natCast,hj,if_false];try rfl,W9b⟩,by first | (simp [intOf];done) | (simp [intOf];omega)⟩
   ·have hC1:∀ j,cnv (P j) = runP ns (cn .f32 x,cn .f32 y,cn .f32 z) (ns.length - k) j:=fun j => by rw [hrun,stepP,hlf];exact hC j
    have htw:inI n.kind 5 8 = false:=by
     simp only [inI,Bool.and_eq_true,decide_eq_true_eq,Bool.and_eq_false_iff,decide_eq_false_iff_not] at hlf ⊢
     omega
    have hHC:=Lib.hid hC1
    clear hC1 hC hrun hki1 hki2 hsh hok hlist hca hcb hn0
    go_wp2_with (go_at_call 119;refine (hleaf _).mono ?_;rintro _ w4 ⟨rfl,rfl⟩;rw [hlf])
    exact ⟨⟨k,P,by omega,rfl,hpar,hHC.out,Wb⟩,by first | (simp [intOf];done) | (simp [intOf];omega)⟩
end Go.Proofs.YtbiacfkiakddiaaGreat

namespace Go.Proofs.YtbiacfkiakddiaaGreat
open Go.RowKit Go.Fl Go.ChangeShapes Go.WideShapes Go.Deep
section
variable {H:Type} {enc:TypeId × Value → H} {P:Program} {w:World} {base:Nat} {spare:Nat → Bool} {held:Bool}
theorem trod_flt {t:TypeId} {k:FloatKind} {fuel:Nat} {cs:List Value} {x:DataW H × List MemPlace} (ht:P.underlying t = some (.float k)) (h:DataW.trod enc P w base spare held fuel t cs = some x):∃ b,cs = [.float k b]:=by
 cases fuel with
 | zero => simp [DataW.trod] at h
 | succ n =>
  unfold DataW.trod at h
  rw [ht] at h
  split at h <;> simp_all

theorem add_off (a:Addr) (i j:Nat) (h:a.spot = none):(a.add i).add j = ⟨a.block,a.off + i + j,none⟩:=by
 obtain ⟨b,o,s⟩:=a
 simp only at h
 subst h
 rw [Go.WideShapes.add_plain,Go.WideShapes.add_plain]
end
theorem four {α:Type} {l:List α} (h:l.length = 4):∃ a b c d,l = [a,b,c,d]:=by
 match l,h with
 | [a,b,c,d],_ => exact ⟨a,b,c,d,rfl⟩

theorem list_of {Pp:Nat → PN → Prop}:∀ n,(∀ i,i < n → ∃ x,Pp i x) → ∃ ns:List PN,ns.length = n ∧ ∀ i (h:i < ns.length),Pp i ns[i]
 | 0,_ => ⟨[],rfl,fun i h => by simp at h⟩
 | n + 1,h => by
  obtain ⟨ns,h1,h2⟩:=list_of n (fun i hi => h i (by omega))
  obtain ⟨x,hx⟩:=h n (by omega)
  refine ⟨ns ++ [x],by simp [h1],fun i hi => ?_⟩
  by_cases e:i < ns.length
  ·rw [List.getElem_append_left e];exact h2 i e
  ·have:i = n:=by simp at hi;omega
   subst this
   rw [List.getElem_append_right (by omega)]
   simpa [h1] using hx

theorem nats_of {Pp:Nat → Nat → Prop}:∀ n,(∀ i,i < n → ∃ x,Pp i x) → ∃ ns:List Nat,ns.length = n ∧ ∀ i (h:i < ns.length),Pp i ns[i]
 | 0,_ => ⟨[],rfl,fun i h => by simp at h⟩
 | n + 1,h => by
  obtain ⟨ns,h1,h2⟩:=nats_of n (fun i hi => h i (by omega))
  obtain ⟨x,hx⟩:=h n (by omega)
  refine ⟨ns ++ [x],by simp [h1],fun i hi => ?_⟩
  by_cases e:i < ns.length
  ·rw [List.getElem_append_left e];exact h2 i e
  ·have:i = n:=by simp at hi;omega
   subst this
   rw [List.getElem_append_right (by omega)]
   simpa [h1] using hx

/-- A list of numbers that came in. -/
theorem open_nums {H:Type} {enc:TypeId × Value → H} {w:World} {base fuel:Nat} {spare:Nat → Bool} {held:Bool} {cs:List Value} {x:DataW H × List MemPlace} (h:DataW.trod enc Tryz.prog w base spare held fuel 140 cs = some x) :
  ∃ (xs:List Nat) (bp:Option Addr) (bv ov cap:Nat),cs = [.slice bp xs.length cap] ∧ xs.length ≤ maxLen ∧ (xs ≠ [] → bp = some ⟨bv,ov,none⟩) ∧ ∀ i (h:i < xs.length),w.cell? ⟨bv,ov + i,none⟩ = some (F1 xs[i]):=by
 rcases open_slice1 Tryz.underlying140 (by kernel_rfl) h with ⟨rfl,-⟩ | ⟨a,len,cap,m,n,V,D,Pl,rfl,-,hlc,hcm,hmm,-,hcell⟩
 ·exact ⟨[],none,0,0,0,rfl,Nat.zero_le _,fun h => absurd rfl h,fun i hi => by simp at hi⟩
 ·have hm:len ≤ m:=by rw [hmm];split <;> omega
  have hx:∀ i,i < len → ∃ b,w.cell? (a.add i) = some (F1 b):=fun i hi => by
   obtain ⟨h1,h2⟩:=hcell i (by omega)
   obtain ⟨b,hb⟩:=trod_flt Tryz.underlying25 h2
   injection hb with hb
   exact ⟨b,by rw [h1,hb]⟩
  obtain ⟨xs,rfl,hxs⟩:=nats_of len hx
  obtain ⟨b,off,spot⟩:=a
  refine ⟨xs,some ⟨b,off,spot⟩,b,off,cap,rfl,by omega,fun hne => ?_,fun i hi => ?_⟩
  ·have h0:0 < xs.length:=List.length_pos_iff.2 hne
   have:=World.cell?_spot (hxs 0 h0)
   have hspot:spot = none:=by simpa [Addr.add] using this
   rw [hspot]
  ·have h0:0 < xs.length:=by omega
   have:=World.cell?_spot (hxs 0 h0)
   have hspot:spot = none:=by simpa [Addr.add] using this
   subst hspot
   rw [← Go.WideShapes.add_plain]
   exact hxs i hi

theorem trod_i64 {H:Type} {enc:TypeId × Value → H} {w:World} {base fuel:Nat} {spare:Nat → Bool} {held:Bool} {cs:List Value} {x:DataW H × List MemPlace} (h:DataW.trod enc Tryz.prog w base spare held fuel 2 cs = some x):∃ n,cs = [.int .i64 n]:=by
 obtain ⟨n,h1,-⟩:=DataW.trod_int Tryz.underlying2 h
 exact ⟨n,h1⟩

set_option maxRecDepth 100000 in
/-- A list of nodes that came in. -/
theorem open_nodes {H:Type} {enc:TypeId × Value → H} {w:World} {base fuel:Nat} {spare:Nat → Bool} {held:Bool} {cs:List Value} {x:DataW H × List MemPlace} (h:DataW.trod enc Tryz.prog w base spare held fuel 22 cs = some x) :
  ∃ (ns:List PN) (bp:Option Addr) (nb no cap:Nat),cs = [.slice bp ns.length cap] ∧ NodesIn ns bp nb no w:=by
 rcases open_slice Tryz.underlying22 h with ⟨rfl,-⟩ | ⟨a,len,cap,m,n,D,Pl,rfl,-,hlc,hcm,hmm,-,hel⟩
 ·exact ⟨[],none,0,0,0,rfl,fun h => absurd rfl h,fun i hi => by simp at hi,Nat.zero_le _,fun n hn => by cases hn⟩
 ·have hm:len ≤ m:=by rw [hmm];split <;> omega
  have hC:Tryz.prog.cellsOf 175 = 4:=by kernel_rfl
  have hx:∀ i,i < len → ∃ n:PN,(a.spot = none ∧ NodeIn n a.block (a.off + i * 4) w) ∧ n.nums.length ≤ maxLen:=fun i hi => by
   obtain ⟨cs',hc,ht⟩:=hel i (by omega)
   rw [hC] at hc
   obtain ⟨-,hcl,hat⟩:=World.cells?_some hc
   obtain ⟨ys,n',-,-,-,hyl,hf⟩:=DataW.trod_struct Tryz.underlying175 ht
   obtain ⟨c0,c1,c2,c3,rfl⟩:=four hcl
   obtain ⟨y0,y1,y2,y3,rfl⟩:=four (hyl.trans rfl)
   obtain ⟨cs0,hz,-⟩:=hel 0 (by omega)
   rw [hC] at hz
   obtain ⟨-,hzl,hzat⟩:=World.cells?_some hz
   have hz0:=hzat 0 (by omega)
   have hspot:a.spot = none:=by
    obtain ⟨z0,z1,z2,z3,rfl⟩:=four hzl
    have:=World.cell?_spot (show w.cell? ((a.add (0 * 4)).add 0) = some z0 from hz0)
    simpa [Addr.add] using this
   have f0:=hf 0 _ rfl
   have f1:=hf 1 _ rfl
   have f2:=hf 2 _ rfl
   have f3:=hf 3 _ rfl
   have t0:DataW.trod enc Tryz.prog w base spare held n' 2 [c0] = some y0:=f0
   have t1:DataW.trod enc Tryz.prog w base spare held n' 2 [c1] = some y1:=f1
   have t2:DataW.trod enc Tryz.prog w base spare held n' 2 [c2] = some y2:=f2
   have t3:DataW.trod enc Tryz.prog w base spare held n' 140 [c3] = some y3:=f3
   obtain ⟨k,e0⟩:=trod_i64 t0
   obtain ⟨na,e1⟩:=trod_i64 t1
   obtain ⟨nb,e2⟩:=trod_i64 t2
   obtain ⟨xs,bp,bv,ov,cp,e3,hxl,hp,hcells⟩:=open_nums t3
   injection e0 with e0
   injection e1 with e1
   injection e2 with e2
   injection e3 with e3
   have hc0:=hat 0 (by omega)
   have hc1:=hat 1 (by omega)
   have hc2:=hat 2 (by omega)
   have hc3:=hat 3 (by omega)
   have had:∀ j,(a.add (i * 4)).add j = ⟨a.block,a.off + i * 4 + j,none⟩:=fun j => by exact add_off a (i * 4) j hspot
   rw [had] at hc0 hc1 hc2 hc3
   rw [Nat.add_zero] at hc0
   refine ⟨⟨k,na,nb,xs⟩,⟨hspot,⟨?_,?_,?_,bp,bv,ov,cp,?_,hp,hcells⟩⟩,hxl⟩
   ·rw [hc0,← e0];rfl
   ·rw [hc1,← e1];rfl
   ·rw [hc2,← e2];rfl
   ·rw [hc3,← e3];rfl
  obtain ⟨ns,rfl,hns⟩:=list_of len hx
  refine ⟨ns,some a,a.block,a.off,cap,rfl,fun hne => ?_,fun i hi => (hns i hi).1.2,by omega,fun n hn => ?_⟩
  ·have h0:0 < ns.length:=List.length_pos_iff.2 hne
   have:=(hns 0 h0).1.1
   obtain ⟨b,o,s⟩:=a
   simp only at this
   rw [this]
  ·obtain ⟨i,hi,rfl⟩:=List.getElem_of_mem hn
   exact (hns i hi).2

theorem three {α:Type} {l:List α} (h:l.length = 3):∃ a b c,l = [a,b,c]:=by
 match l,h with
 | [a,b,c],_ => exact ⟨a,b,c,rfl⟩
theorem uno {α:Type} {l:List α} (h:l.length = 1):∃ a,l = [a]:=by
 match l,h with
 | [a],_ => exact ⟨a,rfl⟩

open Go.RowKit Go.Fl Go.ChangeShapes Go.WideShapes Go.ChangeAt
theorem own_knob:ownKnob Tryz.prog.godebug = none:=by kernel_rfl
theorem laid_out:laidOutB Tryz.prog = true:=by kernel_rfl

/-- The row's last step where nothing has turned that was there. -/
theorem post_below {H:Type} {enc:TypeId × Value → H} {P:Program} {f:Func} {s:ChangeSpec} {apart fresh handsOn again:Bool} {W W':World} {args:Array Value} {v:Value} {ds gs:List (DataW H)} {before pa pv:List MemPlace}
  (hW:DataW.Whole enc P f.params.toList s.vars apart W args.toList ds gs before)
  (hres:∀ (b:Nat) (sp:Nat → Bool) (hd:Bool),DataW.TrodAll enc P W' b sp hd f.resultTypes.toList (v.resultList f.resultTypes.size) (s.fn H (ds ++ gs)).results [])
  (hargs:∀ sp:Nat → Bool,(∀ p ∈ before,sp p.block = true) → DataW.TrodAll enc P W' 0 sp true f.params.toList args.toList (s.fn H (ds ++ gs)).args pa)
  (hvars:∀ sp:Nat → Bool,(∀ p ∈ before,sp p.block = true) → DataW.TrodVars enc P W' sp s.vars (s.fn H (ds ++ gs)).vars pv)
  (hps:before = pa ++ pv) (hb:Below W.heap.size W W')
  (hok:∀ (j:Nat) (t:TypeId) (r:Value),f.resultTypes[j]? = some t → (v.resultList f.resultTypes.size)[j]? = some r → Value.okWide P W' .any 0 t r) :
  s.post enc P f apart fresh handsOn again W args v W':=by
 have hold:∀ p ∈ before,(fun b => decide (b < W.heap.size)) p.block = true:=fun p hp => by simpa using hW.lt p hp
 refine ⟨ds,gs,before,[],pa,pv,hW,hres _ _ _,hargs _ hold,hvars _ hold,World.keptBut_mono (fun p hp => ⟨hp,?_⟩) (hb.frame (· ∈ before)),fun _ => ?_⟩
 ·rw [hps,List.mem_append] at hp
  exact .inr hp
 ·have hlt:∀ p ∈ before,p.block < W.heap.size:=fun p hp => hW.lt p hp
  obtain ⟨_,_,_,_,_,hz,hn⟩:=hW
  refine ⟨hok,_,_,([] ++ pa) ++ pv,⟨[] ++ pa,pv,trodAll_append (hargs _ (fun _ _ => rfl)) (hres _ _ _),hvars _ (fun _ _ => rfl),rfl,?_,?_⟩,?_⟩
  ·intro b off hp
   have hin:MemPlace.cell b off ∈ before:=by rw [hps];simpa using hp
   have h1:=hlt _ hin
   rw [hb.frozen h1]
   exact hz b off hin
  ·intro ha
   have:=hn ha
   rw [hps] at this
   simpa using this
  ·intro p hp _
   rw [hps]
   simpa using hp

end Go.Proofs.YtbiacfkiakddiaaGreat
