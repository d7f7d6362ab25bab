/-
 Lemmas: W11.
-/
import Derived.Test.YtbiacfkiakddiaaGreatOam
import Derived.Test.YtbiacfkiakddiaaGreatOap
import Derived.Test.YtbiacfkiakddiaaGreatOar
import Derived.Test.YtbiacfkiakddiaaGreatOat
import Derived.Test.YtbiacfkiakddiaaGreatOba
import Derived.Test.YtbiacfkiakddiaaGreatObb
set_option linter.unusedVariables false
set_option linter.unusedSimpArgs false
namespace Go.Proofs.YtbiacfkiakddiaaGreat
open Go.RowKit Go.Fl
structure PN where
 kind:Int
 a:Int
 b:Int
 nums:List Nat

/-- A node lies at a place. -/
structure NodeIn (n:PN) (bb o:Nat) (w:World):Prop where
 kind:w.cell? ⟨bb,o,none⟩ = some (.int .i64 n.kind)
 a:w.cell? ⟨bb,o + 1,none⟩ = some (.int .i64 n.a)
 b:w.cell? ⟨bb,o + 2,none⟩ = some (.int .i64 n.b)
 nums:∃ bp bv ov cap,w.cell? ⟨bb,o + 3,none⟩ = some (.slice bp n.nums.length cap) ∧ (n.nums ≠ [] → bp = some ⟨bv,ov,none⟩) ∧ ∀ i (h:i < n.nums.length),w.cell? ⟨bv,ov + i,none⟩ = some (F1 n.nums[i])

theorem NodeIn.keep {n:PN} {b o:Nat} {w w':World} (h:NodeIn n b o w) (hb:Below w.heap.size w w'):NodeIn n b o w':=by
 have l:=fun a v (h:w.cell? a = some v) => (show w'.cell? a = some v by rw [lift hb a (by rw [h];rfl)];exact h)
 obtain ⟨bp,bv,ov,cap,h1,h2,h3⟩:=h.nums
 exact ⟨l _ _ h.kind,l _ _ h.a,l _ _ h.b,bp,bv,ov,cap,l _ _ h1,h2,fun i hi => l _ _ (h3 i hi)⟩

structure PN.ok (n:PN):Prop where
 kind:0 ≤ n.kind ∧ n.kind ≤ 16
 nums:n.nums.length = (ruleF n.kind).1
 axis:(ruleF n.kind).2.1 = 2 ∨ n.b = 0 ∨ ((ruleF n.kind).2.2.1 = true ∧ 0 ≤ n.b ∧ n.b ≤ 2)

def leafF (n:PN) (x y z:Nat):Nat :=
 match n.kind,n.nums.map (cn .f32) with
 | 0,[r] => ballF x y z r
 | 1,[u,v,t] => boxF x y z u v t
 | 2,[h,r] => tubeF x y z h r
 | 3,[u,r] => ringF x y z u r
 | 4,[a,b,c,d] => planeF x y z a b c d
 | _,_ => 0
def mixF (n:PN) (x y:Nat):Nat :=
 match n.kind,n.nums.map (cn .f32) with
 | 5,_ => lesserF x y
 | 6,_ => greaterF x y
 | 7,_ => greaterF x (negc .f32 y)
 | 8,[k] => smoothF x y k
 | 10,[r] => B .mul x r
 | 15,[r] => B .sub x r
 | 16,[r] => B .sub (sizeF x) r
 | _,_ => x
def pointF (n:PN) (p:Nat × Nat × Nat):Nat × Nat × Nat :=
 match n.kind,n.b,n.nums.map (cn .f32) with
 | 9,_,[a,b,c] => (B .sub p.1 a,B .sub p.2.1 b,B .sub p.2.2 c)
 | 10,_,[r] => (B .quo p.1 r,B .quo p.2.1 r,B .quo p.2.2 r)
 | 11,_,[a,b,c] => (B .quo p.1 a,B .quo p.2.1 b,B .quo p.2.2 c)
 | 12,0,[t] => (p.1,turn1 t p.2.1 p.2.2,turn2 t p.2.1 p.2.2)
 | 12,1,[t] => (turn2 t p.2.2 p.1,p.2.1,turn1 t p.2.2 p.1)
 | 12,2,[t] => (turn1 t p.1 p.2.1,turn2 t p.1 p.2.1,p.2.2)
 | 13,0,_ => (sizeF p.1,p.2.1,p.2.2)
 | 13,1,_ => (p.1,sizeF p.2.1,p.2.2)
 | 13,2,_ => (p.1,p.2.1,sizeF p.2.2)
 | 14,0,[s] => (foldedF p.1 s,p.2.1,p.2.2)
 | 14,1,[s] => (p.1,foldedF p.2.1 s,p.2.2)
 | 14,2,[s] => (p.1,p.2.1,foldedF p.2.2 s)
 | _,_,_ => p

theorem len1 {l:List Nat} (h:l.length = 1):∃ a,l = [a]:=by
 match l,h with
 | [a],_ => exact ⟨a,rfl⟩
theorem len2 {l:List Nat} (h:l.length = 2):∃ a b,l = [a,b]:=by
 match l,h with
 | [a,b],_ => exact ⟨a,b,rfl⟩
theorem len3 {l:List Nat} (h:l.length = 3):∃ a b c,l = [a,b,c]:=by
 match l,h with
 | [a,b,c],_ => exact ⟨a,b,c,rfl⟩
theorem len4 {l:List Nat} (h:l.length = 4):∃ a b c d,l = [a,b,c,d]:=by
 match l,h with
 | [a,b,c,d],_ => exact ⟨a,b,c,d,rfl⟩

theorem leaf_node {n:PN} {b o:Nat} {w:World} (hn:NodeIn n b o w) (hok:n.ok) (hc:(ruleF n.kind).2.1 = 0) (x y z:Nat) :
  Calls Tryz.prog 217 #[.pointer (some ⟨b,o,none⟩),V3 x y z] w (Ret .f32 (leafF n (cn .f32 x) (cn .f32 y) (cn .f32 z)) w):=by
 obtain ⟨bp,bv,ov,cap,h1,h2,h3⟩:=hn.nums
 have hk:=hn.kind
 have hr:=hok.kind
 have hl:=hok.nums
 obtain ⟨k,na,nb,nums⟩:=n
 simp only at *
 have:k = 0 ∨ k = 1 ∨ k = 2 ∨ k = 3 ∨ k = 4 ∨ k = 5 ∨ k = 6 ∨ k = 7 ∨ k = 8 ∨ k = 9 ∨ k = 10 ∨ k = 11 ∨ k = 12 ∨ k = 13 ∨ k = 14 ∨ k = 15 ∨ k = 16:=by omega
 rcases this with h | h | h | h | h | h | h | h | h | h | h | h | h | h | h | h | h <;> subst h
 ·obtain ⟨r,rfl⟩:=len1 hl
  have:=h2 (by simp)
  subst this
  exact leaf_ball b o bv ov cap r x y z w hk h1 (h3 0 (by simp))
 ·obtain ⟨r,s,t,rfl⟩:=len3 hl
  have:=h2 (by simp)
  subst this
  exact leaf_box b o bv ov cap r s t x y z w hk h1 (h3 0 (by simp)) (h3 1 (by simp)) (h3 2 (by simp))
 ·obtain ⟨r,s,rfl⟩:=len2 hl
  have:=h2 (by simp)
  subst this
  exact leaf_tube b o bv ov cap r s x y z w hk h1 (h3 0 (by simp)) (h3 1 (by simp))
 ·obtain ⟨r,s,rfl⟩:=len2 hl
  have:=h2 (by simp)
  subst this
  exact leaf_ring b o bv ov cap r s x y z w hk h1 (h3 0 (by simp)) (h3 1 (by simp))
 ·obtain ⟨r,s,t,u,rfl⟩:=len4 hl
  have:=h2 (by simp)
  subst this
  exact leaf_plane b o bv ov cap r s t u x y z w hk h1 (h3 0 (by simp)) (h3 1 (by simp)) (h3 2 (by simp)) (h3 3 (by simp))
 all_goals exact absurd hc (by decide)

theorem mix_node {n:PN} {b o:Nat} {w:World} (hn:NodeIn n b o w) (hok:n.ok) (hc:(ruleF n.kind).2.1 ≠ 0) (x y:Nat) :
  Calls Tryz.prog 234 #[.pointer (some ⟨b,o,none⟩),F1 x,F1 y] w (Ret .f32 (mixF n (cn .f32 x) (cn .f32 y)) w):=by
 obtain ⟨bp,bv,ov,cap,h1,h2,h3⟩:=hn.nums
 have hk:=hn.kind
 have hr:=hok.kind
 have hl:=hok.nums
 obtain ⟨k,na,nb,nums⟩:=n
 simp only at *
 have:k = 0 ∨ k = 1 ∨ k = 2 ∨ k = 3 ∨ k = 4 ∨ k = 5 ∨ k = 6 ∨ k = 7 ∨ k = 8 ∨ k = 9 ∨ k = 10 ∨ k = 11 ∨ k = 12 ∨ k = 13 ∨ k = 14 ∨ k = 15 ∨ k = 16:=by omega
 rcases this with h | h | h | h | h | h | h | h | h | h | h | h | h | h | h | h | h <;> subst h
 iterate 5 exact absurd rfl hc
 ·exact mix_union b o x y w hk
 ·exact mix_cut b o x y w hk
 ·exact mix_less b o x y w hk
 ·obtain ⟨r,rfl⟩:=len1 hl
  have:=h2 (by simp)
  subst this
  exact mix_smooth b o bv ov cap r x y w hk h1 (h3 0 (by simp))
 ·exact mix_move b o x y w hk
 ·obtain ⟨r,rfl⟩:=len1 hl
  have:=h2 (by simp)
  subst this
  exact mix_scale b o bv ov cap r x y w hk h1 (h3 0 (by simp))
 ·exact mix_stretch b o x y w hk
 ·exact mix_turn b o x y w hk
 ·exact mix_mirror b o x y w hk
 ·exact mix_fold b o x y w hk
 ·obtain ⟨r,rfl⟩:=len1 hl
  have:=h2 (by simp)
  subst this
  exact mix_round b o bv ov cap r x y w hk h1 (h3 0 (by simp))
 ·obtain ⟨r,rfl⟩:=len1 hl
  have:=h2 (by simp)
  subst this
  exact mix_shell b o bv ov cap r x y w hk h1 (h3 0 (by simp))

theorem kof {l:List (Addr × Value)} {w:World} (h:∀ p ∈ l,w.cell? p.1 = some p.2):Kept l [] w:=⟨h,fun _ h => by cases h⟩

theorem point_node {n:PN} {b o:Nat} {w:World} (hn:NodeIn n b o w) (hok:n.ok) (hc:(ruleF n.kind).2.1 = 1) (hk15:n.kind ≠ 15) (hk16:n.kind ≠ 16) (x y z:Nat) :
  Calls Tryz.prog 235 #[.pointer (some ⟨b,o,none⟩),V3 x y z] w (RetV (pointF n (cn .f32 x,cn .f32 y,cn .f32 z)).1 (pointF n (cn .f32 x,cn .f32 y,cn .f32 z)).2.1 (pointF n (cn .f32 x,cn .f32 y,cn .f32 z)).2.2 w):=by
 obtain ⟨bp,bv,ov,cap,h1,h2,h3⟩:=hn.nums
 have hk:=hn.kind
 have hB:=hn.b
 have hr:=hok.kind
 have hl:=hok.nums
 have hax:=hok.axis
 obtain ⟨k,na,nb,nums⟩:=n
 simp only at *
 have:k = 0 ∨ k = 1 ∨ k = 2 ∨ k = 3 ∨ k = 4 ∨ k = 5 ∨ k = 6 ∨ k = 7 ∨ k = 8 ∨ k = 9 ∨ k = 10 ∨ k = 11 ∨ k = 12 ∨ k = 13 ∨ k = 14 ∨ k = 15 ∨ k = 16:=by omega
 rcases this with h | h | h | h | h | h | h | h | h | h | h | h | h | h | h | h | h <;> subst h
 iterate 9 exact absurd hc (by decide)
 ·have hb0:nb = 0:=by
   rcases hax with h | h | ⟨h,_⟩
   ·exact absurd h (by decide)
   ·exact h
   ·exact absurd h (by decide)
  subst hb0
  obtain ⟨r,s,t,rfl⟩:=len3 hl
  have:=h2 (by simp)
  subst this
  exact point_move (kof (by simp only [List.forall_mem_cons,List.not_mem_nil,false_implies,implies_true,and_true];exact ⟨hk,hB,h1,h3 0 (by simp),h3 1 (by simp),h3 2 (by simp)⟩))
 ·have hb0:nb = 0:=by
   rcases hax with h | h | ⟨h,_⟩
   ·exact absurd h (by decide)
   ·exact h
   ·exact absurd h (by decide)
  subst hb0
  obtain ⟨r,rfl⟩:=len1 hl
  have:=h2 (by simp)
  subst this
  exact point_scale (kof (by simp only [List.forall_mem_cons,List.not_mem_nil,false_implies,implies_true,and_true];exact ⟨hk,hB,h1,h3 0 (by simp)⟩))
 ·have hb0:nb = 0:=by
   rcases hax with h | h | ⟨h,_⟩
   ·exact absurd h (by decide)
   ·exact h
   ·exact absurd h (by decide)
  subst hb0
  obtain ⟨r,s,t,rfl⟩:=len3 hl
  have:=h2 (by simp)
  subst this
  exact point_stretch (kof (by simp only [List.forall_mem_cons,List.not_mem_nil,false_implies,implies_true,and_true];exact ⟨hk,hB,h1,h3 0 (by simp),h3 1 (by simp),h3 2 (by simp)⟩))
 ·have hb0:nb = 0 ∨ nb = 1 ∨ nb = 2:=by
   rcases hax with h | h | ⟨_,h⟩
   ·exact absurd h (by decide)
   ·omega
   ·omega
  obtain ⟨r,rfl⟩:=len1 hl
  have:=h2 (by simp)
  subst this
  rcases hb0 with h | h | h <;> subst h
  ·exact point_turn0 (kof (by simp only [List.forall_mem_cons,List.not_mem_nil,false_implies,implies_true,and_true];exact ⟨hk,hB,h1,h3 0 (by simp)⟩))
  ·exact point_turn1 (kof (by simp only [List.forall_mem_cons,List.not_mem_nil,false_implies,implies_true,and_true];exact ⟨hk,hB,h1,h3 0 (by simp)⟩))
  ·exact point_turn2 (kof (by simp only [List.forall_mem_cons,List.not_mem_nil,false_implies,implies_true,and_true];exact ⟨hk,hB,h1,h3 0 (by simp)⟩))
 ·have hb0:nb = 0 ∨ nb = 1 ∨ nb = 2:=by
   rcases hax with h | h | ⟨_,h⟩
   ·exact absurd h (by decide)
   ·omega
   ·omega
  have hl0:nums = []:=List.length_eq_zero_iff.1 hl
  subst hl0
  rcases hb0 with h | h | h <;> subst h
  ·exact point_mirror0 (kof (by simp only [List.forall_mem_cons,List.not_mem_nil,false_implies,implies_true,and_true];exact ⟨hk,hB,h1⟩))
  ·exact point_mirror1 (kof (by simp only [List.forall_mem_cons,List.not_mem_nil,false_implies,implies_true,and_true];exact ⟨hk,hB,h1⟩))
  ·exact point_mirror2 (kof (by simp only [List.forall_mem_cons,List.not_mem_nil,false_implies,implies_true,and_true];exact ⟨hk,hB,h1⟩))
 ·have hb0:nb = 0 ∨ nb = 1 ∨ nb = 2:=by
   rcases hax with h | h | ⟨_,h⟩
   ·exact absurd h (by decide)
   ·omega
   ·omega
  obtain ⟨r,rfl⟩:=len1 hl
  have:=h2 (by simp)
  subst this
  rcases hb0 with h | h | h <;> subst h
  ·exact point_fold0 (kof (by simp only [List.forall_mem_cons,List.not_mem_nil,false_implies,implies_true,and_true];exact ⟨hk,hB,h1,h3 0 (by simp)⟩))
  ·exact point_fold1 (kof (by simp only [List.forall_mem_cons,List.not_mem_nil,false_implies,implies_true,and_true];exact ⟨hk,hB,h1,h3 0 (by simp)⟩))
  ·exact point_fold2 (kof (by simp only [List.forall_mem_cons,List.not_mem_nil,false_implies,implies_true,and_true];exact ⟨hk,hB,h1,h3 0 (by simp)⟩))
 ·exact absurd rfl hk15
 ·exact absurd rfl hk16

end Go.Proofs.YtbiacfkiakddiaaGreat
