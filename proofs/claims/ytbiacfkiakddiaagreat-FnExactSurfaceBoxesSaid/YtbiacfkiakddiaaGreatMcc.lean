/-
 Lemmas: V32.
-/
import Derived.Test.YtbiacfkiakddiaaGreatMbp
import Derived.Test.YtbiacfkiakddiaaGreatMbq
import Derived.Test.YtbiacfkiakddiaaGreatMbs
import Derived.Test.YtbiacfkiakddiaaGreatMbt
import Derived.Test.YtbiacfkiakddiaaGreatMca
import Derived.Test.YtbiacfkiakddiaaGreatMcb
set_option linter.unusedVariables false
set_option linter.unusedSimpArgs false
namespace Go.Proofs.YtbiacfkiakddiaaGreat
open Go.RowKit Go.Fl
theorem place_node {n:PN} {b o:Nat} {w:World} (hn:NodeIn n b o w) (hok:n.ok) (hc:(ruleF n.kind).2.1 = 1) (x0 x1 y0 y1 z0 z1:Nat) :
  Calls Tryz.prog 134 #[.pointer (some ⟨b,o,none⟩),Rg3 x0 x1 y0 y1 z0 z1] w (RetPl (placeX foldRF n (cn6 ((x0,x1),(y0,y1),(z0,z1)))) w):=by
 obtain ⟨bp,bv,ov,cap,h1,h2,h3⟩:=hn.nums
 have hk:=hn.kind
 have hB:=hn.b
 have hr:=hok.kind
 have hl:=hok.nums
 have hax:=hok.axis
 obtain ⟨k,na,nb,nums⟩:=n
 simp only at *
 have:k = 0 ∨ k = 1 ∨ k = 2 ∨ k = 3 ∨ k = 4 ∨ k = 5 ∨ k = 6 ∨ k = 7 ∨ k = 8 ∨ k = 9 ∨ k = 10 ∨ k = 11 ∨ k = 12 ∨ k = 13 ∨ k = 14 ∨ k = 15 ∨ k = 16:=by omega
 rcases this with h | h | h | h | h | h | h | h | h | h | h | h | h | h | h | h | h <;> subst h
 iterate 9 exact absurd hc (by decide)
 ·have hb0:nb = 0:=by
   rcases hax with h | h | ⟨h,_⟩
   ·exact absurd h (by decide)
   ·exact h
   ·exact absurd h (by decide)
  subst hb0
  obtain ⟨r,s,t,rfl⟩:=len3 hl
  have:=h2 (by simp)
  subst this
  exact place_move (kcons hk (kcons hB (kcons h1 (kcons (h3 0 (by simp)) (kcons (h3 1 (by simp)) (kcons (h3 2 (by simp)) knil))))))
 ·have hb0:nb = 0:=by
   rcases hax with h | h | ⟨h,_⟩
   ·exact absurd h (by decide)
   ·exact h
   ·exact absurd h (by decide)
  subst hb0
  obtain ⟨r,rfl⟩:=len1 hl
  have:=h2 (by simp)
  subst this
  exact place_quo1 (bp:=none) (kcons hk (kcons hB (kcons h1 (kcons (h3 0 (by simp)) knil))))
 ·have hb0:nb = 0:=by
   rcases hax with h | h | ⟨h,_⟩
   ·exact absurd h (by decide)
   ·exact h
   ·exact absurd h (by decide)
  subst hb0
  obtain ⟨r,s,t,rfl⟩:=len3 hl
  have:=h2 (by simp)
  subst this
  exact place_quo3 (bp:=none) (kcons hk (kcons hB (kcons h1 (kcons (h3 0 (by simp)) (kcons (h3 1 (by simp)) (kcons (h3 2 (by simp)) knil))))))
 ·have hb0:nb = 0 ∨ nb = 1 ∨ nb = 2:=by
   rcases hax with h | h | ⟨_,h⟩
   ·exact absurd h (by decide)
   ·omega
   ·omega
  obtain ⟨r,rfl⟩:=len1 hl
  have:=h2 (by simp)
  subst this
  rcases hb0 with h | h | h <;> subst h
  ·exact place_turn0 (bp:=none) (kcons hk (kcons hB (kcons h1 (kcons (h3 0 (by simp)) knil))))
  ·exact place_turn1 (bp:=none) (kcons hk (kcons hB (kcons h1 (kcons (h3 0 (by simp)) knil))))
  ·exact place_turn2 (bp:=none) (kcons hk (kcons hB (kcons h1 (kcons (h3 0 (by simp)) knil))))
 ·have hb0:nb = 0 ∨ nb = 1 ∨ nb = 2:=by
   rcases hax with h | h | ⟨_,h⟩
   ·exact absurd h (by decide)
   ·omega
   ·omega
  obtain rfl:nums = []:=List.length_eq_zero_iff.1 hl
  rcases hb0 with h | h | h <;> subst h
  ·exact place_mirror0 (kcons hk (kcons hB (kcons h1 knil)))
  ·exact place_mirror1 (kcons hk (kcons hB (kcons h1 knil)))
  ·exact place_mirror2 (kcons hk (kcons hB (kcons h1 knil)))
 ·have hb0:nb = 0 ∨ nb = 1 ∨ nb = 2:=by
   rcases hax with h | h | ⟨_,h⟩
   ·exact absurd h (by decide)
   ·omega
   ·omega
  obtain ⟨r,rfl⟩:=len1 hl
  have:=h2 (by simp)
  subst this
  rcases hb0 with h | h | h <;> subst h
  ·exact place_fold0 (bp:=none) (kcons hk (kcons hB (kcons h1 (kcons (h3 0 (by simp)) knil))))
  ·exact place_fold1 (bp:=none) (kcons hk (kcons hB (kcons h1 (kcons (h3 0 (by simp)) knil))))
  ·exact place_fold2 (bp:=none) (kcons hk (kcons hB (kcons h1 (kcons (h3 0 (by simp)) knil))))
 ·have hb0:nb = 0:=by
   rcases hax with h | h | ⟨h,_⟩
   ·exact absurd h (by decide)
   ·exact h
   ·exact absurd h (by decide)
  subst hb0
  obtain ⟨r,rfl⟩:=len1 hl
  have:=h2 (by simp)
  subst this
  exact place_round (bp:=none) (kcons hk (kcons hB (kcons h1 (kcons (h3 0 (by simp)) knil))))
 ·have hb0:nb = 0:=by
   rcases hax with h | h | ⟨h,_⟩
   ·exact absurd h (by decide)
   ·exact h
   ·exact absurd h (by decide)
  subst hb0
  obtain ⟨r,rfl⟩:=len1 hl
  have:=h2 (by simp)
  subst this
  exact place_shell (bp:=none) (kcons hk (kcons hB (kcons h1 (kcons (h3 0 (by simp)) knil))))

theorem under_node {n:PN} {b o:Nat} {w:World} (hn:NodeIn n b o w) (hok:n.ok) (hc:(ruleF n.kind).2.1 ≠ 0) (x0 x1 y0 y1 z0 z1:Nat) :
  Calls Tryz.prog 122 #[.pointer (some ⟨b,o,none⟩),Rg3 x0 x1 y0 y1 z0 z1] w (RetPl (placeX foldRS n (cn6 ((x0,x1),(y0,y1),(z0,z1)))) w):=by
 obtain ⟨bp,bv,ov,cap,h1,h2,h3⟩:=hn.nums
 have hk:=hn.kind
 have hB:=hn.b
 have hr:=hok.kind
 have hl:=hok.nums
 have hax:=hok.axis
 obtain ⟨k,na,nb,nums⟩:=n
 simp only at *
 have:k = 0 ∨ k = 1 ∨ k = 2 ∨ k = 3 ∨ k = 4 ∨ k = 5 ∨ k = 6 ∨ k = 7 ∨ k = 8 ∨ k = 9 ∨ k = 10 ∨ k = 11 ∨ k = 12 ∨ k = 13 ∨ k = 14 ∨ k = 15 ∨ k = 16:=by omega
 rcases this with h | h | h | h | h | h | h | h | h | h | h | h | h | h | h | h | h <;> subst h
 iterate 5 exact absurd rfl hc
 ·exact under_same5 (bp:=none) (kcons hk knil)
 ·exact under_same6 (bp:=none) (kcons hk knil)
 ·exact under_same7 (bp:=none) (kcons hk knil)
 ·exact under_same8 (bp:=none) (kcons hk knil)
 ·have hb0:nb = 0:=by
   rcases hax with h | h | ⟨h,_⟩
   ·exact absurd h (by decide)
   ·exact h
   ·exact absurd h (by decide)
  subst hb0
  obtain ⟨r,s,t,rfl⟩:=len3 hl
  have:=h2 (by simp)
  subst this
  exact under_move (bp:=none) (kcons hk (kcons hB (kcons h1 (kcons (h3 0 (by simp)) (kcons (h3 1 (by simp)) (kcons (h3 2 (by simp)) knil))))))
 ·have hb0:nb = 0:=by
   rcases hax with h | h | ⟨h,_⟩
   ·exact absurd h (by decide)
   ·exact h
   ·exact absurd h (by decide)
  subst hb0
  obtain ⟨r,rfl⟩:=len1 hl
  have:=h2 (by simp)
  subst this
  exact under_quo1 (bp:=none) (kcons hk (kcons hB (kcons h1 (kcons (h3 0 (by simp)) knil))))
 ·have hb0:nb = 0:=by
   rcases hax with h | h | ⟨h,_⟩
   ·exact absurd h (by decide)
   ·exact h
   ·exact absurd h (by decide)
  subst hb0
  obtain ⟨r,s,t,rfl⟩:=len3 hl
  have:=h2 (by simp)
  subst this
  exact under_quo3 (bp:=none) (kcons hk (kcons hB (kcons h1 (kcons (h3 0 (by simp)) (kcons (h3 1 (by simp)) (kcons (h3 2 (by simp)) knil))))))
 ·have hb0:nb = 0 ∨ nb = 1 ∨ nb = 2:=by
   rcases hax with h | h | ⟨_,h⟩
   ·exact absurd h (by decide)
   ·omega
   ·omega
  obtain ⟨r,rfl⟩:=len1 hl
  have:=h2 (by simp)
  subst this
  rcases hb0 with h | h | h <;> subst h
  ·exact under_turn0 (bp:=none) (kcons hk (kcons hB (kcons h1 (kcons (h3 0 (by simp)) knil))))
  ·exact under_turn1 (bp:=none) (kcons hk (kcons hB (kcons h1 (kcons (h3 0 (by simp)) knil))))
  ·exact under_turn2 (bp:=none) (kcons hk (kcons hB (kcons h1 (kcons (h3 0 (by simp)) knil))))
 ·have hb0:nb = 0 ∨ nb = 1 ∨ nb = 2:=by
   rcases hax with h | h | ⟨_,h⟩
   ·exact absurd h (by decide)
   ·omega
   ·omega
  obtain rfl:nums = []:=List.length_eq_zero_iff.1 hl
  rcases hb0 with h | h | h <;> subst h
  ·exact under_mirror0 (kcons hk (kcons hB (kcons h1 knil)))
  ·exact under_mirror1 (kcons hk (kcons hB (kcons h1 knil)))
  ·exact under_mirror2 (kcons hk (kcons hB (kcons h1 knil)))
 ·have hb0:nb = 0 ∨ nb = 1 ∨ nb = 2:=by
   rcases hax with h | h | ⟨_,h⟩
   ·exact absurd h (by decide)
   ·omega
   ·omega
  obtain ⟨r,rfl⟩:=len1 hl
  have:=h2 (by simp)
  subst this
  rcases hb0 with h | h | h <;> subst h
  ·exact under_fold0 (bp:=none) (kcons hk (kcons hB (kcons h1 (kcons (h3 0 (by simp)) knil))))
  ·exact under_fold1 (bp:=none) (kcons hk (kcons hB (kcons h1 (kcons (h3 0 (by simp)) knil))))
  ·exact under_fold2 (bp:=none) (kcons hk (kcons hB (kcons h1 (kcons (h3 0 (by simp)) knil))))
 ·exact under_same15 (bp:=none) (kcons hk knil)
 ·exact under_same16 (bp:=none) (kcons hk knil)
end Go.Proofs.YtbiacfkiakddiaaGreat
