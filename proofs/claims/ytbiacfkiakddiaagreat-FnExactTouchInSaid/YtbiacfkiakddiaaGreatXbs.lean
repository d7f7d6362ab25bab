/-
 Lemmas: V32.
-/
import Derived.Test.YtbiacfkiakddiaaGreatXbm
import Derived.Test.YtbiacfkiakddiaaGreatXbn
import Derived.Test.YtbiacfkiakddiaaGreatXbo
import Derived.Test.YtbiacfkiakddiaaGreatXbp
import Derived.Test.YtbiacfkiakddiaaGreatXbq
import Derived.Test.YtbiacfkiakddiaaGreatXbr
set_option linter.unusedVariables false
set_option linter.unusedSimpArgs false
namespace Go.Proofs.YtbiacfkiakddiaaGreat
open Go.RowKit Go.Fl
theorem zpx {n:PN} {b o:Nat} {w:World} (hn:NodeIn n b o w) (hok:n.ok) (hc:(zz n.kind).2.1=1) (x0 x1 y0 y1 z0 z1:Nat) :
  Calls Tryz.prog 134 #[.pointer (some ⟨b,o,none⟩),Rg3 x0 x1 y0 y1 z0 z1] w (vn (k0 vl n (cn6 ((x0,x1),(y0,y1),(z0,z1)))) w):=by
 obtain⟨bp,bv,ov,cap,h1,h2,h3⟩:=hn.nums
 have hk:=hn.kind
 have hB:=hn.b
 have hr:=hok.kind
 have hl:=hok.nums
 have hax:=hok.axis
 obtain⟨k,na,nb,nums⟩:=n
 simp only at *
 have:k=0∨k=1∨k=2∨k=3∨k=4∨k=5∨k=6∨k=7∨k=8∨k=9∨k=10∨k=11∨k=12∨k=13∨k=14∨k=15∨k=16:=by omega
 rcases this with h|h|h|h|h|h|h|h|h|h|h|h|h|h|h|h|h<;>subst h
 iterate 9 exact absurd hc (by decide)
 ·have hb0:nb=0:=by
   rcases hax with h|h|⟨h,_⟩
   ·exact absurd h (by decide)
   ·exact h
   ·exact absurd h (by decide)
  subst hb0
  obtain⟨r,s,t,rfl⟩:=zdl hl
  have:=h2 (by simp)
  subst this
  exact zo2 (zm hk (zm hB (zm h1 (zm (h3 0 (by simp)) (zm (h3 1 (by simp)) (zm (h3 2 (by simp)) ve))))))
 ·have hb0:nb=0:=by
   rcases hax with h|h|⟨h,_⟩
   ·exact absurd h (by decide)
   ·exact h
   ·exact absurd h (by decide)
  subst hb0
  obtain⟨r,rfl⟩:=uv hl
  have:=h2 (by simp)
  subst this
  exact zob (bp:=none) (zm hk (zm hB (zm h1 (zm (h3 0 (by simp)) ve))))
 ·have hb0:nb=0:=by
   rcases hax with h|h|⟨h,_⟩
   ·exact absurd h (by decide)
   ·exact h
   ·exact absurd h (by decide)
  subst hb0
  obtain⟨r,s,t,rfl⟩:=zdl hl
  have:=h2 (by simp)
  subst this
  exact zom (bp:=none) (zm hk (zm hB (zm h1 (zm (h3 0 (by simp)) (zm (h3 1 (by simp)) (zm (h3 2 (by simp)) ve))))))
 ·have hb0:nb=0∨nb=1∨nb=2:=by
   rcases hax with h|h|⟨_,h⟩
   ·exact absurd h (by decide)
   ·omega
   ·omega
  obtain⟨r,rfl⟩:=uv hl
  have:=h2 (by simp)
  subst this
  rcases hb0 with h|h|h<;>subst h
  ·exact zl0 (bp:=none) (zm hk (zm hB (zm h1 (zm (h3 0 (by simp)) ve))))
  ·exact zlg (bp:=none) (zm hk (zm hB (zm h1 (zm (h3 0 (by simp)) ve))))
  ·exact zno (bp:=none) (zm hk (zm hB (zm h1 (zm (h3 0 (by simp)) ve))))
 ·have hb0:nb=0∨nb=1∨nb=2:=by
   rcases hax with h|h|⟨_,h⟩
   ·exact absurd h (by decide)
   ·omega
   ·omega
  obtain rfl:nums=[]:=List.length_eq_zero_iff.1 hl
  rcases hb0 with h|h|h<;>subst h
  ·exact zhq (zm hk (zm hB (zm h1 ve)))
  ·exact zhi (zm hk (zm hB (zm h1 ve)))
  ·exact zhf (zm hk (zm hB (zm h1 ve)))
 ·have hb0:nb=0∨nb=1∨nb=2:=by
   rcases hax with h|h|⟨_,h⟩
   ·exact absurd h (by decide)
   ·omega
   ·omega
  obtain⟨r,rfl⟩:=uv hl
  have:=h2 (by simp)
  subst this
  rcases hb0 with h|h|h<;>subst h
  ·exact zme (bp:=none) (zm hk (zm hB (zm h1 (zm (h3 0 (by simp)) ve))))
  ·exact zm3 (bp:=none) (zm hk (zm hB (zm h1 (zm (h3 0 (by simp)) ve))))
  ·exact zky (bp:=none) (zm hk (zm hB (zm h1 (zm (h3 0 (by simp)) ve))))
 ·have hb0:nb=0:=by
   rcases hax with h|h|⟨h,_⟩
   ·exact absurd h (by decide)
   ·exact h
   ·exact absurd h (by decide)
  subst hb0
  obtain⟨r,rfl⟩:=uv hl
  have:=h2 (by simp)
  subst this
  exact zm9 (bp:=none) (zm hk (zm hB (zm h1 (zm (h3 0 (by simp)) ve))))
 ·have hb0:nb=0:=by
   rcases hax with h|h|⟨h,_⟩
   ·exact absurd h (by decide)
   ·exact h
   ·exact absurd h (by decide)
  subst hb0
  obtain⟨r,rfl⟩:=uv hl
  have:=h2 (by simp)
  subst this
  exact znn (bp:=none) (zm hk (zm hB (zm h1 (zm (h3 0 (by simp)) ve))))

theorem zgd {n:PN} {b o:Nat} {w:World} (hn:NodeIn n b o w) (hok:n.ok) (hc:(zz n.kind).2.1 ≠ 0) (x0 x1 y0 y1 z0 z1:Nat) :
  Calls Tryz.prog 122 #[.pointer (some ⟨b,o,none⟩),Rg3 x0 x1 y0 y1 z0 z1] w (vn (k0 xl n (cn6 ((x0,x1),(y0,y1),(z0,z1)))) w):=by
 obtain⟨bp,bv,ov,cap,h1,h2,h3⟩:=hn.nums
 have hk:=hn.kind
 have hB:=hn.b
 have hr:=hok.kind
 have hl:=hok.nums
 have hax:=hok.axis
 obtain⟨k,na,nb,nums⟩:=n
 simp only at *
 have:k=0∨k=1∨k=2∨k=3∨k=4∨k=5∨k=6∨k=7∨k=8∨k=9∨k=10∨k=11∨k=12∨k=13∨k=14∨k=15∨k=16:=by omega
 rcases this with h|h|h|h|h|h|h|h|h|h|h|h|h|h|h|h|h<;>subst h
 iterate 5 exact absurd rfl hc
 ·exact zl3 (bp:=none) (zm hk ve)
 ·exact zm2 (bp:=none) (zm hk ve)
 ·exact zk6 (bp:=none) (zm hk ve)
 ·exact zlc (bp:=none) (zm hk ve)
 ·have hb0:nb=0:=by
   rcases hax with h|h|⟨h,_⟩
   ·exact absurd h (by decide)
   ·exact h
   ·exact absurd h (by decide)
  subst hb0
  obtain⟨r,s,t,rfl⟩:=zdl hl
  have:=h2 (by simp)
  subst this
  exact zo9 (bp:=none) (zm hk (zm hB (zm h1 (zm (h3 0 (by simp)) (zm (h3 1 (by simp)) (zm (h3 2 (by simp)) ve))))))
 ·have hb0:nb=0:=by
   rcases hax with h|h|⟨h,_⟩
   ·exact absurd h (by decide)
   ·exact h
   ·exact absurd h (by decide)
  subst hb0
  obtain⟨r,rfl⟩:=uv hl
  have:=h2 (by simp)
  subst this
  exact zon (bp:=none) (zm hk (zm hB (zm h1 (zm (h3 0 (by simp)) ve))))
 ·have hb0:nb=0:=by
   rcases hax with h|h|⟨h,_⟩
   ·exact absurd h (by decide)
   ·exact h
   ·exact absurd h (by decide)
  subst hb0
  obtain⟨r,s,t,rfl⟩:=zdl hl
  have:=h2 (by simp)
  subst this
  exact zoc (bp:=none) (zm hk (zm hB (zm h1 (zm (h3 0 (by simp)) (zm (h3 1 (by simp)) (zm (h3 2 (by simp)) ve))))))
 ·have hb0:nb=0∨nb=1∨nb=2:=by
   rcases hax with h|h|⟨_,h⟩
   ·exact absurd h (by decide)
   ·omega
   ·omega
  obtain⟨r,rfl⟩:=uv hl
  have:=h2 (by simp)
  subst this
  rcases hb0 with h|h|h<;>subst h
  ·exact zkw (bp:=none) (zm hk (zm hB (zm h1 (zm (h3 0 (by simp)) ve))))
  ·exact zm5 (bp:=none) (zm hk (zm hB (zm h1 (zm (h3 0 (by simp)) ve))))
  ·exact zmy (bp:=none) (zm hk (zm hB (zm h1 (zm (h3 0 (by simp)) ve))))
 ·have hb0:nb=0∨nb=1∨nb=2:=by
   rcases hax with h|h|⟨_,h⟩
   ·exact absurd h (by decide)
   ·omega
   ·omega
  obtain rfl:nums=[]:=List.length_eq_zero_iff.1 hl
  rcases hb0 with h|h|h<;>subst h
  ·exact zhh (zm hk (zm hB (zm h1 ve)))
  ·exact zhw (zm hk (zm hB (zm h1 ve)))
  ·exact zho (zm hk (zm hB (zm h1 ve)))
 ·have hb0:nb=0∨nb=1∨nb=2:=by
   rcases hax with h|h|⟨_,h⟩
   ·exact absurd h (by decide)
   ·omega
   ·omega
  obtain⟨r,rfl⟩:=uv hl
  have:=h2 (by simp)
  subst this
  rcases hb0 with h|h|h<;>subst h
  ·exact zl2 (bp:=none) (zm hk (zm hB (zm h1 (zm (h3 0 (by simp)) ve))))
  ·exact zl4 (bp:=none) (zm hk (zm hB (zm h1 (zm (h3 0 (by simp)) ve))))
  ·exact zlt (bp:=none) (zm hk (zm hB (zm h1 (zm (h3 0 (by simp)) ve))))
 ·exact zj5 (bp:=none) (zm hk ve)
 ·exact zjr (bp:=none) (zm hk ve)
end Go.Proofs.YtbiacfkiakddiaaGreat
