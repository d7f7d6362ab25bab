/-
 Lemmas: H2,D7.
-/
import Derived.Test.YtbiacfkiakddiaaGreatOag
import Derived.Test.YtbiacfkiakddiaaGreatObh
import Derived.Test.YtbiacfkiakddiaaGreatObl
set_option linter.unusedVariables false
set_option linter.unusedSimpArgs false
namespace Go.Proofs.YtbiacfkiakddiaaGreat
open Go.RowKit Go.Fl
/-- A camera in memory. -/
structure CamIn (a b c d e f wd:Nat) (nx ny:Int) (cb c0:Nat) (w:World):Prop where
 kept:Kept [(⟨cb,c0,none⟩,F1 a),(⟨cb,c0 + 1,none⟩,F1 b),(⟨cb,c0 + 2,none⟩,F1 c),(⟨cb,c0 + 3,none⟩,F1 d),(⟨cb,c0 + 4,none⟩,F1 e),(⟨cb,c0 + 5,none⟩,F1 f),(⟨cb,c0 + 6,none⟩,F1 wd),(⟨cb,c0 + 7,none⟩,.int .i64 nx),(⟨cb,c0 + 8,none⟩,.int .i64 ny)] [] w
theorem CamIn.keep {a b c d e f wd:Nat} {nx ny:Int} {cb c0:Nat} {w w':World} (h:CamIn a b c d e f wd nx ny cb c0 w) (hb:Below w.heap.size w w'):CamIn a b c d e f wd nx ny cb c0 w':=⟨Go.Fl.keep h.kept hb⟩

def upV:Nat × Nat × Nat:=(0,1065353216,0)
def fwdV (f t:Nat × Nat × Nat):Nat × Nat × Nat:=unitF (lessV t f)
def rightV (f t:Nat × Nat × Nat):Nat × Nat × Nat:=unitF (crossV (fwdV f t) upV)
def axesV (f t:Nat × Nat × Nat):(Nat × Nat × Nat) × (Nat × Nat × Nat) × (Nat × Nat × Nat):=(rightV f t,crossV (rightV f t) (fwdV f t),fwdV f t)
theorem ax1 (f t:Nat × Nat × Nat):(axesV f t).1 = rightV f t:=by rw [axesV]
theorem ax2 (f t:Nat × Nat × Nat):(axesV f t).2.1 = crossV (rightV f t) (fwdV f t):=by rw [axesV]
theorem ax3 (f t:Nat × Nat × Nat):(axesV f t).2.2 = fwdV f t:=by rw [axesV]
def cv (x y z:Nat):Nat × Nat × Nat:=(cn .f32 x,cn .f32 y,cn .f32 z)
/-- Three vectors come back. -/
def RetAx (V:(Nat × Nat × Nat) × (Nat × Nat × Nat) × (Nat × Nat × Nat)) (w:World) (e:Ending) (w':World):Prop :=
 ∃ a b c a' b' c' a2 b2 c2,e = .returned (.tuple #[V3 a b c,V3 a' b' c',V3 a2 b2 c2]) ∧ cv a b c = V.1 ∧ cv a' b' c' = V.2.1 ∧ cv a2 b2 c2 = V.2.2 ∧ Below w.heap.size w w'

theorem bel3 {B g:Nat} {a w:World} (h:Below B a w) (hg:B ≤ g) (x0 x1 x2:Value):Below B a (((w.setCell ⟨g,0,none⟩ x0).setCell ⟨g,1,none⟩ x1).setCell ⟨g,2,none⟩ x2) :=
 ((h.setCell (p:=⟨g,0,none⟩) hg _).setCell (p:=⟨g,1,none⟩) hg _).setCell (p:=⟨g,2,none⟩) hg _

inductive PhiAx:FuncId → Array Value → Value → Prop
 | less (a b c d e f x y z:Nat) (h:cv x y z = lessV (cv a b c) (cv d e f)):PhiAx 178 #[V3 a b c,V3 d e f] (V3 x y z)
 | unit (a b c x y z:Nat) (h:cv x y z = unitF (cv a b c)):PhiAx 177 #[V3 a b c] (V3 x y z)
 | cross (a b c d e f x y z:Nat) (h:cv x y z = crossV (cv a b c) (cv d e f)):PhiAx 267 #[V3 a b c,V3 d e f] (V3 x y z)

theorem v3_mk {x y z:Nat} {v:Nat × Nat × Nat} (h1:cn .f32 x = v.1) (h2:cn .f32 y = v.2.1) (h3:cn .f32 z = v.2.2):cv x y z = v:=by
 unfold cv;rw [h1,h2,h3]


def V3B (b:Nat) (w:World):Prop:=∃ x y z:Value,w.heap[b]? = some (.cells #[x,y,z] 38 (0,0))
theorem V3B.keep {b:Nat} {w w':World} (h:V3B b w) (hb:Below w.heap.size w w'):V3B b w':=by
 obtain ⟨x,y,z,h⟩:=h
 exact ⟨x,y,z,by rw [hb.block b (Array.getElem?_eq_some_iff.1 h).1];exact h⟩
theorem V3B.other {b g:Nat} {w:World} (h:V3B b w) (hne:g ≠ b) (o:Nat) (v:Value):V3B b (w.setCell ⟨g,o,none⟩ v):=by
 obtain ⟨x,y,z,h⟩:=h
 exact ⟨x,y,z,by simp only [World.setCell,Array.getElem?_modify,if_neg hne];exact h⟩
abbrev Z3:Obj:=.cells #[F1 0,F1 0,F1 0] 38
theorem v3b_at (w:World):V3B w.heap.size (w.alloc Z3):=⟨_,_,_,heap_alloc_at w _⟩
theorem v3b_new (w:World):V3B w.heap.size (((w.alloc Z3).alloc Z3).alloc Z3) ∧ V3B (w.heap.size + 1) (((w.alloc Z3).alloc Z3).alloc Z3) ∧ V3B (w.heap.size + 1 + 1) (((w.alloc Z3).alloc Z3).alloc Z3):=by
 have e1:(w.alloc Z3).heap.size = w.heap.size + 1:=by simp
 have e2:((w.alloc Z3).alloc Z3).heap.size = w.heap.size + 1 + 1:=by simp
 have b:∀ w:World,Below w.heap.size w (w.alloc Z3):=fun w => (Below.refl _ _).alloc (Nat.le_refl _) _
 refine ⟨((v3b_at w).keep (b _)).keep (b _),?_,?_⟩
 ·have:=(v3b_at (w.alloc Z3)).keep (b _);rwa [e1] at this
 ·have:=v3b_at ((w.alloc Z3).alloc Z3);rwa [e2] at this
theorem V3B.same {b:Nat} {w:World} (h:V3B b w) (x y z:Value):(((w.setCell ⟨b,0,none⟩ x).setCell ⟨b,1,none⟩ y).setCell ⟨b,2,none⟩ z).heap[b]? = some (.cells #[x,y,z] 38 (0,0)):=by
 obtain ⟨a,b',c,h⟩:=h
 exact (set3 h x y z).1
def AxP (V:Nat × Nat × Nat) (A:Array Value):Prop:=∃ x y z,A = #[F1 x,F1 y,F1 z] ∧ cv x y z = V
/-- Three vectors in memory,from B on,that are being stored: of the first it is known what it becomes,of the second what its words are. -/
def AxTr (B:Nat) (V2:Array Value) (P3:Array Value → Prop) (b:Nat) (x y:Option Obj):Prop:=(b = B ∧ y = some (.cells V2 38 (0,0))) ∨ (b = B + 1 ∧ ∃ A,y = some (.cells A 38 (0,0)) ∧ P3 A)
theorem axtr_trans {B:Nat} {V2:Array Value} {P3:Array Value → Prop} (b:Nat) (x y z:Option Obj) (h:AxTr B V2 P3 b x y) (k:AxTr B V2 P3 b y z):AxTr B V2 P3 b x z:=k
def AxS (B:Nat) (V2:Array Value) (P3:Array Value → Prop) (d:Tmp) (g:Nat) (w:World):Prop:=(d = 2 → g = B → w.heap[B]? = some (.cells V2 38 (0,0))) ∧ (d = 3 → g = B + 1 → ∃ A,w.heap[B + 1]? = some (.cells A 38 (0,0)) ∧ P3 A)
theorem axs_last {B:Nat} {V2:Array Value} {P3:Array Value → Prop} (d:Tmp) (g:Nat) (w w':World) (h:AxS B V2 P3 d g w) (hr:Qh.RrT (AxTr B V2 P3) w w'):AxS B V2 P3 d g w':=by
 refine ⟨fun hd hg => ?_,fun hd hg => ?_⟩
 ·have h1:=h.1 hd hg
  rcases hr.2 B (Array.getElem?_eq_some_iff.1 h1).1 with h2 | h2
  ·rw [h2];exact h1
  ·rcases h2 with ⟨_,h2⟩ | ⟨h2,_⟩
   ·exact h2
   ·omega
 ·obtain ⟨A,h1,hp⟩:=h.2 hd hg
  rcases hr.2 (B + 1) (Array.getElem?_eq_some_iff.1 h1).1 with h2 | h2
  ·exact ⟨A,by rw [h2];exact h1,hp⟩
  ·rcases h2 with ⟨h2,_⟩ | ⟨_,h2⟩
   ·omega
   ·exact h2

inductive PhiC3:FuncId → Array Value → Value → Prop
 | mk (f:FuncId) (args:Array Value) (x y z:Nat):PhiC3 f args (V3 x y z)
/-- The word of a slot with a vector. -/
def GdV (s:Tmp) (V:Nat × Nat × Nat) (d:Tmp) (v:Value) (w:World):Prop:=d = s → v = undef ∨ ∃ x y z,v = V3 x y z ∧ cv x y z = V


set_option maxRecDepth 100000 in
set_option maxHeartbeats 2000000 in
theorem axes_any (a b c d e f wd:Nat) (nx ny:Int) (cb c0:Nat) (w:World) (hc:CamIn a b c d e f wd nx ny cb c0 w) :
  Calls Tryz.prog 243 #[.pointer (some ⟨cb,c0,none⟩)] w (RetAx (axesV (cv a b c) (cv d e f)) w):=by
 go_enter Tryz.func243,Tryz.ntmps243
 go_upto_region 1 with fail
 obtain ⟨hB2,hB3,hB4⟩:=v3b_new w
 generalize hW:((w.alloc (.cells #[F1 0,F1 0,F1 0] 38)).alloc (.cells #[F1 0,F1 0,F1 0] 38)).alloc (.cells #[F1 0,F1 0,F1 0] 38) = W1 at *
 have W1b:Below w.heap.size w W1:=by subst hW;exact (by repeat' (first | exact Below.refl _ _ | exact Nat.le_refl _ | refine below_drewN ?_ _ | refine Below.alloc ?_ (by simp <;> omega) _ | refine Below.setCell ?_ (by simp <;> omega) _ | refine below_step ?_ (by assumption)))
 have hkept:Kept [(⟨w.heap.size,0,none⟩,F1 0),(⟨w.heap.size,1,none⟩,F1 0),(⟨w.heap.size,2,none⟩,F1 0),(⟨w.heap.size + 1,0,none⟩,F1 0),(⟨w.heap.size + 1,1,none⟩,F1 0),(⟨w.heap.size + 1,2,none⟩,F1 0),(⟨w.heap.size + 1 + 1,0,none⟩,F1 0),(⟨w.heap.size + 1 + 1,1,none⟩,F1 0),(⟨w.heap.size + 1 + 1,2,none⟩,F1 0)] [⟨w.heap.size,0,none⟩,⟨w.heap.size,1,none⟩,⟨w.heap.size,2,none⟩,⟨w.heap.size + 1,0,none⟩,⟨w.heap.size + 1,1,none⟩,⟨w.heap.size + 1,2,none⟩,⟨w.heap.size + 1 + 1,0,none⟩,⟨w.heap.size + 1 + 1,1,none⟩,⟨w.heap.size + 1 + 1,2,none⟩] W1:=by
  subst hW;simp only [Kept,ka,kb,kc,kd,ke,kfa,kga];(first | (go_simp;done) | (simp [World.cell?,World.frozen?,World.alloc,Array.getElem?_push];done))
 clear hW
 have hkept:=kept_app (hc.keep W1b).kept hkept
 clear hc
 refine Qr.wp_made 11 10 5 #[F1 0,F1 0,F1 0] 38 (by kernel_rfl) (by kernel_rfl) PhiAx rfl (by kernel_rfl) ⟨_,rfl,rfl,fun a w => by go_simp⟩ (by kernel_rfl) ?_
 repeat (first | (refine Qr.walk_plain rfl fun K hK => ?_;apply Qr.one_det;(focus (intro w' hw';have HK:=keep hkept hw';simp only [Kept,ka,kb,kc,kd,ke,kfa,kga] at HK;go_simp;first | done | rfl));go_simp;refine hK _ ?_;clear hK K) | (refine Qr.walk_plain rfl fun K hK => ?_;refine Qr.one_rel (fun v => ∃ g,v = .pointer (some ⟨g,0,none⟩)) (fun w' hw' => ⟨.pointer (some ⟨w'.heap.size,0,none⟩),_,by go_simp;rfl,⟨_,rfl⟩,hw'.alloc hw'.size _,(Below.refl _ _).alloc (Nat.le_refl _) _⟩) (fun v hv => ?_);obtain ⟨g,rfl⟩:=hv;go_simp;refine hK _ ?_;clear hK K) | (refine Qr.walk_plain rfl fun K hK => ?_;apply Qr.one_call;(focus (intro w' hw';go_simp;first | done | exact ⟨rfl,rfl⟩));(focus (intro w' hw'; go_at_call 178;refine (less_any _ _ _ _ _ _ _).mono ?_;rintro _ w2 ⟨x1,y1,z1,rfl,hx1,hy1,hz1,hb1⟩ ;exact ⟨_,rfl,by constructor;first | assumption | (exact v3_mk (by assumption) (by assumption) (by assumption)),below_step hw' (by assumption),by assumption⟩));intro v hv;cases hv;go_simp;refine hK _ ?_;clear hK K) | (refine Qr.walk_plain rfl fun K hK => ?_;apply Qr.one_call;(focus (intro w' hw';go_simp;first | done | exact ⟨rfl,rfl⟩));(focus (intro w' hw'; go_at_call 177;refine (unit_any _ _ _ _).mono ?_;rintro _ w2 ⟨x1,y1,z1,rfl,hx1,hy1,hz1,hb1⟩ ;exact ⟨_,rfl,by constructor;first | assumption | (exact v3_mk (by assumption) (by assumption) (by assumption)),below_step hw' (by assumption),by assumption⟩));intro v hv;cases hv;go_simp;refine hK _ ?_;clear hK K) | (refine Qr.walk_plain rfl fun K hK => ?_;apply Qr.one_call;(focus (intro w' hw';go_simp;first | done | exact ⟨rfl,rfl⟩));(focus (intro w' hw'; go_at_call 267;refine (cross_any _ _ _ _ _ _ _).mono ?_;rintro _ w2 ⟨x1,y1,z1,rfl,hx1,hb1⟩ ;exact ⟨_,rfl,by constructor;first | assumption | (exact v3_mk (by assumption) (by assumption) (by assumption)),below_step hw' (by assumption),by assumption⟩));intro v hv;cases hv;go_simp;refine hK _ ?_;clear hK K))
 rename_i x1 y1 z1 h1 x2 y2 z2 h2
 refine Qr.walk_nil fun w3 hw3 hmade => ?_
 obtain ⟨g3,hg3,hgw,hgc⟩:=hmade _ rfl
 injection hg3 with hg3
 injection hg3 with hg3
 subst hg3
 obtain ⟨hc0,hc1,hc2,hf0,hf1,hf2⟩:=cells3 hgc
 go_upto_region 2 with fail
 have hset:=set3 hgc (F1 x2) (F1 y2) (F1 z2)
 have hbw:=hw3.trans (hset.2.mono hgw)
 clear hc0 hc1 hc2 hf0 hf1 hf2 hgc hw3
 generalize ((w3.setCell ⟨g,0,none⟩ (F1 x2)).setCell ⟨g,1,none⟩ (F1 y2)).setCell ⟨g,2,none⟩ (F1 z2) = w4 at hset hbw ⊢
 have hkept:=kept_app (keep hkept hbw) (kept3 hset.1)
 have W1b:=below_step W1b hbw
 have W7c:=hbw
 have hgW:=hgw
 have hW1:w.heap.size + 1 + 1 < W1.heap.size:=by obtain ⟨_,_,_,h⟩:=hB4;exact (Array.getElem?_eq_some_iff.1 h).1
 clear hset hbw hgw
 have hf:cv x2 y2 z2 = fwdV (cv a b c) (cv d e f):=by rw [h2,h1];rfl
 clear h1 h2
 have hK:=hkept;simp only [Kept,ka,kb,kc,kd,ke,kfa,kga] at hK
 go_upto_region 3 with (first | (go_at_call 267;refine (cross_any _ _ _ _ _ _ _).mono ?_;rintro _ w5 ⟨x3,y3,z3,rfl,h3,hb1⟩;have W1b:=below_step W1b hb1;have W7c:=below_step W7c hb1;have hkept:=keepT hkept hb1 rfl;clear hK;have hK:=hkept;simp only [Kept,ka,kb,kc,kd,ke,kfa,kga] at hK) | (go_at_call 177;refine (unit_any _ _ _ _).mono ?_;rintro _ w6 ⟨x4,y4,z4,rfl,h4,h5,h6,hb1⟩;have W1b:=below_step W1b hb1;have W7c:=below_step W7c hb1;have hs6:=W7c.size;have hkept:=keepT hkept hb1 rfl;clear hK;have hK:=hkept;simp only [Kept,ka,kb,kc,kd,ke,kfa,kga] at hK))
 have hr:cv x4 y4 z4 = rightV (cv a b c) (cv d e f):=by
  rw [v3_mk h4 h5 h6]
  unfold rightV
  rw [← hf,show unitF (crossV (cv x2 y2 z2) upV) = unitF (cv x3 y3 z3) from congrArg unitF h3.symm]
  rfl
 have hb6:Below w6.heap.size w6 (w6.alloc (.cells #[F1 x4,F1 y4,F1 z4] 38)):=(Below.refl _ _).alloc (Nat.le_refl _) _
 have hkept:=kept_app (keep hkept hb6) (show Kept [(⟨w6.heap.size,0,none⟩,F1 x4),(⟨w6.heap.size,1,none⟩,F1 y4),(⟨w6.heap.size,2,none⟩,F1 z4)] [] (w6.alloc (.cells #[F1 x4,F1 y4,F1 z4] 38)) by simp only [Kept,ka,kb,kc,kd,ke,kfa,kga];simp)
 have W1b:=below_step W1b hb6
 have W7c:=below_step W7c hb6
 clear hK hb1 hb6 h3 h4 h5 h6
 generalize w6.alloc (.cells #[F1 x4,F1 y4,F1 z4] 38) = w7 at *
 replace hB2:=hB2.keep W7c
 replace hB3:=hB3.keep W7c
 replace hB4:=hB4.keep W7c
 have hkl:Kept [(⟨g,0,none⟩,F1 x2),(⟨g,1,none⟩,F1 y2),(⟨g,2,none⟩,F1 z2),(⟨w6.heap.size,0,none⟩,F1 x4),(⟨w6.heap.size,1,none⟩,F1 y4),(⟨w6.heap.size,2,none⟩,F1 z4)] [] w7:=by
  have hK:=hkept;simp only [Kept,ka,kb,kc,kd,ke,kfa,kga] at hK
  simp only [Kept,ka,kb,kc,kd,ke,kfa,kga]
  simp [hK]
 clear hkept W7c
 have hf:=Lib.hid hf
 have hr:=Lib.hid hr
 generalize hG6:w6.heap.size = g6 at *
 have n1:w.heap.size ≠ g:=by omega
 have n2:w.heap.size ≠ g6:=by omega
 have n3:w.heap.size + 1 ≠ g:=by omega
 have n4:w.heap.size + 1 ≠ g6:=by omega
 clear hG6 hs6 hgW
 refine Qh.wp_stT 7 (by kernel_rfl) (by kernel_rfl) (by kernel_rfl) (fun w' => Kept [(⟨g,0,none⟩,F1 x2),(⟨g,1,none⟩,F1 y2),(⟨g,2,none⟩,F1 z2),(⟨g6,0,none⟩,F1 x4),(⟨g6,1,none⟩,F1 y4),(⟨g6,2,none⟩,F1 z4)] [] w' ∧ Below w.heap.size w w' ∧ V3B w.heap.size w' ∧ V3B (w.heap.size + 1) w' ∧ V3B (w.heap.size + 1 + 1) w') ?_ PhiC3 (GdV 24 (crossV (cv x4 y4 z4) (cv x2 y2 z2))) [] (Qh.RrT (AxTr w.heap.size #[F1 x4,F1 y4,F1 z4] (AxP (crossV (cv x4 y4 z4) (cv x2 y2 z2))))) (Qh.FoS (AxS w.heap.size #[F1 x4,F1 y4,F1 z4] (AxP (crossV (cv x4 y4 z4) (cv x2 y2 z2))))) (Qh.aux_mk axtr_trans axs_last) ⟨fun _ _ _ _ h _ => h,fun _ _ _ => .inl rfl⟩ ⟨fun d hd => (by subst hd;exact .inl rfl),fun d hd => (by cases hd),fun d hd => (by cases hd)⟩ ?_
 ·have hd:Below w7.heap.size w7 { w7 with drawn:=w7.drawn + 1 }:=(Below.refl _ _).drew
  exact ⟨Go.Fl.keep hkl hd,W1b.trans (hd.mono W1b.size),hB2.keep hd,hB3.keep hd,hB4.keep hd⟩
 ·have hC0:(fun w' => Kept [(⟨g,0,none⟩,F1 x2),(⟨g,1,none⟩,F1 y2),(⟨g,2,none⟩,F1 z2),(⟨g6,0,none⟩,F1 x4),(⟨g6,1,none⟩,F1 y4),(⟨g6,2,none⟩,F1 z4)] [] w' ∧ Below w.heap.size w w' ∧ V3B w.heap.size w' ∧ V3B (w.heap.size + 1) w' ∧ V3B (w.heap.size + 1 + 1) w') w7:=⟨hkl,W1b,hB2,hB3,hB4⟩
  repeat (first
   | (refine Qh.walk_step fun K hK => ?_;apply Qh.one_det (Qh.aux_mk axtr_trans axs_last) hC0 (by intro d _ hd;cases hd) rfl rfl;(focus (intro w' hw';have HK:=hw'.1;simp only [Kept,ka,kb,kc,kd,ke,kfa,kga] at HK;go_simp;first | done | rfl));(focus (intro w' hw' hs hd;cases hd));go_simp;refine hK _ ?_;clear hK K)
   | (refine Qh.walk_step fun K hK => ?_;apply Qh.one_call (Qh.aux_mk axtr_trans axs_last) _ _ hC0 (by intro d _ hd;cases hd) rfl rfl;(focus (intro w' hw';go_simp;first | done | exact ⟨rfl,rfl⟩));(focus (apply Exists.intro;(constructor <;> first | exact (0:Nat) | exact undef)));(focus (intro w' hw' hs; go_at_call 267;refine (cross_any _ _ _ _ _ _ _).mono ?_;rintro _ wA ⟨x5,y5,z5,rfl,h5,hb1⟩;exact ⟨_,rfl,.mk _ _ _ _ _,fun _ => .inr ⟨_,_,_,rfl,h5⟩,⟨Go.Fl.keep hw'.1 hb1,hw'.2.1.trans (hb1.mono hw'.2.1.size),hw'.2.2.1.keep hb1,hw'.2.2.2.1.keep hb1,hw'.2.2.2.2.keep hb1⟩,Qh.rrt_below hb1⟩));intro v hv;cases hv;go_simp;refine hK _ ?_;clear hK K))
  rename_i x5 y5 z5
  refine Qh.walk_step fun K hK => ?_
  refine Qh.one_store rfl (fun w' hw' hs => ?_) (hK _ ?_)
  ·clear hK K hC0
   obtain ⟨hk',hb',⟨p,q,s,hb2⟩,hb3,hb4⟩:=hw'
   obtain ⟨c0',c1',c2',f0',f1',f2'⟩:=cells3 hb2
   have HK:=hk'
   simp only [Kept,ka,kb,kc,kd,ke,kfa,kga] at HK
   have h6:=(set3 hb2 (F1 x4) (F1 y4) (F1 z4)).1
   refine ⟨((w'.setCell ⟨w.heap.size,0,none⟩ (F1 x4)).setCell ⟨w.heap.size,1,none⟩ (F1 y4)).setCell ⟨w.heap.size,2,none⟩ (F1 z4),(by go_simp;first | done | rfl),⟨?_,bel3 hb' (Nat.le_refl _) ..,⟨_,_,_,h6⟩,((hb3.other (by omega) _ _).other (by omega) _ _).other (by omega) _ _,((hb4.other (by omega) _ _).other (by omega) _ _).other (by omega) _ _⟩,⟨by simp [World.setCell],fun b hb => ?_⟩,?_⟩
   ·simp only [Kept,ka,kb,kc,kd,ke,kfa,kga];simp [HK,World.cell?_setCell_other,n1,n2]
   ·by_cases e:w.heap.size = b
    ·subst e;exact .inr (.inl ⟨rfl,h6⟩)
    ·left;simp only [World.setCell,Array.getElem?_modify,if_neg e]
   ·intro hn ty d x ho g' hg
    injection ho with _ h1 _
    injection h1 with h1
    subst h1
    exact ⟨fun _ _ => h6,fun hd => (by cases hd)⟩
  refine Qh.walk_step fun K hK => ?_
  refine Qh.one_store rfl (fun w' hw' hs => ?_) (hK _ ?_)
  ·clear hK K hC0
   obtain ⟨hk',hb',hb2,⟨p,q,s,hb3⟩,hb4⟩:=hw'
   obtain ⟨c0',c1',c2',f0',f1',f2'⟩:=cells3 hb3
   have HK:=hk'
   simp only [Kept,ka,kb,kc,kd,ke,kfa,kga] at HK
   have h6:=(set3 hb3 (F1 x5) (F1 y5) (F1 z5)).1
   have h7:AxP (crossV (cv x4 y4 z4) (cv x2 y2 z2)) #[F1 x5,F1 y5,F1 z5]:=by
    rcases hs 24 (of_decide_eq_true (by kernel_rfl)) rfl with h | ⟨x,y,z,e,h⟩
    ·cases h
    ·injection e with e
     exact ⟨x,y,z,e,h⟩
   refine ⟨((w'.setCell ⟨w.heap.size + 1,0,none⟩ (F1 x5)).setCell ⟨w.heap.size + 1,1,none⟩ (F1 y5)).setCell ⟨w.heap.size + 1,2,none⟩ (F1 z5),(by go_simp;first | done | rfl),⟨?_,bel3 hb' (by omega) ..,((hb2.other (by omega) _ _).other (by omega) _ _).other (by omega) _ _,⟨_,_,_,h6⟩,((hb4.other (by omega) _ _).other (by omega) _ _).other (by omega) _ _⟩,⟨by simp [World.setCell],fun b hb => ?_⟩,?_⟩
   ·simp only [Kept,ka,kb,kc,kd,ke,kfa,kga];simp [HK,World.cell?_setCell_other,n3,n4]
   ·by_cases e:w.heap.size + 1 = b
    ·subst e;exact .inr (.inr ⟨rfl,_,h6,h7⟩)
    ·left;simp only [World.setCell,Array.getElem?_modify,if_neg e]
   ·intro hn ty d x ho g' hg
    injection ho with _ h1 _
    injection h1 with h1
    subst h1
    exact ⟨fun hd => (by cases hd),fun _ _ => ⟨_,h6,h7⟩⟩
  refine Qh.walk_nil fun w8 hw8 hE hF => ?_
  have h2:=(hF _ (List.mem_of_getElem? (i:=5) rfl) rfl _ _ _ rfl _ rfl).1 rfl rfl
  obtain ⟨A,h3,x6,y6,z6,rfl,h4⟩:=(hF _ (List.mem_of_getElem? (i:=6) rfl) rfl _ _ _ rfl _ rfl).2 rfl rfl
  clear hF hE hC0 hB2 hB3 hB4 W1b hkl
  obtain ⟨hk8,hb8,-,-,p,q,s,hb4⟩:=hw8
  obtain ⟨c0',c1',c2',f0',f1',f2'⟩:=cells3 hb4
  obtain ⟨d0,d1,d2,-⟩:=cells3 h2
  obtain ⟨e0,e1,e2,-⟩:=cells3 h3
  clear h2 h3 hb4
  have hu:cv x6 y6 z6 = (axesV (cv a b c) (cv d e f)).2.1:=by rw [h4,hr.out,hf.out,ax2]
  have hu:=Lib.hid hu
  have hr:Hid (cv x4 y4 z4 = (axesV (cv a b c) (cv d e f)).1):=by unfold Hid;rw [ax1];exact hr.out
  have hf:Hid (cv x2 y2 z2 = (axesV (cv a b c) (cv d e f)).2.2):=by unfold Hid;rw [ax3];exact hf.out
  clear h4 hk8
  go_wp2_with fail
  refine bodyPost_ret (v:=.tuple #[V3 x4 y4 z4,V3 x6 y6 z6,V3 x2 y2 z2]) ?_ rfl ⟨x4,y4,z4,x6,y6,z6,x2,y2,z2,rfl,hr.out,hu.out,hf.out,bel3 hb8 (by omega) ..⟩
  simp [results,Tryz.results243,go_sem,d0,d1,d2,e0,e1,e2,c0',c1',c2',World.cell?_setCell_other,World.cell?_setCell_same']
  first | done | exact ⟨rfl,rfl,rfl⟩
end Go.Proofs.YtbiacfkiakddiaaGreat

namespace Go.Proofs.YtbiacfkiakddiaaGreat
open Go.RowKit Go.Fl
inductive PhiAxs:FuncId → Array Value → Value → Prop
 | less (a b c d e f x y z:Nat) (h:cv x y z = lessV (cv a b c) (cv d e f)):PhiAxs 167 #[V3 a b c,V3 d e f] (V3 x y z)
 | unit (a b c x y z:Nat) (h:cv x y z = unitF (cv a b c)):PhiAxs 166 #[V3 a b c] (V3 x y z)
 | cross (a b c d e f x y z:Nat) (h:cv x y z = crossV (cv a b c) (cv d e f)):PhiAxs 264 #[V3 a b c,V3 d e f] (V3 x y z)



set_option maxRecDepth 100000 in
set_option maxHeartbeats 2000000 in
theorem s_axes_any (a b c d e f wd:Nat) (nx ny:Int) (cb c0:Nat) (w:World) (hc:CamIn a b c d e f wd nx ny cb c0 w) :
  Calls Tryz.prog 238 #[.pointer (some ⟨cb,c0,none⟩)] w (RetAx (axesV (cv a b c) (cv d e f)) w):=by
 go_enter Tryz.func238,Tryz.ntmps238
 go_upto_region 1 with fail
 obtain ⟨hB2,hB3,hB4⟩:=v3b_new w
 generalize hW:((w.alloc (.cells #[F1 0,F1 0,F1 0] 38)).alloc (.cells #[F1 0,F1 0,F1 0] 38)).alloc (.cells #[F1 0,F1 0,F1 0] 38) = W1 at *
 have W1b:Below w.heap.size w W1:=by subst hW;exact (by repeat' (first | exact Below.refl _ _ | exact Nat.le_refl _ | refine below_drewN ?_ _ | refine Below.alloc ?_ (by simp <;> omega) _ | refine Below.setCell ?_ (by simp <;> omega) _ | refine below_step ?_ (by assumption)))
 have hkept:Kept [(⟨w.heap.size,0,none⟩,F1 0),(⟨w.heap.size,1,none⟩,F1 0),(⟨w.heap.size,2,none⟩,F1 0),(⟨w.heap.size + 1,0,none⟩,F1 0),(⟨w.heap.size + 1,1,none⟩,F1 0),(⟨w.heap.size + 1,2,none⟩,F1 0),(⟨w.heap.size + 1 + 1,0,none⟩,F1 0),(⟨w.heap.size + 1 + 1,1,none⟩,F1 0),(⟨w.heap.size + 1 + 1,2,none⟩,F1 0)] [⟨w.heap.size,0,none⟩,⟨w.heap.size,1,none⟩,⟨w.heap.size,2,none⟩,⟨w.heap.size + 1,0,none⟩,⟨w.heap.size + 1,1,none⟩,⟨w.heap.size + 1,2,none⟩,⟨w.heap.size + 1 + 1,0,none⟩,⟨w.heap.size + 1 + 1,1,none⟩,⟨w.heap.size + 1 + 1,2,none⟩] W1:=by
  subst hW;simp only [Kept,ka,kb,kc,kd,ke,kfa,kga];(first | (go_simp;done) | (simp [World.cell?,World.frozen?,World.alloc,Array.getElem?_push];done))
 clear hW
 have hkept:=kept_app (hc.keep W1b).kept hkept
 clear hc
 refine Qr.wp_made 11 10 5 #[F1 0,F1 0,F1 0] 38 (by kernel_rfl) (by kernel_rfl) PhiAxs rfl (by kernel_rfl) ⟨_,rfl,rfl,fun a w => by go_simp⟩ (by kernel_rfl) ?_
 repeat (first | (refine Qr.walk_plain rfl fun K hK => ?_;apply Qr.one_det;(focus (intro w' hw';have HK:=keep hkept hw';simp only [Kept,ka,kb,kc,kd,ke,kfa,kga] at HK;go_simp;first | done | rfl));go_simp;refine hK _ ?_;clear hK K) | (refine Qr.walk_plain rfl fun K hK => ?_;refine Qr.one_rel (fun v => ∃ g,v = .pointer (some ⟨g,0,none⟩)) (fun w' hw' => ⟨.pointer (some ⟨w'.heap.size,0,none⟩),_,by go_simp;rfl,⟨_,rfl⟩,hw'.alloc hw'.size _,(Below.refl _ _).alloc (Nat.le_refl _) _⟩) (fun v hv => ?_);obtain ⟨g,rfl⟩:=hv;go_simp;refine hK _ ?_;clear hK K) | (refine Qr.walk_plain rfl fun K hK => ?_;apply Qr.one_call;(focus (intro w' hw';go_simp;first | done | exact ⟨rfl,rfl⟩));(focus (intro w' hw'; go_at_call 167;refine (s_less_any _ _ _ _ _ _ _).mono ?_;rintro _ w2 ⟨x1,y1,z1,rfl,hx1,hy1,hz1,hb1⟩ ;exact ⟨_,rfl,by constructor;first | assumption | (exact v3_mk (by assumption) (by assumption) (by assumption)),below_step hw' (by assumption),by assumption⟩));intro v hv;cases hv;go_simp;refine hK _ ?_;clear hK K) | (refine Qr.walk_plain rfl fun K hK => ?_;apply Qr.one_call;(focus (intro w' hw';go_simp;first | done | exact ⟨rfl,rfl⟩));(focus (intro w' hw'; go_at_call 166;refine (s_unit_any _ _ _ _).mono ?_;rintro _ w2 ⟨x1,y1,z1,rfl,hx1,hy1,hz1,hb1⟩ ;exact ⟨_,rfl,by constructor;first | assumption | (exact v3_mk (by assumption) (by assumption) (by assumption)),below_step hw' (by assumption),by assumption⟩));intro v hv;cases hv;go_simp;refine hK _ ?_;clear hK K) | (refine Qr.walk_plain rfl fun K hK => ?_;apply Qr.one_call;(focus (intro w' hw';go_simp;first | done | exact ⟨rfl,rfl⟩));(focus (intro w' hw'; go_at_call 264;refine (s_cross_any _ _ _ _ _ _ _).mono ?_;rintro _ w2 ⟨x1,y1,z1,rfl,hx1,hb1⟩ ;exact ⟨_,rfl,by constructor;first | assumption | (exact v3_mk (by assumption) (by assumption) (by assumption)),below_step hw' (by assumption),by assumption⟩));intro v hv;cases hv;go_simp;refine hK _ ?_;clear hK K))
 rename_i x1 y1 z1 h1 x2 y2 z2 h2
 refine Qr.walk_nil fun w3 hw3 hmade => ?_
 obtain ⟨g3,hg3,hgw,hgc⟩:=hmade _ rfl
 injection hg3 with hg3
 injection hg3 with hg3
 subst hg3
 obtain ⟨hc0,hc1,hc2,hf0,hf1,hf2⟩:=cells3 hgc
 go_upto_region 2 with fail
 have hset:=set3 hgc (F1 x2) (F1 y2) (F1 z2)
 have hbw:=hw3.trans (hset.2.mono hgw)
 clear hc0 hc1 hc2 hf0 hf1 hf2 hgc hw3
 generalize ((w3.setCell ⟨g,0,none⟩ (F1 x2)).setCell ⟨g,1,none⟩ (F1 y2)).setCell ⟨g,2,none⟩ (F1 z2) = w4 at hset hbw ⊢
 have hkept:=kept_app (keep hkept hbw) (kept3 hset.1)
 have W1b:=below_step W1b hbw
 have W7c:=hbw
 have hgW:=hgw
 have hW1:w.heap.size + 1 + 1 < W1.heap.size:=by obtain ⟨_,_,_,h⟩:=hB4;exact (Array.getElem?_eq_some_iff.1 h).1
 clear hset hbw hgw
 have hf:cv x2 y2 z2 = fwdV (cv a b c) (cv d e f):=by rw [h2,h1];rfl
 clear h1 h2
 have hK:=hkept;simp only [Kept,ka,kb,kc,kd,ke,kfa,kga] at hK
 go_upto_region 3 with (first | (go_at_call 264;refine (s_cross_any _ _ _ _ _ _ _).mono ?_;rintro _ w5 ⟨x3,y3,z3,rfl,h3,hb1⟩;have W1b:=below_step W1b hb1;have W7c:=below_step W7c hb1;have hkept:=keepT hkept hb1 rfl;clear hK;have hK:=hkept;simp only [Kept,ka,kb,kc,kd,ke,kfa,kga] at hK) | (go_at_call 166;refine (s_unit_any _ _ _ _).mono ?_;rintro _ w6 ⟨x4,y4,z4,rfl,h4,h5,h6,hb1⟩;have W1b:=below_step W1b hb1;have W7c:=below_step W7c hb1;have hs6:=W7c.size;have hkept:=keepT hkept hb1 rfl;clear hK;have hK:=hkept;simp only [Kept,ka,kb,kc,kd,ke,kfa,kga] at hK))
 have hr:cv x4 y4 z4 = rightV (cv a b c) (cv d e f):=by
  rw [v3_mk h4 h5 h6]
  unfold rightV
  rw [← hf,show unitF (crossV (cv x2 y2 z2) upV) = unitF (cv x3 y3 z3) from congrArg unitF h3.symm]
  rfl
 have hb6:Below w6.heap.size w6 (w6.alloc (.cells #[F1 x4,F1 y4,F1 z4] 38)):=(Below.refl _ _).alloc (Nat.le_refl _) _
 have hkept:=kept_app (keep hkept hb6) (show Kept [(⟨w6.heap.size,0,none⟩,F1 x4),(⟨w6.heap.size,1,none⟩,F1 y4),(⟨w6.heap.size,2,none⟩,F1 z4)] [] (w6.alloc (.cells #[F1 x4,F1 y4,F1 z4] 38)) by simp only [Kept,ka,kb,kc,kd,ke,kfa,kga];simp)
 have W1b:=below_step W1b hb6
 have W7c:=below_step W7c hb6
 clear hK hb1 hb6 h3 h4 h5 h6
 generalize w6.alloc (.cells #[F1 x4,F1 y4,F1 z4] 38) = w7 at *
 replace hB2:=hB2.keep W7c
 replace hB3:=hB3.keep W7c
 replace hB4:=hB4.keep W7c
 have hkl:Kept [(⟨g,0,none⟩,F1 x2),(⟨g,1,none⟩,F1 y2),(⟨g,2,none⟩,F1 z2),(⟨w6.heap.size,0,none⟩,F1 x4),(⟨w6.heap.size,1,none⟩,F1 y4),(⟨w6.heap.size,2,none⟩,F1 z4)] [] w7:=by
  have hK:=hkept;simp only [Kept,ka,kb,kc,kd,ke,kfa,kga] at hK
  simp only [Kept,ka,kb,kc,kd,ke,kfa,kga]
  simp [hK]
 clear hkept W7c
 have hf:=Lib.hid hf
 have hr:=Lib.hid hr
 generalize hG6:w6.heap.size = g6 at *
 have n1:w.heap.size ≠ g:=by omega
 have n2:w.heap.size ≠ g6:=by omega
 have n3:w.heap.size + 1 ≠ g:=by omega
 have n4:w.heap.size + 1 ≠ g6:=by omega
 clear hG6 hs6 hgW
 refine Qh.wp_stT 7 (by kernel_rfl) (by kernel_rfl) (by kernel_rfl) (fun w' => Kept [(⟨g,0,none⟩,F1 x2),(⟨g,1,none⟩,F1 y2),(⟨g,2,none⟩,F1 z2),(⟨g6,0,none⟩,F1 x4),(⟨g6,1,none⟩,F1 y4),(⟨g6,2,none⟩,F1 z4)] [] w' ∧ Below w.heap.size w w' ∧ V3B w.heap.size w' ∧ V3B (w.heap.size + 1) w' ∧ V3B (w.heap.size + 1 + 1) w') ?_ PhiC3 (GdV 24 (crossV (cv x4 y4 z4) (cv x2 y2 z2))) [] (Qh.RrT (AxTr w.heap.size #[F1 x4,F1 y4,F1 z4] (AxP (crossV (cv x4 y4 z4) (cv x2 y2 z2))))) (Qh.FoS (AxS w.heap.size #[F1 x4,F1 y4,F1 z4] (AxP (crossV (cv x4 y4 z4) (cv x2 y2 z2))))) (Qh.aux_mk axtr_trans axs_last) ⟨fun _ _ _ _ h _ => h,fun _ _ _ => .inl rfl⟩ ⟨fun d hd => (by subst hd;exact .inl rfl),fun d hd => (by cases hd),fun d hd => (by cases hd)⟩ ?_
 ·have hd:Below w7.heap.size w7 { w7 with drawn:=w7.drawn + 1 }:=(Below.refl _ _).drew
  exact ⟨Go.Fl.keep hkl hd,W1b.trans (hd.mono W1b.size),hB2.keep hd,hB3.keep hd,hB4.keep hd⟩
 ·have hC0:(fun w' => Kept [(⟨g,0,none⟩,F1 x2),(⟨g,1,none⟩,F1 y2),(⟨g,2,none⟩,F1 z2),(⟨g6,0,none⟩,F1 x4),(⟨g6,1,none⟩,F1 y4),(⟨g6,2,none⟩,F1 z4)] [] w' ∧ Below w.heap.size w w' ∧ V3B w.heap.size w' ∧ V3B (w.heap.size + 1) w' ∧ V3B (w.heap.size + 1 + 1) w') w7:=⟨hkl,W1b,hB2,hB3,hB4⟩
  repeat (first
   | (refine Qh.walk_step fun K hK => ?_;apply Qh.one_det (Qh.aux_mk axtr_trans axs_last) hC0 (by intro d _ hd;cases hd) rfl rfl;(focus (intro w' hw';have HK:=hw'.1;simp only [Kept,ka,kb,kc,kd,ke,kfa,kga] at HK;go_simp;first | done | rfl));(focus (intro w' hw' hs hd;cases hd));go_simp;refine hK _ ?_;clear hK K)
   | (refine Qh.walk_step fun K hK => ?_;apply Qh.one_call (Qh.aux_mk axtr_trans axs_last) _ _ hC0 (by intro d _ hd;cases hd) rfl rfl;(focus (intro w' hw';go_simp;first | done | exact ⟨rfl,rfl⟩));(focus (apply Exists.intro;(constructor <;> first | exact (0:Nat) | exact undef)));(focus (intro w' hw' hs; go_at_call 264;refine (s_cross_any _ _ _ _ _ _ _).mono ?_;rintro _ wA ⟨x5,y5,z5,rfl,h5,hb1⟩;exact ⟨_,rfl,.mk _ _ _ _ _,fun _ => .inr ⟨_,_,_,rfl,h5⟩,⟨Go.Fl.keep hw'.1 hb1,hw'.2.1.trans (hb1.mono hw'.2.1.size),hw'.2.2.1.keep hb1,hw'.2.2.2.1.keep hb1,hw'.2.2.2.2.keep hb1⟩,Qh.rrt_below hb1⟩));intro v hv;cases hv;go_simp;refine hK _ ?_;clear hK K))
  rename_i x5 y5 z5
  refine Qh.walk_step fun K hK => ?_
  refine Qh.one_store rfl (fun w' hw' hs => ?_) (hK _ ?_)
  ·clear hK K hC0
   obtain ⟨hk',hb',⟨p,q,s,hb2⟩,hb3,hb4⟩:=hw'
   obtain ⟨c0',c1',c2',f0',f1',f2'⟩:=cells3 hb2
   have HK:=hk'
   simp only [Kept,ka,kb,kc,kd,ke,kfa,kga] at HK
   have h6:=(set3 hb2 (F1 x4) (F1 y4) (F1 z4)).1
   refine ⟨((w'.setCell ⟨w.heap.size,0,none⟩ (F1 x4)).setCell ⟨w.heap.size,1,none⟩ (F1 y4)).setCell ⟨w.heap.size,2,none⟩ (F1 z4),(by go_simp;first | done | rfl),⟨?_,bel3 hb' (Nat.le_refl _) ..,⟨_,_,_,h6⟩,((hb3.other (by omega) _ _).other (by omega) _ _).other (by omega) _ _,((hb4.other (by omega) _ _).other (by omega) _ _).other (by omega) _ _⟩,⟨by simp [World.setCell],fun b hb => ?_⟩,?_⟩
   ·simp only [Kept,ka,kb,kc,kd,ke,kfa,kga];simp [HK,World.cell?_setCell_other,n1,n2]
   ·by_cases e:w.heap.size = b
    ·subst e;exact .inr (.inl ⟨rfl,h6⟩)
    ·left;simp only [World.setCell,Array.getElem?_modify,if_neg e]
   ·intro hn ty d x ho g' hg
    injection ho with _ h1 _
    injection h1 with h1
    subst h1
    exact ⟨fun _ _ => h6,fun hd => (by cases hd)⟩
  refine Qh.walk_step fun K hK => ?_
  refine Qh.one_store rfl (fun w' hw' hs => ?_) (hK _ ?_)
  ·clear hK K hC0
   obtain ⟨hk',hb',hb2,⟨p,q,s,hb3⟩,hb4⟩:=hw'
   obtain ⟨c0',c1',c2',f0',f1',f2'⟩:=cells3 hb3
   have HK:=hk'
   simp only [Kept,ka,kb,kc,kd,ke,kfa,kga] at HK
   have h6:=(set3 hb3 (F1 x5) (F1 y5) (F1 z5)).1
   have h7:AxP (crossV (cv x4 y4 z4) (cv x2 y2 z2)) #[F1 x5,F1 y5,F1 z5]:=by
    rcases hs 24 (of_decide_eq_true (by kernel_rfl)) rfl with h | ⟨x,y,z,e,h⟩
    ·cases h
    ·injection e with e
     exact ⟨x,y,z,e,h⟩
   refine ⟨((w'.setCell ⟨w.heap.size + 1,0,none⟩ (F1 x5)).setCell ⟨w.heap.size + 1,1,none⟩ (F1 y5)).setCell ⟨w.heap.size + 1,2,none⟩ (F1 z5),(by go_simp;first | done | rfl),⟨?_,bel3 hb' (by omega) ..,((hb2.other (by omega) _ _).other (by omega) _ _).other (by omega) _ _,⟨_,_,_,h6⟩,((hb4.other (by omega) _ _).other (by omega) _ _).other (by omega) _ _⟩,⟨by simp [World.setCell],fun b hb => ?_⟩,?_⟩
   ·simp only [Kept,ka,kb,kc,kd,ke,kfa,kga];simp [HK,World.cell?_setCell_other,n3,n4]
   ·by_cases e:w.heap.size + 1 = b
    ·subst e;exact .inr (.inr ⟨rfl,_,h6,h7⟩)
    ·left;simp only [World.setCell,Array.getElem?_modify,if_neg e]
   ·intro hn ty d x ho g' hg
    injection ho with _ h1 _
    injection h1 with h1
    subst h1
    exact ⟨fun hd => (by cases hd),fun _ _ => ⟨_,h6,h7⟩⟩
  refine Qh.walk_nil fun w8 hw8 hE hF => ?_
  have h2:=(hF _ (List.mem_of_getElem? (i:=5) rfl) rfl _ _ _ rfl _ rfl).1 rfl rfl
  obtain ⟨A,h3,x6,y6,z6,rfl,h4⟩:=(hF _ (List.mem_of_getElem? (i:=6) rfl) rfl _ _ _ rfl _ rfl).2 rfl rfl
  clear hF hE hC0 hB2 hB3 hB4 W1b hkl
  obtain ⟨hk8,hb8,-,-,p,q,s,hb4⟩:=hw8
  obtain ⟨c0',c1',c2',f0',f1',f2'⟩:=cells3 hb4
  obtain ⟨d0,d1,d2,-⟩:=cells3 h2
  obtain ⟨e0,e1,e2,-⟩:=cells3 h3
  clear h2 h3 hb4
  have hu:cv x6 y6 z6 = (axesV (cv a b c) (cv d e f)).2.1:=by rw [h4,hr.out,hf.out,ax2]
  have hu:=Lib.hid hu
  have hr:Hid (cv x4 y4 z4 = (axesV (cv a b c) (cv d e f)).1):=by unfold Hid;rw [ax1];exact hr.out
  have hf:Hid (cv x2 y2 z2 = (axesV (cv a b c) (cv d e f)).2.2):=by unfold Hid;rw [ax3];exact hf.out
  clear h4 hk8
  go_wp2_with fail
  refine bodyPost_ret (v:=.tuple #[V3 x4 y4 z4,V3 x6 y6 z6,V3 x2 y2 z2]) ?_ rfl ⟨x4,y4,z4,x6,y6,z6,x2,y2,z2,rfl,hr.out,hu.out,hf.out,bel3 hb8 (by omega) ..⟩
  simp [results,Tryz.results238,go_sem,d0,d1,d2,e0,e1,e2,c0',c1',c2',World.cell?_setCell_other,World.cell?_setCell_same']
  first | done | exact ⟨rfl,rfl,rfl⟩
end Go.Proofs.YtbiacfkiakddiaaGreat
