/-
 Lemmas: D14.
-/
import Derived.Test.YtbiacfkiakddiaaGreatObo
set_option linter.unusedVariables false
set_option linter.unusedSimpArgs false
namespace Go.Proofs.YtbiacfkiakddiaaGreat
open Go.RowKit Go.Fl
theorem alloc3_heap (w:World) (x y z:Obj):(((w.alloc x).alloc y).alloc z).heap[w.heap.size]? = some x ∧ (((w.alloc x).alloc y).alloc z).heap[w.heap.size + 1]? = some y ∧ (((w.alloc x).alloc y).alloc z).heap[w.heap.size + 1 + 1]? = some z:=by
 have B:∀ (w:World) (o:Obj),Below w.heap.size w (w.alloc o):=fun w o => (Below.refl _ _).alloc (Nat.le_refl _) _
 have e1:(w.alloc x).heap.size = w.heap.size + 1:=by simp
 have e2:((w.alloc x).alloc y).heap.size = w.heap.size + 1 + 1:=by simp
 refine ⟨?_,?_,?_⟩
 ·rw [(B ((w.alloc x).alloc y) z).block _ (by omega),(B (w.alloc x) y).block _ (by omega)];exact heap_alloc_at w x
 ·rw [(B ((w.alloc x).alloc y) z).block _ (by omega)];have:=heap_alloc_at (w.alloc x) y;rwa [e1] at this
 ·have:=heap_alloc_at ((w.alloc x).alloc y) z;rwa [e2] at this
theorem alloc3_below (w:World) (x y z:Obj):Below w.heap.size w (((w.alloc x).alloc y).alloc z):=(by repeat' (first | exact Below.refl _ _ | exact Nat.le_refl _ | refine below_drewN ?_ _ | refine Below.alloc ?_ (by simp <;> omega) _ | refine Below.setCell ?_ (by simp <;> omega) _ | refine below_step ?_ (by assumption)))
/-- Blocks from G on stay as they were. -/
structure Far (G:Nat) (w w':World):Prop where
 size:w.heap.size ≤ w'.heap.size
 blk:∀ k,G ≤ k → k < w.heap.size → w'.heap[k]? = w.heap[k]?
theorem Far.refl (G:Nat) (w:World):Far G w w:=⟨Nat.le_refl _,fun _ _ _ => rfl⟩
theorem Far.below {G:Nat} {a w w':World} (h:Far G a w) (hb:Below w.heap.size w w'):Far G a w':=⟨Nat.le_trans h.size hb.size,fun k h1 h2 => (hb.block k (Nat.lt_of_lt_of_le h2 h.size)).trans (h.blk k h1 h2)⟩
theorem Far.set {G:Nat} {a w:World} (h:Far G a w) {b:Nat} (hb:b < G) (i:Nat) (u:Value):Far G a (w.setCell ⟨b,i,none⟩ u):=⟨by simpa [World.setCell] using h.size,fun k h1 h2 => by
 rw [← h.blk k h1 h2]
 simp only [World.setCell,Array.getElem?_modify,if_neg (show ¬ b = k by omega)]⟩
theorem Far.cell {G:Nat} {w w':World} (h:Far G w w') {b i:Nat} (hb:G ≤ b) {v:Value} (hc:w.cell? ⟨b,i,none⟩ = some v):w'.cell? ⟨b,i,none⟩ = some v:=by
 have hlt:b < w.heap.size:=some_lt (a:=⟨b,i,none⟩) (by rw [hc];rfl)
 unfold World.cell? at hc ⊢
 rw [h.blk b hb hlt]
 exact hc
theorem NodeNew.fars {n:PN} {G o:Nat} {w w':World} (h:NodeNew n G o w) (hf:Far G w w'):NodeNew n G o w':=by
 obtain ⟨h1,h2,h3,g,h4,h5,h6⟩:=h
 exact ⟨hf.cell (Nat.le_refl _) h1,hf.cell (Nat.le_refl _) h2,hf.cell (Nat.le_refl _) h3,g,h4,hf.cell (Nat.le_refl _) h5,fun i hi => hf.cell (by omega) (h6 i hi)⟩
theorem set_oth {w:World} {g h i:Nat} {u:Value} {o:Option Obj} (hne:g ≠ h) (k:w.heap[h]? = o):(w.setCell ⟨g,i,none⟩ u).heap[h]? = o:=by
 simp only [World.setCell,Array.getElem?_modify,if_neg hne];exact k

set_option maxRecDepth 100000 in
set_option maxHeartbeats 8000000 in
theorem to_camera (a b c d e f wd:Nat) (nx ny:Int) (w:World) :
  Calls Tryz.prog 101 #[.agg #[F1 a,F1 b,F1 c,F1 d,F1 e,F1 f,F1 wd,.int .i64 nx,.int .i64 ny]] w (fun e' w' => e' = .returned (.agg #[F1 a,F1 b,F1 c,F1 d,F1 e,F1 f,F1 wd,.int .i64 nx,.int .i64 ny]) ∧ Below w.heap.size w w'):=by
 go_enter Tryz.func101,Tryz.ntmps101
 go_upto_region 2 with fail
 obtain ⟨hi,hr,ho⟩:=alloc3_heap w (.cells #[F1 a,F1 b,F1 c,F1 d,F1 e,F1 f,F1 wd,.int .i64 nx,.int .i64 ny] 74) (.cells #[F1 0,F1 0,F1 0,F1 0,F1 0,F1 0,F1 0,.int .i64 0,.int .i64 0] 83) (.cells #[F1 0,F1 0,F1 0,F1 0,F1 0,F1 0,F1 0,.int .i64 0,.int .i64 0] 83)
 have Wb:Below w.heap.size w (((w.alloc (.cells #[F1 a,F1 b,F1 c,F1 d,F1 e,F1 f,F1 wd,.int .i64 nx,.int .i64 ny] 74)).alloc (.cells #[F1 0,F1 0,F1 0,F1 0,F1 0,F1 0,F1 0,.int .i64 0,.int .i64 0] 83)).alloc (.cells #[F1 0,F1 0,F1 0,F1 0,F1 0,F1 0,F1 0,.int .i64 0,.int .i64 0] 83)):=alloc3_below w _ _ _
 generalize ((w.alloc (.cells #[F1 a,F1 b,F1 c,F1 d,F1 e,F1 f,F1 wd,.int .i64 nx,.int .i64 ny] 74)).alloc (.cells #[F1 0,F1 0,F1 0,F1 0,F1 0,F1 0,F1 0,.int .i64 0,.int .i64 0] 83)).alloc (.cells #[F1 0,F1 0,F1 0,F1 0,F1 0,F1 0,F1 0,.int .i64 0,.int .i64 0] 83) = W0 at *
 have hlt0:w.heap.size + 1 + 1 < W0.heap.size:=(Array.getElem?_eq_some_iff.1 ho).1
 have i0_0:W0.cell? ⟨w.heap.size,0,none⟩ = some (F1 a):=(arr_cell hi 0).trans rfl
 have i0_1:W0.cell? ⟨w.heap.size,1,none⟩ = some (F1 b):=(arr_cell hi 1).trans rfl
 have i0_2:W0.cell? ⟨w.heap.size,2,none⟩ = some (F1 c):=(arr_cell hi 2).trans rfl
 have o0_0:W0.cell? ⟨w.heap.size + 1 + 1,0,none⟩ = some (F1 0):=(arr_cell ho 0).trans rfl
 have f0_0:W0.frozen? ⟨w.heap.size + 1 + 1,0,none⟩ = false:=arr_frozen ho 0
 have o0_1:W0.cell? ⟨w.heap.size + 1 + 1,1,none⟩ = some (F1 0):=(arr_cell ho 1).trans rfl
 have f0_1:W0.frozen? ⟨w.heap.size + 1 + 1,1,none⟩ = false:=arr_frozen ho 1
 have o0_2:W0.cell? ⟨w.heap.size + 1 + 1,2,none⟩ = some (F1 0):=(arr_cell ho 2).trans rfl
 have f0_2:W0.frozen? ⟨w.heap.size + 1 + 1,2,none⟩ = false:=arr_frozen ho 2
 go_upto_region 3 with ((go_at_call 64;refine (to_vector _ _ _ _).mono ?_;rintro _ V0 ⟨rfl,hb1⟩);have HL:=lift hb1;have HF:=liftF hb1)
 replace hi:V0.heap[w.heap.size]? = _:=(hb1.block _ (by omega)).trans hi
 replace hr:V0.heap[w.heap.size + 1]? = _:=(hb1.block _ (by omega)).trans hr
 replace ho:V0.heap[w.heap.size + 1 + 1]? = _:=(hb1.block _ (by omega)).trans ho
 replace Wb:=below_step Wb hb1
 clear HL HF
 replace hi:(((V0.setCell ⟨w.heap.size + 1 + 1,0,none⟩ (F1 a)).setCell ⟨w.heap.size + 1 + 1,1,none⟩ (F1 b)).setCell ⟨w.heap.size + 1 + 1,2,none⟩ (F1 c)).heap[w.heap.size]? = some (.cells #[F1 a,F1 b,F1 c,F1 d,F1 e,F1 f,F1 wd,.int .i64 nx,.int .i64 ny] 74 (0,0)):=(set_oth (by omega) (set_oth (by omega) (set_oth (by omega) hi)))
 replace hr:(((V0.setCell ⟨w.heap.size + 1 + 1,0,none⟩ (F1 a)).setCell ⟨w.heap.size + 1 + 1,1,none⟩ (F1 b)).setCell ⟨w.heap.size + 1 + 1,2,none⟩ (F1 c)).heap[w.heap.size + 1]? = some (.cells #[F1 0,F1 0,F1 0,F1 0,F1 0,F1 0,F1 0,.int .i64 0,.int .i64 0] 83 (0,0)):=(set_oth (by omega) (set_oth (by omega) (set_oth (by omega) hr)))
 have ho0_0:(V0.setCell ⟨w.heap.size + 1 + 1,0,none⟩ (F1 a)).heap[w.heap.size + 1 + 1]? = some (.cells #[F1 a,F1 0,F1 0,F1 0,F1 0,F1 0,F1 0,.int .i64 0,.int .i64 0] 83 (0,0)):=arr_set ho 0 (F1 a)
 have ho0_1:((V0.setCell ⟨w.heap.size + 1 + 1,0,none⟩ (F1 a)).setCell ⟨w.heap.size + 1 + 1,1,none⟩ (F1 b)).heap[w.heap.size + 1 + 1]? = some (.cells #[F1 a,F1 b,F1 0,F1 0,F1 0,F1 0,F1 0,.int .i64 0,.int .i64 0] 83 (0,0)):=arr_set ho0_0 1 (F1 b)
 have ho0_2:(((V0.setCell ⟨w.heap.size + 1 + 1,0,none⟩ (F1 a)).setCell ⟨w.heap.size + 1 + 1,1,none⟩ (F1 b)).setCell ⟨w.heap.size + 1 + 1,2,none⟩ (F1 c)).heap[w.heap.size + 1 + 1]? = some (.cells #[F1 a,F1 b,F1 c,F1 0,F1 0,F1 0,F1 0,.int .i64 0,.int .i64 0] 83 (0,0)):=arr_set ho0_1 2 (F1 c)
 replace ho:=ho0_2
 clear ho0_0 ho0_1 ho0_2
 replace Wb:Below w.heap.size w (((V0.setCell ⟨w.heap.size + 1 + 1,0,none⟩ (F1 a)).setCell ⟨w.heap.size + 1 + 1,1,none⟩ (F1 b)).setCell ⟨w.heap.size + 1 + 1,2,none⟩ (F1 c)):=(((Wb.setCell (p:=⟨w.heap.size + 1 + 1,0,none⟩) (by show w.heap.size ≤ w.heap.size + 1 + 1;omega) (F1 a)).setCell (p:=⟨w.heap.size + 1 + 1,1,none⟩) (by show w.heap.size ≤ w.heap.size + 1 + 1;omega) (F1 b)).setCell (p:=⟨w.heap.size + 1 + 1,2,none⟩) (by show w.heap.size ≤ w.heap.size + 1 + 1;omega) (F1 c))
 clear i0_0 i0_1 i0_2 o0_0 f0_0 o0_1 f0_1 o0_2 f0_2 hb1
 generalize ((V0.setCell ⟨w.heap.size + 1 + 1,0,none⟩ (F1 a)).setCell ⟨w.heap.size + 1 + 1,1,none⟩ (F1 b)).setCell ⟨w.heap.size + 1 + 1,2,none⟩ (F1 c) = W1 at *
 have hlt1:w.heap.size + 1 + 1 < W1.heap.size:=(Array.getElem?_eq_some_iff.1 ho).1
 have i1_3:W1.cell? ⟨w.heap.size,3,none⟩ = some (F1 d):=(arr_cell hi 3).trans rfl
 have i1_4:W1.cell? ⟨w.heap.size,4,none⟩ = some (F1 e):=(arr_cell hi 4).trans rfl
 have i1_5:W1.cell? ⟨w.heap.size,5,none⟩ = some (F1 f):=(arr_cell hi 5).trans rfl
 have o1_3:W1.cell? ⟨w.heap.size + 1 + 1,3,none⟩ = some (F1 0):=(arr_cell ho 3).trans rfl
 have f1_3:W1.frozen? ⟨w.heap.size + 1 + 1,3,none⟩ = false:=arr_frozen ho 3
 have o1_4:W1.cell? ⟨w.heap.size + 1 + 1,4,none⟩ = some (F1 0):=(arr_cell ho 4).trans rfl
 have f1_4:W1.frozen? ⟨w.heap.size + 1 + 1,4,none⟩ = false:=arr_frozen ho 4
 have o1_5:W1.cell? ⟨w.heap.size + 1 + 1,5,none⟩ = some (F1 0):=(arr_cell ho 5).trans rfl
 have f1_5:W1.frozen? ⟨w.heap.size + 1 + 1,5,none⟩ = false:=arr_frozen ho 5
 go_upto_region 4 with ((go_at_call 64;refine (to_vector _ _ _ _).mono ?_;rintro _ V1 ⟨rfl,hb1⟩);have HL:=lift hb1;have HF:=liftF hb1)
 replace hi:V1.heap[w.heap.size]? = _:=(hb1.block _ (by omega)).trans hi
 replace hr:V1.heap[w.heap.size + 1]? = _:=(hb1.block _ (by omega)).trans hr
 replace ho:V1.heap[w.heap.size + 1 + 1]? = _:=(hb1.block _ (by omega)).trans ho
 replace Wb:=below_step Wb hb1
 clear HL HF
 replace hi:(((V1.setCell ⟨w.heap.size + 1 + 1,3,none⟩ (F1 d)).setCell ⟨w.heap.size + 1 + 1,4,none⟩ (F1 e)).setCell ⟨w.heap.size + 1 + 1,5,none⟩ (F1 f)).heap[w.heap.size]? = some (.cells #[F1 a,F1 b,F1 c,F1 d,F1 e,F1 f,F1 wd,.int .i64 nx,.int .i64 ny] 74 (0,0)):=(set_oth (by omega) (set_oth (by omega) (set_oth (by omega) hi)))
 replace hr:(((V1.setCell ⟨w.heap.size + 1 + 1,3,none⟩ (F1 d)).setCell ⟨w.heap.size + 1 + 1,4,none⟩ (F1 e)).setCell ⟨w.heap.size + 1 + 1,5,none⟩ (F1 f)).heap[w.heap.size + 1]? = some (.cells #[F1 0,F1 0,F1 0,F1 0,F1 0,F1 0,F1 0,.int .i64 0,.int .i64 0] 83 (0,0)):=(set_oth (by omega) (set_oth (by omega) (set_oth (by omega) hr)))
 have ho1_3:(V1.setCell ⟨w.heap.size + 1 + 1,3,none⟩ (F1 d)).heap[w.heap.size + 1 + 1]? = some (.cells #[F1 a,F1 b,F1 c,F1 d,F1 0,F1 0,F1 0,.int .i64 0,.int .i64 0] 83 (0,0)):=arr_set ho 3 (F1 d)
 have ho1_4:((V1.setCell ⟨w.heap.size + 1 + 1,3,none⟩ (F1 d)).setCell ⟨w.heap.size + 1 + 1,4,none⟩ (F1 e)).heap[w.heap.size + 1 + 1]? = some (.cells #[F1 a,F1 b,F1 c,F1 d,F1 e,F1 0,F1 0,.int .i64 0,.int .i64 0] 83 (0,0)):=arr_set ho1_3 4 (F1 e)
 have ho1_5:(((V1.setCell ⟨w.heap.size + 1 + 1,3,none⟩ (F1 d)).setCell ⟨w.heap.size + 1 + 1,4,none⟩ (F1 e)).setCell ⟨w.heap.size + 1 + 1,5,none⟩ (F1 f)).heap[w.heap.size + 1 + 1]? = some (.cells #[F1 a,F1 b,F1 c,F1 d,F1 e,F1 f,F1 0,.int .i64 0,.int .i64 0] 83 (0,0)):=arr_set ho1_4 5 (F1 f)
 replace ho:=ho1_5
 clear ho1_3 ho1_4 ho1_5
 replace Wb:Below w.heap.size w (((V1.setCell ⟨w.heap.size + 1 + 1,3,none⟩ (F1 d)).setCell ⟨w.heap.size + 1 + 1,4,none⟩ (F1 e)).setCell ⟨w.heap.size + 1 + 1,5,none⟩ (F1 f)):=(((Wb.setCell (p:=⟨w.heap.size + 1 + 1,3,none⟩) (by show w.heap.size ≤ w.heap.size + 1 + 1;omega) (F1 d)).setCell (p:=⟨w.heap.size + 1 + 1,4,none⟩) (by show w.heap.size ≤ w.heap.size + 1 + 1;omega) (F1 e)).setCell (p:=⟨w.heap.size + 1 + 1,5,none⟩) (by show w.heap.size ≤ w.heap.size + 1 + 1;omega) (F1 f))
 clear i1_3 i1_4 i1_5 o1_3 f1_3 o1_4 f1_4 o1_5 f1_5 hb1
 generalize ((V1.setCell ⟨w.heap.size + 1 + 1,3,none⟩ (F1 d)).setCell ⟨w.heap.size + 1 + 1,4,none⟩ (F1 e)).setCell ⟨w.heap.size + 1 + 1,5,none⟩ (F1 f) = W2 at *
 have hlt2:w.heap.size + 1 + 1 < W2.heap.size:=(Array.getElem?_eq_some_iff.1 ho).1
 have i2_6:W2.cell? ⟨w.heap.size,6,none⟩ = some (F1 wd):=(arr_cell hi 6).trans rfl
 have i2_7:W2.cell? ⟨w.heap.size,7,none⟩ = some (.int .i64 nx):=(arr_cell hi 7).trans rfl
 have i2_8:W2.cell? ⟨w.heap.size,8,none⟩ = some (.int .i64 ny):=(arr_cell hi 8).trans rfl
 have o2_6:W2.cell? ⟨w.heap.size + 1 + 1,6,none⟩ = some (F1 0):=(arr_cell ho 6).trans rfl
 have f2_6:W2.frozen? ⟨w.heap.size + 1 + 1,6,none⟩ = false:=arr_frozen ho 6
 have o2_7:W2.cell? ⟨w.heap.size + 1 + 1,7,none⟩ = some (.int .i64 0):=(arr_cell ho 7).trans rfl
 have f2_7:W2.frozen? ⟨w.heap.size + 1 + 1,7,none⟩ = false:=arr_frozen ho 7
 have o2_8:W2.cell? ⟨w.heap.size + 1 + 1,8,none⟩ = some (.int .i64 0):=(arr_cell ho 8).trans rfl
 have f2_8:W2.frozen? ⟨w.heap.size + 1 + 1,8,none⟩ = false:=arr_frozen ho 8
 go_upto_region 7 with fail
 replace hi:(((W2.setCell ⟨w.heap.size + 1 + 1,6,none⟩ (F1 wd)).setCell ⟨w.heap.size + 1 + 1,7,none⟩ (.int .i64 nx)).setCell ⟨w.heap.size + 1 + 1,8,none⟩ (.int .i64 ny)).heap[w.heap.size]? = some (.cells #[F1 a,F1 b,F1 c,F1 d,F1 e,F1 f,F1 wd,.int .i64 nx,.int .i64 ny] 74 (0,0)):=(set_oth (by omega) (set_oth (by omega) (set_oth (by omega) hi)))
 replace hr:(((W2.setCell ⟨w.heap.size + 1 + 1,6,none⟩ (F1 wd)).setCell ⟨w.heap.size + 1 + 1,7,none⟩ (.int .i64 nx)).setCell ⟨w.heap.size + 1 + 1,8,none⟩ (.int .i64 ny)).heap[w.heap.size + 1]? = some (.cells #[F1 0,F1 0,F1 0,F1 0,F1 0,F1 0,F1 0,.int .i64 0,.int .i64 0] 83 (0,0)):=(set_oth (by omega) (set_oth (by omega) (set_oth (by omega) hr)))
 have ho2_6:(W2.setCell ⟨w.heap.size + 1 + 1,6,none⟩ (F1 wd)).heap[w.heap.size + 1 + 1]? = some (.cells #[F1 a,F1 b,F1 c,F1 d,F1 e,F1 f,F1 wd,.int .i64 0,.int .i64 0] 83 (0,0)):=arr_set ho 6 (F1 wd)
 have ho2_7:((W2.setCell ⟨w.heap.size + 1 + 1,6,none⟩ (F1 wd)).setCell ⟨w.heap.size + 1 + 1,7,none⟩ (.int .i64 nx)).heap[w.heap.size + 1 + 1]? = some (.cells #[F1 a,F1 b,F1 c,F1 d,F1 e,F1 f,F1 wd,.int .i64 nx,.int .i64 0] 83 (0,0)):=arr_set ho2_6 7 (.int .i64 nx)
 have ho2_8:(((W2.setCell ⟨w.heap.size + 1 + 1,6,none⟩ (F1 wd)).setCell ⟨w.heap.size + 1 + 1,7,none⟩ (.int .i64 nx)).setCell ⟨w.heap.size + 1 + 1,8,none⟩ (.int .i64 ny)).heap[w.heap.size + 1 + 1]? = some (.cells #[F1 a,F1 b,F1 c,F1 d,F1 e,F1 f,F1 wd,.int .i64 nx,.int .i64 ny] 83 (0,0)):=arr_set ho2_7 8 (.int .i64 ny)
 replace ho:=ho2_8
 clear ho2_6 ho2_7 ho2_8
 replace Wb:Below w.heap.size w (((W2.setCell ⟨w.heap.size + 1 + 1,6,none⟩ (F1 wd)).setCell ⟨w.heap.size + 1 + 1,7,none⟩ (.int .i64 nx)).setCell ⟨w.heap.size + 1 + 1,8,none⟩ (.int .i64 ny)):=(((Wb.setCell (p:=⟨w.heap.size + 1 + 1,6,none⟩) (by show w.heap.size ≤ w.heap.size + 1 + 1;omega) (F1 wd)).setCell (p:=⟨w.heap.size + 1 + 1,7,none⟩) (by show w.heap.size ≤ w.heap.size + 1 + 1;omega) (.int .i64 nx)).setCell (p:=⟨w.heap.size + 1 + 1,8,none⟩) (by show w.heap.size ≤ w.heap.size + 1 + 1;omega) (.int .i64 ny))
 clear i2_6 i2_7 i2_8 o2_6 f2_6 o2_7 f2_7 o2_8 f2_8
 generalize ((W2.setCell ⟨w.heap.size + 1 + 1,6,none⟩ (F1 wd)).setCell ⟨w.heap.size + 1 + 1,7,none⟩ (.int .i64 nx)).setCell ⟨w.heap.size + 1 + 1,8,none⟩ (.int .i64 ny) = W3 at *
 have o_0:W3.cell? ⟨w.heap.size + 1 + 1,0,none⟩ = some (F1 a):=(arr_cell ho 0).trans rfl
 have r_0:W3.cell? ⟨w.heap.size + 1,0,none⟩ = some (F1 0):=(arr_cell hr 0).trans rfl
 have f_0:W3.frozen? ⟨w.heap.size + 1,0,none⟩ = false:=arr_frozen hr 0
 have o_1:W3.cell? ⟨w.heap.size + 1 + 1,1,none⟩ = some (F1 b):=(arr_cell ho 1).trans rfl
 have r_1:W3.cell? ⟨w.heap.size + 1,1,none⟩ = some (F1 0):=(arr_cell hr 1).trans rfl
 have f_1:W3.frozen? ⟨w.heap.size + 1,1,none⟩ = false:=arr_frozen hr 1
 have o_2:W3.cell? ⟨w.heap.size + 1 + 1,2,none⟩ = some (F1 c):=(arr_cell ho 2).trans rfl
 have r_2:W3.cell? ⟨w.heap.size + 1,2,none⟩ = some (F1 0):=(arr_cell hr 2).trans rfl
 have f_2:W3.frozen? ⟨w.heap.size + 1,2,none⟩ = false:=arr_frozen hr 2
 have o_3:W3.cell? ⟨w.heap.size + 1 + 1,3,none⟩ = some (F1 d):=(arr_cell ho 3).trans rfl
 have r_3:W3.cell? ⟨w.heap.size + 1,3,none⟩ = some (F1 0):=(arr_cell hr 3).trans rfl
 have f_3:W3.frozen? ⟨w.heap.size + 1,3,none⟩ = false:=arr_frozen hr 3
 have o_4:W3.cell? ⟨w.heap.size + 1 + 1,4,none⟩ = some (F1 e):=(arr_cell ho 4).trans rfl
 have r_4:W3.cell? ⟨w.heap.size + 1,4,none⟩ = some (F1 0):=(arr_cell hr 4).trans rfl
 have f_4:W3.frozen? ⟨w.heap.size + 1,4,none⟩ = false:=arr_frozen hr 4
 have o_5:W3.cell? ⟨w.heap.size + 1 + 1,5,none⟩ = some (F1 f):=(arr_cell ho 5).trans rfl
 have r_5:W3.cell? ⟨w.heap.size + 1,5,none⟩ = some (F1 0):=(arr_cell hr 5).trans rfl
 have f_5:W3.frozen? ⟨w.heap.size + 1,5,none⟩ = false:=arr_frozen hr 5
 have o_6:W3.cell? ⟨w.heap.size + 1 + 1,6,none⟩ = some (F1 wd):=(arr_cell ho 6).trans rfl
 have r_6:W3.cell? ⟨w.heap.size + 1,6,none⟩ = some (F1 0):=(arr_cell hr 6).trans rfl
 have f_6:W3.frozen? ⟨w.heap.size + 1,6,none⟩ = false:=arr_frozen hr 6
 have o_7:W3.cell? ⟨w.heap.size + 1 + 1,7,none⟩ = some (.int .i64 nx):=(arr_cell ho 7).trans rfl
 have r_7:W3.cell? ⟨w.heap.size + 1,7,none⟩ = some (.int .i64 0):=(arr_cell hr 7).trans rfl
 have f_7:W3.frozen? ⟨w.heap.size + 1,7,none⟩ = false:=arr_frozen hr 7
 have o_8:W3.cell? ⟨w.heap.size + 1 + 1,8,none⟩ = some (.int .i64 ny):=(arr_cell ho 8).trans rfl
 have r_8:W3.cell? ⟨w.heap.size + 1,8,none⟩ = some (.int .i64 0):=(arr_cell hr 8).trans rfl
 have f_8:W3.frozen? ⟨w.heap.size + 1,8,none⟩ = false:=arr_frozen hr 8
 have hrH:=Lib.hid hr
 clear hi hr ho
 go_wp2_with fail
 have hf0:(W3.setCell ⟨w.heap.size + 1,0,none⟩ (F1 a)).heap[w.heap.size + 1]? = some (.cells #[F1 a,F1 0,F1 0,F1 0,F1 0,F1 0,F1 0,.int .i64 0,.int .i64 0] 83 (0,0)):=arr_set hrH.out 0 (F1 a)
 have hf1:((W3.setCell ⟨w.heap.size + 1,0,none⟩ (F1 a)).setCell ⟨w.heap.size + 1,1,none⟩ (F1 b)).heap[w.heap.size + 1]? = some (.cells #[F1 a,F1 b,F1 0,F1 0,F1 0,F1 0,F1 0,.int .i64 0,.int .i64 0] 83 (0,0)):=arr_set hf0 1 (F1 b)
 have hf2:(((W3.setCell ⟨w.heap.size + 1,0,none⟩ (F1 a)).setCell ⟨w.heap.size + 1,1,none⟩ (F1 b)).setCell ⟨w.heap.size + 1,2,none⟩ (F1 c)).heap[w.heap.size + 1]? = some (.cells #[F1 a,F1 b,F1 c,F1 0,F1 0,F1 0,F1 0,.int .i64 0,.int .i64 0] 83 (0,0)):=arr_set hf1 2 (F1 c)
 have hf3:((((W3.setCell ⟨w.heap.size + 1,0,none⟩ (F1 a)).setCell ⟨w.heap.size + 1,1,none⟩ (F1 b)).setCell ⟨w.heap.size + 1,2,none⟩ (F1 c)).setCell ⟨w.heap.size + 1,3,none⟩ (F1 d)).heap[w.heap.size + 1]? = some (.cells #[F1 a,F1 b,F1 c,F1 d,F1 0,F1 0,F1 0,.int .i64 0,.int .i64 0] 83 (0,0)):=arr_set hf2 3 (F1 d)
 have hf4:(((((W3.setCell ⟨w.heap.size + 1,0,none⟩ (F1 a)).setCell ⟨w.heap.size + 1,1,none⟩ (F1 b)).setCell ⟨w.heap.size + 1,2,none⟩ (F1 c)).setCell ⟨w.heap.size + 1,3,none⟩ (F1 d)).setCell ⟨w.heap.size + 1,4,none⟩ (F1 e)).heap[w.heap.size + 1]? = some (.cells #[F1 a,F1 b,F1 c,F1 d,F1 e,F1 0,F1 0,.int .i64 0,.int .i64 0] 83 (0,0)):=arr_set hf3 4 (F1 e)
 have hf5:((((((W3.setCell ⟨w.heap.size + 1,0,none⟩ (F1 a)).setCell ⟨w.heap.size + 1,1,none⟩ (F1 b)).setCell ⟨w.heap.size + 1,2,none⟩ (F1 c)).setCell ⟨w.heap.size + 1,3,none⟩ (F1 d)).setCell ⟨w.heap.size + 1,4,none⟩ (F1 e)).setCell ⟨w.heap.size + 1,5,none⟩ (F1 f)).heap[w.heap.size + 1]? = some (.cells #[F1 a,F1 b,F1 c,F1 d,F1 e,F1 f,F1 0,.int .i64 0,.int .i64 0] 83 (0,0)):=arr_set hf4 5 (F1 f)
 have hf6:(((((((W3.setCell ⟨w.heap.size + 1,0,none⟩ (F1 a)).setCell ⟨w.heap.size + 1,1,none⟩ (F1 b)).setCell ⟨w.heap.size + 1,2,none⟩ (F1 c)).setCell ⟨w.heap.size + 1,3,none⟩ (F1 d)).setCell ⟨w.heap.size + 1,4,none⟩ (F1 e)).setCell ⟨w.heap.size + 1,5,none⟩ (F1 f)).setCell ⟨w.heap.size + 1,6,none⟩ (F1 wd)).heap[w.heap.size + 1]? = some (.cells #[F1 a,F1 b,F1 c,F1 d,F1 e,F1 f,F1 wd,.int .i64 0,.int .i64 0] 83 (0,0)):=arr_set hf5 6 (F1 wd)
 have hf7:((((((((W3.setCell ⟨w.heap.size + 1,0,none⟩ (F1 a)).setCell ⟨w.heap.size + 1,1,none⟩ (F1 b)).setCell ⟨w.heap.size + 1,2,none⟩ (F1 c)).setCell ⟨w.heap.size + 1,3,none⟩ (F1 d)).setCell ⟨w.heap.size + 1,4,none⟩ (F1 e)).setCell ⟨w.heap.size + 1,5,none⟩ (F1 f)).setCell ⟨w.heap.size + 1,6,none⟩ (F1 wd)).setCell ⟨w.heap.size + 1,7,none⟩ (.int .i64 nx)).heap[w.heap.size + 1]? = some (.cells #[F1 a,F1 b,F1 c,F1 d,F1 e,F1 f,F1 wd,.int .i64 nx,.int .i64 0] 83 (0,0)):=arr_set hf6 7 (.int .i64 nx)
 have hf8:(((((((((W3.setCell ⟨w.heap.size + 1,0,none⟩ (F1 a)).setCell ⟨w.heap.size + 1,1,none⟩ (F1 b)).setCell ⟨w.heap.size + 1,2,none⟩ (F1 c)).setCell ⟨w.heap.size + 1,3,none⟩ (F1 d)).setCell ⟨w.heap.size + 1,4,none⟩ (F1 e)).setCell ⟨w.heap.size + 1,5,none⟩ (F1 f)).setCell ⟨w.heap.size + 1,6,none⟩ (F1 wd)).setCell ⟨w.heap.size + 1,7,none⟩ (.int .i64 nx)).setCell ⟨w.heap.size + 1,8,none⟩ (.int .i64 ny)).heap[w.heap.size + 1]? = some (.cells #[F1 a,F1 b,F1 c,F1 d,F1 e,F1 f,F1 wd,.int .i64 nx,.int .i64 ny] 83 (0,0)):=arr_set hf7 8 (.int .i64 ny)
 have hf:=hf8
 clear hf0 hf1 hf2 hf3 hf4 hf5 hf6 hf7 hf8
 have Wf:Below w.heap.size w (((((((((W3.setCell ⟨w.heap.size + 1,0,none⟩ (F1 a)).setCell ⟨w.heap.size + 1,1,none⟩ (F1 b)).setCell ⟨w.heap.size + 1,2,none⟩ (F1 c)).setCell ⟨w.heap.size + 1,3,none⟩ (F1 d)).setCell ⟨w.heap.size + 1,4,none⟩ (F1 e)).setCell ⟨w.heap.size + 1,5,none⟩ (F1 f)).setCell ⟨w.heap.size + 1,6,none⟩ (F1 wd)).setCell ⟨w.heap.size + 1,7,none⟩ (.int .i64 nx)).setCell ⟨w.heap.size + 1,8,none⟩ (.int .i64 ny)):=(((((((((Wb.setCell (p:=⟨w.heap.size + 1,0,none⟩) (by show w.heap.size ≤ w.heap.size + 1;omega) (F1 a)).setCell (p:=⟨w.heap.size + 1,1,none⟩) (by show w.heap.size ≤ w.heap.size + 1;omega) (F1 b)).setCell (p:=⟨w.heap.size + 1,2,none⟩) (by show w.heap.size ≤ w.heap.size + 1;omega) (F1 c)).setCell (p:=⟨w.heap.size + 1,3,none⟩) (by show w.heap.size ≤ w.heap.size + 1;omega) (F1 d)).setCell (p:=⟨w.heap.size + 1,4,none⟩) (by show w.heap.size ≤ w.heap.size + 1;omega) (F1 e)).setCell (p:=⟨w.heap.size + 1,5,none⟩) (by show w.heap.size ≤ w.heap.size + 1;omega) (F1 f)).setCell (p:=⟨w.heap.size + 1,6,none⟩) (by show w.heap.size ≤ w.heap.size + 1;omega) (F1 wd)).setCell (p:=⟨w.heap.size + 1,7,none⟩) (by show w.heap.size ≤ w.heap.size + 1;omega) (.int .i64 nx)).setCell (p:=⟨w.heap.size + 1,8,none⟩) (by show w.heap.size ≤ w.heap.size + 1;omega) (.int .i64 ny))
 clear o_0 r_0 f_0 o_1 r_1 f_1 o_2 r_2 f_2 o_3 r_3 f_3 o_4 r_4 f_4 o_5 r_5 f_5 o_6 r_6 f_6 o_7 r_7 f_7 o_8 r_8 f_8 hrH
 generalize ((((((((W3.setCell ⟨w.heap.size + 1,0,none⟩ (F1 a)).setCell ⟨w.heap.size + 1,1,none⟩ (F1 b)).setCell ⟨w.heap.size + 1,2,none⟩ (F1 c)).setCell ⟨w.heap.size + 1,3,none⟩ (F1 d)).setCell ⟨w.heap.size + 1,4,none⟩ (F1 e)).setCell ⟨w.heap.size + 1,5,none⟩ (F1 f)).setCell ⟨w.heap.size + 1,6,none⟩ (F1 wd)).setCell ⟨w.heap.size + 1,7,none⟩ (.int .i64 nx)).setCell ⟨w.heap.size + 1,8,none⟩ (.int .i64 ny) = WF at *
 have q_0:WF.cell? ⟨w.heap.size + 1,0,none⟩ = some (F1 a):=(arr_cell hf 0).trans rfl
 have q_1:WF.cell? ⟨w.heap.size + 1,1,none⟩ = some (F1 b):=(arr_cell hf 1).trans rfl
 have q_2:WF.cell? ⟨w.heap.size + 1,2,none⟩ = some (F1 c):=(arr_cell hf 2).trans rfl
 have q_3:WF.cell? ⟨w.heap.size + 1,3,none⟩ = some (F1 d):=(arr_cell hf 3).trans rfl
 have q_4:WF.cell? ⟨w.heap.size + 1,4,none⟩ = some (F1 e):=(arr_cell hf 4).trans rfl
 have q_5:WF.cell? ⟨w.heap.size + 1,5,none⟩ = some (F1 f):=(arr_cell hf 5).trans rfl
 have q_6:WF.cell? ⟨w.heap.size + 1,6,none⟩ = some (F1 wd):=(arr_cell hf 6).trans rfl
 have q_7:WF.cell? ⟨w.heap.size + 1,7,none⟩ = some (.int .i64 nx):=(arr_cell hf 7).trans rfl
 have q_8:WF.cell? ⟨w.heap.size + 1,8,none⟩ = some (.int .i64 ny):=(arr_cell hf 8).trans rfl
 exact bodyPost_ret (v:=.agg #[F1 a,F1 b,F1 c,F1 d,F1 e,F1 f,F1 wd,.int .i64 nx,.int .i64 ny]) (by simp [results,Tryz.results101,go_sem,q_0,q_1,q_2,q_3,q_4,q_5,q_6,q_7,q_8]) rfl ⟨rfl,Wf⟩

/-- A view of its own comes back. -/
def RetVw (ns:List PN) (a b c d e f wd:Nat) (nx ny:Int) (lx ly lz near most:Nat) (n:Int) (w:World) (e':Ending) (w':World):Prop :=
 ∃ G,e' = .returned (.agg #[.slice (some ⟨G,0,none⟩) ns.length ns.length,F1 a,F1 b,F1 c,F1 d,F1 e,F1 f,F1 wd,.int .i64 nx,.int .i64 ny,F1 lx,F1 ly,F1 lz,F1 near,F1 most,.int .i64 n]) ∧ (∀ i (h:i < ns.length),NodeNew ns[i] G (0 + i * 4) w') ∧ w.heap.size ≤ G ∧ Below w.heap.size w w'

set_option maxRecDepth 100000 in
set_option maxHeartbeats 8000000 in
theorem to_view (ns:List PN) (bp:Option Addr) (cap a b c d e f wd:Nat) (nx ny:Int) (lx ly lz near most:Nat) (n:Int) (w:World) (hto:∀ w',Below w.heap.size w w' → Calls Tryz.prog 15 #[.agg #[.slice bp ns.length cap]] w' (RetSh ns w')) :
  Calls Tryz.prog 45 #[.agg #[.slice bp ns.length cap,F1 a,F1 b,F1 c,F1 d,F1 e,F1 f,F1 wd,.int .i64 nx,.int .i64 ny,F1 lx,F1 ly,F1 lz,F1 near,F1 most,.int .i64 n]] w (RetVw ns a b c d e f wd nx ny lx ly lz near most n w):=by
 go_enter Tryz.func45,Tryz.ntmps45
 go_upto_region 2 with fail
 obtain ⟨hi,hr,ho⟩:=alloc3_heap w (.cells #[.slice bp ns.length cap,F1 a,F1 b,F1 c,F1 d,F1 e,F1 f,F1 wd,.int .i64 nx,.int .i64 ny,F1 lx,F1 ly,F1 lz,F1 near,F1 most,.int .i64 n] 78) (.cells #[.slice none 0 0,F1 0,F1 0,F1 0,F1 0,F1 0,F1 0,F1 0,.int .i64 0,.int .i64 0,F1 0,F1 0,F1 0,F1 0,F1 0,.int .i64 0] 86) (.cells #[.slice none 0 0,F1 0,F1 0,F1 0,F1 0,F1 0,F1 0,F1 0,.int .i64 0,.int .i64 0,F1 0,F1 0,F1 0,F1 0,F1 0,.int .i64 0] 86)
 have Wb:Below w.heap.size w (((w.alloc (.cells #[.slice bp ns.length cap,F1 a,F1 b,F1 c,F1 d,F1 e,F1 f,F1 wd,.int .i64 nx,.int .i64 ny,F1 lx,F1 ly,F1 lz,F1 near,F1 most,.int .i64 n] 78)).alloc (.cells #[.slice none 0 0,F1 0,F1 0,F1 0,F1 0,F1 0,F1 0,F1 0,.int .i64 0,.int .i64 0,F1 0,F1 0,F1 0,F1 0,F1 0,.int .i64 0] 86)).alloc (.cells #[.slice none 0 0,F1 0,F1 0,F1 0,F1 0,F1 0,F1 0,F1 0,.int .i64 0,.int .i64 0,F1 0,F1 0,F1 0,F1 0,F1 0,.int .i64 0] 86)):=alloc3_below w _ _ _
 generalize ((w.alloc (.cells #[.slice bp ns.length cap,F1 a,F1 b,F1 c,F1 d,F1 e,F1 f,F1 wd,.int .i64 nx,.int .i64 ny,F1 lx,F1 ly,F1 lz,F1 near,F1 most,.int .i64 n] 78)).alloc (.cells #[.slice none 0 0,F1 0,F1 0,F1 0,F1 0,F1 0,F1 0,F1 0,.int .i64 0,.int .i64 0,F1 0,F1 0,F1 0,F1 0,F1 0,.int .i64 0] 86)).alloc (.cells #[.slice none 0 0,F1 0,F1 0,F1 0,F1 0,F1 0,F1 0,F1 0,.int .i64 0,.int .i64 0,F1 0,F1 0,F1 0,F1 0,F1 0,.int .i64 0] 86) = W0 at *
 have hlt0:w.heap.size + 1 + 1 < W0.heap.size:=(Array.getElem?_eq_some_iff.1 ho).1
 have i0_0:W0.cell? ⟨w.heap.size,0,none⟩ = some (.slice bp ns.length cap):=(arr_cell hi 0).trans rfl
 have o0_0:W0.cell? ⟨w.heap.size + 1 + 1,0,none⟩ = some (.slice none 0 0):=(arr_cell ho 0).trans rfl
 have f0_0:W0.frozen? ⟨w.heap.size + 1 + 1,0,none⟩ = false:=arr_frozen ho 0
 go_upto_region 3 with ((go_at_call 15;refine (hto _ Wb).mono ?_;rintro _ V0 ⟨G,rfl,hnew,hG,hb1⟩);have HL:=lift hb1;have HF:=liftF hb1)
 replace hi:V0.heap[w.heap.size]? = _:=(hb1.block _ (by omega)).trans hi
 replace hr:V0.heap[w.heap.size + 1]? = _:=(hb1.block _ (by omega)).trans hr
 replace ho:V0.heap[w.heap.size + 1 + 1]? = _:=(hb1.block _ (by omega)).trans ho
 replace Wb:=below_step Wb hb1
 clear HL HF
 have hF:=Far.refl G V0
 replace hi:(V0.setCell ⟨w.heap.size + 1 + 1,0,none⟩ (.slice (some ⟨G,0,none⟩) ns.length ns.length)).heap[w.heap.size]? = some (.cells #[.slice bp ns.length cap,F1 a,F1 b,F1 c,F1 d,F1 e,F1 f,F1 wd,.int .i64 nx,.int .i64 ny,F1 lx,F1 ly,F1 lz,F1 near,F1 most,.int .i64 n] 78 (0,0)):=(set_oth (by omega) hi)
 replace hr:(V0.setCell ⟨w.heap.size + 1 + 1,0,none⟩ (.slice (some ⟨G,0,none⟩) ns.length ns.length)).heap[w.heap.size + 1]? = some (.cells #[.slice none 0 0,F1 0,F1 0,F1 0,F1 0,F1 0,F1 0,F1 0,.int .i64 0,.int .i64 0,F1 0,F1 0,F1 0,F1 0,F1 0,.int .i64 0] 86 (0,0)):=(set_oth (by omega) hr)
 have ho0_0:(V0.setCell ⟨w.heap.size + 1 + 1,0,none⟩ (.slice (some ⟨G,0,none⟩) ns.length ns.length)).heap[w.heap.size + 1 + 1]? = some (.cells #[.slice (some ⟨G,0,none⟩) ns.length ns.length,F1 0,F1 0,F1 0,F1 0,F1 0,F1 0,F1 0,.int .i64 0,.int .i64 0,F1 0,F1 0,F1 0,F1 0,F1 0,.int .i64 0] 86 (0,0)):=arr_set ho 0 (.slice (some ⟨G,0,none⟩) ns.length ns.length)
 replace ho:=ho0_0
 clear ho0_0
 replace Wb:Below w.heap.size w (V0.setCell ⟨w.heap.size + 1 + 1,0,none⟩ (.slice (some ⟨G,0,none⟩) ns.length ns.length)):=(Wb.setCell (p:=⟨w.heap.size + 1 + 1,0,none⟩) (by show w.heap.size ≤ w.heap.size + 1 + 1;omega) (.slice (some ⟨G,0,none⟩) ns.length ns.length))
 replace hF:Far G V0 (V0.setCell ⟨w.heap.size + 1 + 1,0,none⟩ (.slice (some ⟨G,0,none⟩) ns.length ns.length)):=(hF.set (show w.heap.size + 1 + 1 < G by omega) 0 (.slice (some ⟨G,0,none⟩) ns.length ns.length))
 clear i0_0 o0_0 f0_0 hb1
 generalize V0.setCell ⟨w.heap.size + 1 + 1,0,none⟩ (.slice (some ⟨G,0,none⟩) ns.length ns.length) = W1 at *
 have hlt1:w.heap.size + 1 + 1 < W1.heap.size:=(Array.getElem?_eq_some_iff.1 ho).1
 have i1_1:W1.cell? ⟨w.heap.size,1,none⟩ = some (F1 a):=(arr_cell hi 1).trans rfl
 have i1_2:W1.cell? ⟨w.heap.size,2,none⟩ = some (F1 b):=(arr_cell hi 2).trans rfl
 have i1_3:W1.cell? ⟨w.heap.size,3,none⟩ = some (F1 c):=(arr_cell hi 3).trans rfl
 have i1_4:W1.cell? ⟨w.heap.size,4,none⟩ = some (F1 d):=(arr_cell hi 4).trans rfl
 have i1_5:W1.cell? ⟨w.heap.size,5,none⟩ = some (F1 e):=(arr_cell hi 5).trans rfl
 have i1_6:W1.cell? ⟨w.heap.size,6,none⟩ = some (F1 f):=(arr_cell hi 6).trans rfl
 have i1_7:W1.cell? ⟨w.heap.size,7,none⟩ = some (F1 wd):=(arr_cell hi 7).trans rfl
 have i1_8:W1.cell? ⟨w.heap.size,8,none⟩ = some (.int .i64 nx):=(arr_cell hi 8).trans rfl
 have i1_9:W1.cell? ⟨w.heap.size,9,none⟩ = some (.int .i64 ny):=(arr_cell hi 9).trans rfl
 have o1_1:W1.cell? ⟨w.heap.size + 1 + 1,1,none⟩ = some (F1 0):=(arr_cell ho 1).trans rfl
 have f1_1:W1.frozen? ⟨w.heap.size + 1 + 1,1,none⟩ = false:=arr_frozen ho 1
 have o1_2:W1.cell? ⟨w.heap.size + 1 + 1,2,none⟩ = some (F1 0):=(arr_cell ho 2).trans rfl
 have f1_2:W1.frozen? ⟨w.heap.size + 1 + 1,2,none⟩ = false:=arr_frozen ho 2
 have o1_3:W1.cell? ⟨w.heap.size + 1 + 1,3,none⟩ = some (F1 0):=(arr_cell ho 3).trans rfl
 have f1_3:W1.frozen? ⟨w.heap.size + 1 + 1,3,none⟩ = false:=arr_frozen ho 3
 have o1_4:W1.cell? ⟨w.heap.size + 1 + 1,4,none⟩ = some (F1 0):=(arr_cell ho 4).trans rfl
 have f1_4:W1.frozen? ⟨w.heap.size + 1 + 1,4,none⟩ = false:=arr_frozen ho 4
 have o1_5:W1.cell? ⟨w.heap.size + 1 + 1,5,none⟩ = some (F1 0):=(arr_cell ho 5).trans rfl
 have f1_5:W1.frozen? ⟨w.heap.size + 1 + 1,5,none⟩ = false:=arr_frozen ho 5
 have o1_6:W1.cell? ⟨w.heap.size + 1 + 1,6,none⟩ = some (F1 0):=(arr_cell ho 6).trans rfl
 have f1_6:W1.frozen? ⟨w.heap.size + 1 + 1,6,none⟩ = false:=arr_frozen ho 6
 have o1_7:W1.cell? ⟨w.heap.size + 1 + 1,7,none⟩ = some (F1 0):=(arr_cell ho 7).trans rfl
 have f1_7:W1.frozen? ⟨w.heap.size + 1 + 1,7,none⟩ = false:=arr_frozen ho 7
 have o1_8:W1.cell? ⟨w.heap.size + 1 + 1,8,none⟩ = some (.int .i64 0):=(arr_cell ho 8).trans rfl
 have f1_8:W1.frozen? ⟨w.heap.size + 1 + 1,8,none⟩ = false:=arr_frozen ho 8
 have o1_9:W1.cell? ⟨w.heap.size + 1 + 1,9,none⟩ = some (.int .i64 0):=(arr_cell ho 9).trans rfl
 have f1_9:W1.frozen? ⟨w.heap.size + 1 + 1,9,none⟩ = false:=arr_frozen ho 9
 go_upto_region 4 with ((go_at_call 101;refine (to_camera _ _ _ _ _ _ _ _ _ _).mono ?_;rintro _ V1 ⟨rfl,hb1⟩);have HL:=lift hb1;have HF:=liftF hb1)
 replace hi:V1.heap[w.heap.size]? = _:=(hb1.block _ (by omega)).trans hi
 replace hr:V1.heap[w.heap.size + 1]? = _:=(hb1.block _ (by omega)).trans hr
 replace ho:V1.heap[w.heap.size + 1 + 1]? = _:=(hb1.block _ (by omega)).trans ho
 replace Wb:=below_step Wb hb1
 clear HL HF
 replace hF:=hF.below hb1
 replace hi:(((((((((V1.setCell ⟨w.heap.size + 1 + 1,1,none⟩ (F1 a)).setCell ⟨w.heap.size + 1 + 1,2,none⟩ (F1 b)).setCell ⟨w.heap.size + 1 + 1,3,none⟩ (F1 c)).setCell ⟨w.heap.size + 1 + 1,4,none⟩ (F1 d)).setCell ⟨w.heap.size + 1 + 1,5,none⟩ (F1 e)).setCell ⟨w.heap.size + 1 + 1,6,none⟩ (F1 f)).setCell ⟨w.heap.size + 1 + 1,7,none⟩ (F1 wd)).setCell ⟨w.heap.size + 1 + 1,8,none⟩ (.int .i64 nx)).setCell ⟨w.heap.size + 1 + 1,9,none⟩ (.int .i64 ny)).heap[w.heap.size]? = some (.cells #[.slice bp ns.length cap,F1 a,F1 b,F1 c,F1 d,F1 e,F1 f,F1 wd,.int .i64 nx,.int .i64 ny,F1 lx,F1 ly,F1 lz,F1 near,F1 most,.int .i64 n] 78 (0,0)):=(set_oth (by omega) (set_oth (by omega) (set_oth (by omega) (set_oth (by omega) (set_oth (by omega) (set_oth (by omega) (set_oth (by omega) (set_oth (by omega) (set_oth (by omega) hi)))))))))
 replace hr:(((((((((V1.setCell ⟨w.heap.size + 1 + 1,1,none⟩ (F1 a)).setCell ⟨w.heap.size + 1 + 1,2,none⟩ (F1 b)).setCell ⟨w.heap.size + 1 + 1,3,none⟩ (F1 c)).setCell ⟨w.heap.size + 1 + 1,4,none⟩ (F1 d)).setCell ⟨w.heap.size + 1 + 1,5,none⟩ (F1 e)).setCell ⟨w.heap.size + 1 + 1,6,none⟩ (F1 f)).setCell ⟨w.heap.size + 1 + 1,7,none⟩ (F1 wd)).setCell ⟨w.heap.size + 1 + 1,8,none⟩ (.int .i64 nx)).setCell ⟨w.heap.size + 1 + 1,9,none⟩ (.int .i64 ny)).heap[w.heap.size + 1]? = some (.cells #[.slice none 0 0,F1 0,F1 0,F1 0,F1 0,F1 0,F1 0,F1 0,.int .i64 0,.int .i64 0,F1 0,F1 0,F1 0,F1 0,F1 0,.int .i64 0] 86 (0,0)):=(set_oth (by omega) (set_oth (by omega) (set_oth (by omega) (set_oth (by omega) (set_oth (by omega) (set_oth (by omega) (set_oth (by omega) (set_oth (by omega) (set_oth (by omega) hr)))))))))
 have ho1_1:(V1.setCell ⟨w.heap.size + 1 + 1,1,none⟩ (F1 a)).heap[w.heap.size + 1 + 1]? = some (.cells #[.slice (some ⟨G,0,none⟩) ns.length ns.length,F1 a,F1 0,F1 0,F1 0,F1 0,F1 0,F1 0,.int .i64 0,.int .i64 0,F1 0,F1 0,F1 0,F1 0,F1 0,.int .i64 0] 86 (0,0)):=arr_set ho 1 (F1 a)
 have ho1_2:((V1.setCell ⟨w.heap.size + 1 + 1,1,none⟩ (F1 a)).setCell ⟨w.heap.size + 1 + 1,2,none⟩ (F1 b)).heap[w.heap.size + 1 + 1]? = some (.cells #[.slice (some ⟨G,0,none⟩) ns.length ns.length,F1 a,F1 b,F1 0,F1 0,F1 0,F1 0,F1 0,.int .i64 0,.int .i64 0,F1 0,F1 0,F1 0,F1 0,F1 0,.int .i64 0] 86 (0,0)):=arr_set ho1_1 2 (F1 b)
 have ho1_3:(((V1.setCell ⟨w.heap.size + 1 + 1,1,none⟩ (F1 a)).setCell ⟨w.heap.size + 1 + 1,2,none⟩ (F1 b)).setCell ⟨w.heap.size + 1 + 1,3,none⟩ (F1 c)).heap[w.heap.size + 1 + 1]? = some (.cells #[.slice (some ⟨G,0,none⟩) ns.length ns.length,F1 a,F1 b,F1 c,F1 0,F1 0,F1 0,F1 0,.int .i64 0,.int .i64 0,F1 0,F1 0,F1 0,F1 0,F1 0,.int .i64 0] 86 (0,0)):=arr_set ho1_2 3 (F1 c)
 have ho1_4:((((V1.setCell ⟨w.heap.size + 1 + 1,1,none⟩ (F1 a)).setCell ⟨w.heap.size + 1 + 1,2,none⟩ (F1 b)).setCell ⟨w.heap.size + 1 + 1,3,none⟩ (F1 c)).setCell ⟨w.heap.size + 1 + 1,4,none⟩ (F1 d)).heap[w.heap.size + 1 + 1]? = some (.cells #[.slice (some ⟨G,0,none⟩) ns.length ns.length,F1 a,F1 b,F1 c,F1 d,F1 0,F1 0,F1 0,.int .i64 0,.int .i64 0,F1 0,F1 0,F1 0,F1 0,F1 0,.int .i64 0] 86 (0,0)):=arr_set ho1_3 4 (F1 d)
 have ho1_5:(((((V1.setCell ⟨w.heap.size + 1 + 1,1,none⟩ (F1 a)).setCell ⟨w.heap.size + 1 + 1,2,none⟩ (F1 b)).setCell ⟨w.heap.size + 1 + 1,3,none⟩ (F1 c)).setCell ⟨w.heap.size + 1 + 1,4,none⟩ (F1 d)).setCell ⟨w.heap.size + 1 + 1,5,none⟩ (F1 e)).heap[w.heap.size + 1 + 1]? = some (.cells #[.slice (some ⟨G,0,none⟩) ns.length ns.length,F1 a,F1 b,F1 c,F1 d,F1 e,F1 0,F1 0,.int .i64 0,.int .i64 0,F1 0,F1 0,F1 0,F1 0,F1 0,.int .i64 0] 86 (0,0)):=arr_set ho1_4 5 (F1 e)
 have ho1_6:((((((V1.setCell ⟨w.heap.size + 1 + 1,1,none⟩ (F1 a)).setCell ⟨w.heap.size + 1 + 1,2,none⟩ (F1 b)).setCell ⟨w.heap.size + 1 + 1,3,none⟩ (F1 c)).setCell ⟨w.heap.size + 1 + 1,4,none⟩ (F1 d)).setCell ⟨w.heap.size + 1 + 1,5,none⟩ (F1 e)).setCell ⟨w.heap.size + 1 + 1,6,none⟩ (F1 f)).heap[w.heap.size + 1 + 1]? = some (.cells #[.slice (some ⟨G,0,none⟩) ns.length ns.length,F1 a,F1 b,F1 c,F1 d,F1 e,F1 f,F1 0,.int .i64 0,.int .i64 0,F1 0,F1 0,F1 0,F1 0,F1 0,.int .i64 0] 86 (0,0)):=arr_set ho1_5 6 (F1 f)
 have ho1_7:(((((((V1.setCell ⟨w.heap.size + 1 + 1,1,none⟩ (F1 a)).setCell ⟨w.heap.size + 1 + 1,2,none⟩ (F1 b)).setCell ⟨w.heap.size + 1 + 1,3,none⟩ (F1 c)).setCell ⟨w.heap.size + 1 + 1,4,none⟩ (F1 d)).setCell ⟨w.heap.size + 1 + 1,5,none⟩ (F1 e)).setCell ⟨w.heap.size + 1 + 1,6,none⟩ (F1 f)).setCell ⟨w.heap.size + 1 + 1,7,none⟩ (F1 wd)).heap[w.heap.size + 1 + 1]? = some (.cells #[.slice (some ⟨G,0,none⟩) ns.length ns.length,F1 a,F1 b,F1 c,F1 d,F1 e,F1 f,F1 wd,.int .i64 0,.int .i64 0,F1 0,F1 0,F1 0,F1 0,F1 0,.int .i64 0] 86 (0,0)):=arr_set ho1_6 7 (F1 wd)
 have ho1_8:((((((((V1.setCell ⟨w.heap.size + 1 + 1,1,none⟩ (F1 a)).setCell ⟨w.heap.size + 1 + 1,2,none⟩ (F1 b)).setCell ⟨w.heap.size + 1 + 1,3,none⟩ (F1 c)).setCell ⟨w.heap.size + 1 + 1,4,none⟩ (F1 d)).setCell ⟨w.heap.size + 1 + 1,5,none⟩ (F1 e)).setCell ⟨w.heap.size + 1 + 1,6,none⟩ (F1 f)).setCell ⟨w.heap.size + 1 + 1,7,none⟩ (F1 wd)).setCell ⟨w.heap.size + 1 + 1,8,none⟩ (.int .i64 nx)).heap[w.heap.size + 1 + 1]? = some (.cells #[.slice (some ⟨G,0,none⟩) ns.length ns.length,F1 a,F1 b,F1 c,F1 d,F1 e,F1 f,F1 wd,.int .i64 nx,.int .i64 0,F1 0,F1 0,F1 0,F1 0,F1 0,.int .i64 0] 86 (0,0)):=arr_set ho1_7 8 (.int .i64 nx)
 have ho1_9:(((((((((V1.setCell ⟨w.heap.size + 1 + 1,1,none⟩ (F1 a)).setCell ⟨w.heap.size + 1 + 1,2,none⟩ (F1 b)).setCell ⟨w.heap.size + 1 + 1,3,none⟩ (F1 c)).setCell ⟨w.heap.size + 1 + 1,4,none⟩ (F1 d)).setCell ⟨w.heap.size + 1 + 1,5,none⟩ (F1 e)).setCell ⟨w.heap.size + 1 + 1,6,none⟩ (F1 f)).setCell ⟨w.heap.size + 1 + 1,7,none⟩ (F1 wd)).setCell ⟨w.heap.size + 1 + 1,8,none⟩ (.int .i64 nx)).setCell ⟨w.heap.size + 1 + 1,9,none⟩ (.int .i64 ny)).heap[w.heap.size + 1 + 1]? = some (.cells #[.slice (some ⟨G,0,none⟩) ns.length ns.length,F1 a,F1 b,F1 c,F1 d,F1 e,F1 f,F1 wd,.int .i64 nx,.int .i64 ny,F1 0,F1 0,F1 0,F1 0,F1 0,.int .i64 0] 86 (0,0)):=arr_set ho1_8 9 (.int .i64 ny)
 replace ho:=ho1_9
 clear ho1_1 ho1_2 ho1_3 ho1_4 ho1_5 ho1_6 ho1_7 ho1_8 ho1_9
 replace Wb:Below w.heap.size w (((((((((V1.setCell ⟨w.heap.size + 1 + 1,1,none⟩ (F1 a)).setCell ⟨w.heap.size + 1 + 1,2,none⟩ (F1 b)).setCell ⟨w.heap.size + 1 + 1,3,none⟩ (F1 c)).setCell ⟨w.heap.size + 1 + 1,4,none⟩ (F1 d)).setCell ⟨w.heap.size + 1 + 1,5,none⟩ (F1 e)).setCell ⟨w.heap.size + 1 + 1,6,none⟩ (F1 f)).setCell ⟨w.heap.size + 1 + 1,7,none⟩ (F1 wd)).setCell ⟨w.heap.size + 1 + 1,8,none⟩ (.int .i64 nx)).setCell ⟨w.heap.size + 1 + 1,9,none⟩ (.int .i64 ny)):=(((((((((Wb.setCell (p:=⟨w.heap.size + 1 + 1,1,none⟩) (by show w.heap.size ≤ w.heap.size + 1 + 1;omega) (F1 a)).setCell (p:=⟨w.heap.size + 1 + 1,2,none⟩) (by show w.heap.size ≤ w.heap.size + 1 + 1;omega) (F1 b)).setCell (p:=⟨w.heap.size + 1 + 1,3,none⟩) (by show w.heap.size ≤ w.heap.size + 1 + 1;omega) (F1 c)).setCell (p:=⟨w.heap.size + 1 + 1,4,none⟩) (by show w.heap.size ≤ w.heap.size + 1 + 1;omega) (F1 d)).setCell (p:=⟨w.heap.size + 1 + 1,5,none⟩) (by show w.heap.size ≤ w.heap.size + 1 + 1;omega) (F1 e)).setCell (p:=⟨w.heap.size + 1 + 1,6,none⟩) (by show w.heap.size ≤ w.heap.size + 1 + 1;omega) (F1 f)).setCell (p:=⟨w.heap.size + 1 + 1,7,none⟩) (by show w.heap.size ≤ w.heap.size + 1 + 1;omega) (F1 wd)).setCell (p:=⟨w.heap.size + 1 + 1,8,none⟩) (by show w.heap.size ≤ w.heap.size + 1 + 1;omega) (.int .i64 nx)).setCell (p:=⟨w.heap.size + 1 + 1,9,none⟩) (by show w.heap.size ≤ w.heap.size + 1 + 1;omega) (.int .i64 ny))
 replace hF:Far G V0 (((((((((V1.setCell ⟨w.heap.size + 1 + 1,1,none⟩ (F1 a)).setCell ⟨w.heap.size + 1 + 1,2,none⟩ (F1 b)).setCell ⟨w.heap.size + 1 + 1,3,none⟩ (F1 c)).setCell ⟨w.heap.size + 1 + 1,4,none⟩ (F1 d)).setCell ⟨w.heap.size + 1 + 1,5,none⟩ (F1 e)).setCell ⟨w.heap.size + 1 + 1,6,none⟩ (F1 f)).setCell ⟨w.heap.size + 1 + 1,7,none⟩ (F1 wd)).setCell ⟨w.heap.size + 1 + 1,8,none⟩ (.int .i64 nx)).setCell ⟨w.heap.size + 1 + 1,9,none⟩ (.int .i64 ny)):=(((((((((hF.set (show w.heap.size + 1 + 1 < G by omega) 1 (F1 a)).set (show w.heap.size + 1 + 1 < G by omega) 2 (F1 b)).set (show w.heap.size + 1 + 1 < G by omega) 3 (F1 c)).set (show w.heap.size + 1 + 1 < G by omega) 4 (F1 d)).set (show w.heap.size + 1 + 1 < G by omega) 5 (F1 e)).set (show w.heap.size + 1 + 1 < G by omega) 6 (F1 f)).set (show w.heap.size + 1 + 1 < G by omega) 7 (F1 wd)).set (show w.heap.size + 1 + 1 < G by omega) 8 (.int .i64 nx)).set (show w.heap.size + 1 + 1 < G by omega) 9 (.int .i64 ny))
 clear i1_1 i1_2 i1_3 i1_4 i1_5 i1_6 i1_7 i1_8 i1_9 o1_1 f1_1 o1_2 f1_2 o1_3 f1_3 o1_4 f1_4 o1_5 f1_5 o1_6 f1_6 o1_7 f1_7 o1_8 f1_8 o1_9 f1_9 hb1
 generalize ((((((((V1.setCell ⟨w.heap.size + 1 + 1,1,none⟩ (F1 a)).setCell ⟨w.heap.size + 1 + 1,2,none⟩ (F1 b)).setCell ⟨w.heap.size + 1 + 1,3,none⟩ (F1 c)).setCell ⟨w.heap.size + 1 + 1,4,none⟩ (F1 d)).setCell ⟨w.heap.size + 1 + 1,5,none⟩ (F1 e)).setCell ⟨w.heap.size + 1 + 1,6,none⟩ (F1 f)).setCell ⟨w.heap.size + 1 + 1,7,none⟩ (F1 wd)).setCell ⟨w.heap.size + 1 + 1,8,none⟩ (.int .i64 nx)).setCell ⟨w.heap.size + 1 + 1,9,none⟩ (.int .i64 ny) = W2 at *
 have hlt2:w.heap.size + 1 + 1 < W2.heap.size:=(Array.getElem?_eq_some_iff.1 ho).1
 have i2_10:W2.cell? ⟨w.heap.size,10,none⟩ = some (F1 lx):=(arr_cell hi 10).trans rfl
 have i2_11:W2.cell? ⟨w.heap.size,11,none⟩ = some (F1 ly):=(arr_cell hi 11).trans rfl
 have i2_12:W2.cell? ⟨w.heap.size,12,none⟩ = some (F1 lz):=(arr_cell hi 12).trans rfl
 have o2_10:W2.cell? ⟨w.heap.size + 1 + 1,10,none⟩ = some (F1 0):=(arr_cell ho 10).trans rfl
 have f2_10:W2.frozen? ⟨w.heap.size + 1 + 1,10,none⟩ = false:=arr_frozen ho 10
 have o2_11:W2.cell? ⟨w.heap.size + 1 + 1,11,none⟩ = some (F1 0):=(arr_cell ho 11).trans rfl
 have f2_11:W2.frozen? ⟨w.heap.size + 1 + 1,11,none⟩ = false:=arr_frozen ho 11
 have o2_12:W2.cell? ⟨w.heap.size + 1 + 1,12,none⟩ = some (F1 0):=(arr_cell ho 12).trans rfl
 have f2_12:W2.frozen? ⟨w.heap.size + 1 + 1,12,none⟩ = false:=arr_frozen ho 12
 go_upto_region 5 with ((go_at_call 64;refine (to_vector _ _ _ _).mono ?_;rintro _ V2 ⟨rfl,hb1⟩);have HL:=lift hb1;have HF:=liftF hb1)
 replace hi:V2.heap[w.heap.size]? = _:=(hb1.block _ (by omega)).trans hi
 replace hr:V2.heap[w.heap.size + 1]? = _:=(hb1.block _ (by omega)).trans hr
 replace ho:V2.heap[w.heap.size + 1 + 1]? = _:=(hb1.block _ (by omega)).trans ho
 replace Wb:=below_step Wb hb1
 clear HL HF
 replace hF:=hF.below hb1
 replace hi:(((V2.setCell ⟨w.heap.size + 1 + 1,10,none⟩ (F1 lx)).setCell ⟨w.heap.size + 1 + 1,11,none⟩ (F1 ly)).setCell ⟨w.heap.size + 1 + 1,12,none⟩ (F1 lz)).heap[w.heap.size]? = some (.cells #[.slice bp ns.length cap,F1 a,F1 b,F1 c,F1 d,F1 e,F1 f,F1 wd,.int .i64 nx,.int .i64 ny,F1 lx,F1 ly,F1 lz,F1 near,F1 most,.int .i64 n] 78 (0,0)):=(set_oth (by omega) (set_oth (by omega) (set_oth (by omega) hi)))
 replace hr:(((V2.setCell ⟨w.heap.size + 1 + 1,10,none⟩ (F1 lx)).setCell ⟨w.heap.size + 1 + 1,11,none⟩ (F1 ly)).setCell ⟨w.heap.size + 1 + 1,12,none⟩ (F1 lz)).heap[w.heap.size + 1]? = some (.cells #[.slice none 0 0,F1 0,F1 0,F1 0,F1 0,F1 0,F1 0,F1 0,.int .i64 0,.int .i64 0,F1 0,F1 0,F1 0,F1 0,F1 0,.int .i64 0] 86 (0,0)):=(set_oth (by omega) (set_oth (by omega) (set_oth (by omega) hr)))
 have ho2_10:(V2.setCell ⟨w.heap.size + 1 + 1,10,none⟩ (F1 lx)).heap[w.heap.size + 1 + 1]? = some (.cells #[.slice (some ⟨G,0,none⟩) ns.length ns.length,F1 a,F1 b,F1 c,F1 d,F1 e,F1 f,F1 wd,.int .i64 nx,.int .i64 ny,F1 lx,F1 0,F1 0,F1 0,F1 0,.int .i64 0] 86 (0,0)):=arr_set ho 10 (F1 lx)
 have ho2_11:((V2.setCell ⟨w.heap.size + 1 + 1,10,none⟩ (F1 lx)).setCell ⟨w.heap.size + 1 + 1,11,none⟩ (F1 ly)).heap[w.heap.size + 1 + 1]? = some (.cells #[.slice (some ⟨G,0,none⟩) ns.length ns.length,F1 a,F1 b,F1 c,F1 d,F1 e,F1 f,F1 wd,.int .i64 nx,.int .i64 ny,F1 lx,F1 ly,F1 0,F1 0,F1 0,.int .i64 0] 86 (0,0)):=arr_set ho2_10 11 (F1 ly)
 have ho2_12:(((V2.setCell ⟨w.heap.size + 1 + 1,10,none⟩ (F1 lx)).setCell ⟨w.heap.size + 1 + 1,11,none⟩ (F1 ly)).setCell ⟨w.heap.size + 1 + 1,12,none⟩ (F1 lz)).heap[w.heap.size + 1 + 1]? = some (.cells #[.slice (some ⟨G,0,none⟩) ns.length ns.length,F1 a,F1 b,F1 c,F1 d,F1 e,F1 f,F1 wd,.int .i64 nx,.int .i64 ny,F1 lx,F1 ly,F1 lz,F1 0,F1 0,.int .i64 0] 86 (0,0)):=arr_set ho2_11 12 (F1 lz)
 replace ho:=ho2_12
 clear ho2_10 ho2_11 ho2_12
 replace Wb:Below w.heap.size w (((V2.setCell ⟨w.heap.size + 1 + 1,10,none⟩ (F1 lx)).setCell ⟨w.heap.size + 1 + 1,11,none⟩ (F1 ly)).setCell ⟨w.heap.size + 1 + 1,12,none⟩ (F1 lz)):=(((Wb.setCell (p:=⟨w.heap.size + 1 + 1,10,none⟩) (by show w.heap.size ≤ w.heap.size + 1 + 1;omega) (F1 lx)).setCell (p:=⟨w.heap.size + 1 + 1,11,none⟩) (by show w.heap.size ≤ w.heap.size + 1 + 1;omega) (F1 ly)).setCell (p:=⟨w.heap.size + 1 + 1,12,none⟩) (by show w.heap.size ≤ w.heap.size + 1 + 1;omega) (F1 lz))
 replace hF:Far G V0 (((V2.setCell ⟨w.heap.size + 1 + 1,10,none⟩ (F1 lx)).setCell ⟨w.heap.size + 1 + 1,11,none⟩ (F1 ly)).setCell ⟨w.heap.size + 1 + 1,12,none⟩ (F1 lz)):=(((hF.set (show w.heap.size + 1 + 1 < G by omega) 10 (F1 lx)).set (show w.heap.size + 1 + 1 < G by omega) 11 (F1 ly)).set (show w.heap.size + 1 + 1 < G by omega) 12 (F1 lz))
 clear i2_10 i2_11 i2_12 o2_10 f2_10 o2_11 f2_11 o2_12 f2_12 hb1
 generalize ((V2.setCell ⟨w.heap.size + 1 + 1,10,none⟩ (F1 lx)).setCell ⟨w.heap.size + 1 + 1,11,none⟩ (F1 ly)).setCell ⟨w.heap.size + 1 + 1,12,none⟩ (F1 lz) = W3 at *
 have hlt3:w.heap.size + 1 + 1 < W3.heap.size:=(Array.getElem?_eq_some_iff.1 ho).1
 have i3_13:W3.cell? ⟨w.heap.size,13,none⟩ = some (F1 near):=(arr_cell hi 13).trans rfl
 have i3_14:W3.cell? ⟨w.heap.size,14,none⟩ = some (F1 most):=(arr_cell hi 14).trans rfl
 have i3_15:W3.cell? ⟨w.heap.size,15,none⟩ = some (.int .i64 n):=(arr_cell hi 15).trans rfl
 have o3_13:W3.cell? ⟨w.heap.size + 1 + 1,13,none⟩ = some (F1 0):=(arr_cell ho 13).trans rfl
 have f3_13:W3.frozen? ⟨w.heap.size + 1 + 1,13,none⟩ = false:=arr_frozen ho 13
 have o3_14:W3.cell? ⟨w.heap.size + 1 + 1,14,none⟩ = some (F1 0):=(arr_cell ho 14).trans rfl
 have f3_14:W3.frozen? ⟨w.heap.size + 1 + 1,14,none⟩ = false:=arr_frozen ho 14
 have o3_15:W3.cell? ⟨w.heap.size + 1 + 1,15,none⟩ = some (.int .i64 0):=(arr_cell ho 15).trans rfl
 have f3_15:W3.frozen? ⟨w.heap.size + 1 + 1,15,none⟩ = false:=arr_frozen ho 15
 go_upto_region 6 with ((go_at_call 102;refine (to_march _ _ _ _).mono ?_;rintro _ V3 ⟨rfl,hb1⟩);have HL:=lift hb1;have HF:=liftF hb1)
 replace hi:V3.heap[w.heap.size]? = _:=(hb1.block _ (by omega)).trans hi
 replace hr:V3.heap[w.heap.size + 1]? = _:=(hb1.block _ (by omega)).trans hr
 replace ho:V3.heap[w.heap.size + 1 + 1]? = _:=(hb1.block _ (by omega)).trans ho
 replace Wb:=below_step Wb hb1
 clear HL HF
 replace hF:=hF.below hb1
 replace hi:(((V3.setCell ⟨w.heap.size + 1 + 1,13,none⟩ (F1 near)).setCell ⟨w.heap.size + 1 + 1,14,none⟩ (F1 most)).setCell ⟨w.heap.size + 1 + 1,15,none⟩ (.int .i64 n)).heap[w.heap.size]? = some (.cells #[.slice bp ns.length cap,F1 a,F1 b,F1 c,F1 d,F1 e,F1 f,F1 wd,.int .i64 nx,.int .i64 ny,F1 lx,F1 ly,F1 lz,F1 near,F1 most,.int .i64 n] 78 (0,0)):=(set_oth (by omega) (set_oth (by omega) (set_oth (by omega) hi)))
 replace hr:(((V3.setCell ⟨w.heap.size + 1 + 1,13,none⟩ (F1 near)).setCell ⟨w.heap.size + 1 + 1,14,none⟩ (F1 most)).setCell ⟨w.heap.size + 1 + 1,15,none⟩ (.int .i64 n)).heap[w.heap.size + 1]? = some (.cells #[.slice none 0 0,F1 0,F1 0,F1 0,F1 0,F1 0,F1 0,F1 0,.int .i64 0,.int .i64 0,F1 0,F1 0,F1 0,F1 0,F1 0,.int .i64 0] 86 (0,0)):=(set_oth (by omega) (set_oth (by omega) (set_oth (by omega) hr)))
 have ho3_13:(V3.setCell ⟨w.heap.size + 1 + 1,13,none⟩ (F1 near)).heap[w.heap.size + 1 + 1]? = some (.cells #[.slice (some ⟨G,0,none⟩) ns.length ns.length,F1 a,F1 b,F1 c,F1 d,F1 e,F1 f,F1 wd,.int .i64 nx,.int .i64 ny,F1 lx,F1 ly,F1 lz,F1 near,F1 0,.int .i64 0] 86 (0,0)):=arr_set ho 13 (F1 near)
 have ho3_14:((V3.setCell ⟨w.heap.size + 1 + 1,13,none⟩ (F1 near)).setCell ⟨w.heap.size + 1 + 1,14,none⟩ (F1 most)).heap[w.heap.size + 1 + 1]? = some (.cells #[.slice (some ⟨G,0,none⟩) ns.length ns.length,F1 a,F1 b,F1 c,F1 d,F1 e,F1 f,F1 wd,.int .i64 nx,.int .i64 ny,F1 lx,F1 ly,F1 lz,F1 near,F1 most,.int .i64 0] 86 (0,0)):=arr_set ho3_13 14 (F1 most)
 have ho3_15:(((V3.setCell ⟨w.heap.size + 1 + 1,13,none⟩ (F1 near)).setCell ⟨w.heap.size + 1 + 1,14,none⟩ (F1 most)).setCell ⟨w.heap.size + 1 + 1,15,none⟩ (.int .i64 n)).heap[w.heap.size + 1 + 1]? = some (.cells #[.slice (some ⟨G,0,none⟩) ns.length ns.length,F1 a,F1 b,F1 c,F1 d,F1 e,F1 f,F1 wd,.int .i64 nx,.int .i64 ny,F1 lx,F1 ly,F1 lz,F1 near,F1 most,.int .i64 n] 86 (0,0)):=arr_set ho3_14 15 (.int .i64 n)
 replace ho:=ho3_15
 clear ho3_13 ho3_14 ho3_15
 replace Wb:Below w.heap.size w (((V3.setCell ⟨w.heap.size + 1 + 1,13,none⟩ (F1 near)).setCell ⟨w.heap.size + 1 + 1,14,none⟩ (F1 most)).setCell ⟨w.heap.size + 1 + 1,15,none⟩ (.int .i64 n)):=(((Wb.setCell (p:=⟨w.heap.size + 1 + 1,13,none⟩) (by show w.heap.size ≤ w.heap.size + 1 + 1;omega) (F1 near)).setCell (p:=⟨w.heap.size + 1 + 1,14,none⟩) (by show w.heap.size ≤ w.heap.size + 1 + 1;omega) (F1 most)).setCell (p:=⟨w.heap.size + 1 + 1,15,none⟩) (by show w.heap.size ≤ w.heap.size + 1 + 1;omega) (.int .i64 n))
 replace hF:Far G V0 (((V3.setCell ⟨w.heap.size + 1 + 1,13,none⟩ (F1 near)).setCell ⟨w.heap.size + 1 + 1,14,none⟩ (F1 most)).setCell ⟨w.heap.size + 1 + 1,15,none⟩ (.int .i64 n)):=(((hF.set (show w.heap.size + 1 + 1 < G by omega) 13 (F1 near)).set (show w.heap.size + 1 + 1 < G by omega) 14 (F1 most)).set (show w.heap.size + 1 + 1 < G by omega) 15 (.int .i64 n))
 clear i3_13 i3_14 i3_15 o3_13 f3_13 o3_14 f3_14 o3_15 f3_15 hb1
 generalize ((V3.setCell ⟨w.heap.size + 1 + 1,13,none⟩ (F1 near)).setCell ⟨w.heap.size + 1 + 1,14,none⟩ (F1 most)).setCell ⟨w.heap.size + 1 + 1,15,none⟩ (.int .i64 n) = W4 at *
 have o_0:W4.cell? ⟨w.heap.size + 1 + 1,0,none⟩ = some (.slice (some ⟨G,0,none⟩) ns.length ns.length):=(arr_cell ho 0).trans rfl
 have r_0:W4.cell? ⟨w.heap.size + 1,0,none⟩ = some (.slice none 0 0):=(arr_cell hr 0).trans rfl
 have f_0:W4.frozen? ⟨w.heap.size + 1,0,none⟩ = false:=arr_frozen hr 0
 have o_1:W4.cell? ⟨w.heap.size + 1 + 1,1,none⟩ = some (F1 a):=(arr_cell ho 1).trans rfl
 have r_1:W4.cell? ⟨w.heap.size + 1,1,none⟩ = some (F1 0):=(arr_cell hr 1).trans rfl
 have f_1:W4.frozen? ⟨w.heap.size + 1,1,none⟩ = false:=arr_frozen hr 1
 have o_2:W4.cell? ⟨w.heap.size + 1 + 1,2,none⟩ = some (F1 b):=(arr_cell ho 2).trans rfl
 have r_2:W4.cell? ⟨w.heap.size + 1,2,none⟩ = some (F1 0):=(arr_cell hr 2).trans rfl
 have f_2:W4.frozen? ⟨w.heap.size + 1,2,none⟩ = false:=arr_frozen hr 2
 have o_3:W4.cell? ⟨w.heap.size + 1 + 1,3,none⟩ = some (F1 c):=(arr_cell ho 3).trans rfl
 have r_3:W4.cell? ⟨w.heap.size + 1,3,none⟩ = some (F1 0):=(arr_cell hr 3).trans rfl
 have f_3:W4.frozen? ⟨w.heap.size + 1,3,none⟩ = false:=arr_frozen hr 3
 have o_4:W4.cell? ⟨w.heap.size + 1 + 1,4,none⟩ = some (F1 d):=(arr_cell ho 4).trans rfl
 have r_4:W4.cell? ⟨w.heap.size + 1,4,none⟩ = some (F1 0):=(arr_cell hr 4).trans rfl
 have f_4:W4.frozen? ⟨w.heap.size + 1,4,none⟩ = false:=arr_frozen hr 4
 have o_5:W4.cell? ⟨w.heap.size + 1 + 1,5,none⟩ = some (F1 e):=(arr_cell ho 5).trans rfl
 have r_5:W4.cell? ⟨w.heap.size + 1,5,none⟩ = some (F1 0):=(arr_cell hr 5).trans rfl
 have f_5:W4.frozen? ⟨w.heap.size + 1,5,none⟩ = false:=arr_frozen hr 5
 have o_6:W4.cell? ⟨w.heap.size + 1 + 1,6,none⟩ = some (F1 f):=(arr_cell ho 6).trans rfl
 have r_6:W4.cell? ⟨w.heap.size + 1,6,none⟩ = some (F1 0):=(arr_cell hr 6).trans rfl
 have f_6:W4.frozen? ⟨w.heap.size + 1,6,none⟩ = false:=arr_frozen hr 6
 have o_7:W4.cell? ⟨w.heap.size + 1 + 1,7,none⟩ = some (F1 wd):=(arr_cell ho 7).trans rfl
 have r_7:W4.cell? ⟨w.heap.size + 1,7,none⟩ = some (F1 0):=(arr_cell hr 7).trans rfl
 have f_7:W4.frozen? ⟨w.heap.size + 1,7,none⟩ = false:=arr_frozen hr 7
 have o_8:W4.cell? ⟨w.heap.size + 1 + 1,8,none⟩ = some (.int .i64 nx):=(arr_cell ho 8).trans rfl
 have r_8:W4.cell? ⟨w.heap.size + 1,8,none⟩ = some (.int .i64 0):=(arr_cell hr 8).trans rfl
 have f_8:W4.frozen? ⟨w.heap.size + 1,8,none⟩ = false:=arr_frozen hr 8
 have o_9:W4.cell? ⟨w.heap.size + 1 + 1,9,none⟩ = some (.int .i64 ny):=(arr_cell ho 9).trans rfl
 have r_9:W4.cell? ⟨w.heap.size + 1,9,none⟩ = some (.int .i64 0):=(arr_cell hr 9).trans rfl
 have f_9:W4.frozen? ⟨w.heap.size + 1,9,none⟩ = false:=arr_frozen hr 9
 have o_10:W4.cell? ⟨w.heap.size + 1 + 1,10,none⟩ = some (F1 lx):=(arr_cell ho 10).trans rfl
 have r_10:W4.cell? ⟨w.heap.size + 1,10,none⟩ = some (F1 0):=(arr_cell hr 10).trans rfl
 have f_10:W4.frozen? ⟨w.heap.size + 1,10,none⟩ = false:=arr_frozen hr 10
 have o_11:W4.cell? ⟨w.heap.size + 1 + 1,11,none⟩ = some (F1 ly):=(arr_cell ho 11).trans rfl
 have r_11:W4.cell? ⟨w.heap.size + 1,11,none⟩ = some (F1 0):=(arr_cell hr 11).trans rfl
 have f_11:W4.frozen? ⟨w.heap.size + 1,11,none⟩ = false:=arr_frozen hr 11
 have o_12:W4.cell? ⟨w.heap.size + 1 + 1,12,none⟩ = some (F1 lz):=(arr_cell ho 12).trans rfl
 have r_12:W4.cell? ⟨w.heap.size + 1,12,none⟩ = some (F1 0):=(arr_cell hr 12).trans rfl
 have f_12:W4.frozen? ⟨w.heap.size + 1,12,none⟩ = false:=arr_frozen hr 12
 have o_13:W4.cell? ⟨w.heap.size + 1 + 1,13,none⟩ = some (F1 near):=(arr_cell ho 13).trans rfl
 have r_13:W4.cell? ⟨w.heap.size + 1,13,none⟩ = some (F1 0):=(arr_cell hr 13).trans rfl
 have f_13:W4.frozen? ⟨w.heap.size + 1,13,none⟩ = false:=arr_frozen hr 13
 have o_14:W4.cell? ⟨w.heap.size + 1 + 1,14,none⟩ = some (F1 most):=(arr_cell ho 14).trans rfl
 have r_14:W4.cell? ⟨w.heap.size + 1,14,none⟩ = some (F1 0):=(arr_cell hr 14).trans rfl
 have f_14:W4.frozen? ⟨w.heap.size + 1,14,none⟩ = false:=arr_frozen hr 14
 have o_15:W4.cell? ⟨w.heap.size + 1 + 1,15,none⟩ = some (.int .i64 n):=(arr_cell ho 15).trans rfl
 have r_15:W4.cell? ⟨w.heap.size + 1,15,none⟩ = some (.int .i64 0):=(arr_cell hr 15).trans rfl
 have f_15:W4.frozen? ⟨w.heap.size + 1,15,none⟩ = false:=arr_frozen hr 15
 have hrH:=Lib.hid hr
 clear hi hr ho
 go_wp2_with fail
 have hf0:(W4.setCell ⟨w.heap.size + 1,0,none⟩ (.slice (some ⟨G,0,none⟩) ns.length ns.length)).heap[w.heap.size + 1]? = some (.cells #[.slice (some ⟨G,0,none⟩) ns.length ns.length,F1 0,F1 0,F1 0,F1 0,F1 0,F1 0,F1 0,.int .i64 0,.int .i64 0,F1 0,F1 0,F1 0,F1 0,F1 0,.int .i64 0] 86 (0,0)):=arr_set hrH.out 0 (.slice (some ⟨G,0,none⟩) ns.length ns.length)
 have hf1:((W4.setCell ⟨w.heap.size + 1,0,none⟩ (.slice (some ⟨G,0,none⟩) ns.length ns.length)).setCell ⟨w.heap.size + 1,1,none⟩ (F1 a)).heap[w.heap.size + 1]? = some (.cells #[.slice (some ⟨G,0,none⟩) ns.length ns.length,F1 a,F1 0,F1 0,F1 0,F1 0,F1 0,F1 0,.int .i64 0,.int .i64 0,F1 0,F1 0,F1 0,F1 0,F1 0,.int .i64 0] 86 (0,0)):=arr_set hf0 1 (F1 a)
 have hf2:(((W4.setCell ⟨w.heap.size + 1,0,none⟩ (.slice (some ⟨G,0,none⟩) ns.length ns.length)).setCell ⟨w.heap.size + 1,1,none⟩ (F1 a)).setCell ⟨w.heap.size + 1,2,none⟩ (F1 b)).heap[w.heap.size + 1]? = some (.cells #[.slice (some ⟨G,0,none⟩) ns.length ns.length,F1 a,F1 b,F1 0,F1 0,F1 0,F1 0,F1 0,.int .i64 0,.int .i64 0,F1 0,F1 0,F1 0,F1 0,F1 0,.int .i64 0] 86 (0,0)):=arr_set hf1 2 (F1 b)
 have hf3:((((W4.setCell ⟨w.heap.size + 1,0,none⟩ (.slice (some ⟨G,0,none⟩) ns.length ns.length)).setCell ⟨w.heap.size + 1,1,none⟩ (F1 a)).setCell ⟨w.heap.size + 1,2,none⟩ (F1 b)).setCell ⟨w.heap.size + 1,3,none⟩ (F1 c)).heap[w.heap.size + 1]? = some (.cells #[.slice (some ⟨G,0,none⟩) ns.length ns.length,F1 a,F1 b,F1 c,F1 0,F1 0,F1 0,F1 0,.int .i64 0,.int .i64 0,F1 0,F1 0,F1 0,F1 0,F1 0,.int .i64 0] 86 (0,0)):=arr_set hf2 3 (F1 c)
 have hf4:(((((W4.setCell ⟨w.heap.size + 1,0,none⟩ (.slice (some ⟨G,0,none⟩) ns.length ns.length)).setCell ⟨w.heap.size + 1,1,none⟩ (F1 a)).setCell ⟨w.heap.size + 1,2,none⟩ (F1 b)).setCell ⟨w.heap.size + 1,3,none⟩ (F1 c)).setCell ⟨w.heap.size + 1,4,none⟩ (F1 d)).heap[w.heap.size + 1]? = some (.cells #[.slice (some ⟨G,0,none⟩) ns.length ns.length,F1 a,F1 b,F1 c,F1 d,F1 0,F1 0,F1 0,.int .i64 0,.int .i64 0,F1 0,F1 0,F1 0,F1 0,F1 0,.int .i64 0] 86 (0,0)):=arr_set hf3 4 (F1 d)
 have hf5:((((((W4.setCell ⟨w.heap.size + 1,0,none⟩ (.slice (some ⟨G,0,none⟩) ns.length ns.length)).setCell ⟨w.heap.size + 1,1,none⟩ (F1 a)).setCell ⟨w.heap.size + 1,2,none⟩ (F1 b)).setCell ⟨w.heap.size + 1,3,none⟩ (F1 c)).setCell ⟨w.heap.size + 1,4,none⟩ (F1 d)).setCell ⟨w.heap.size + 1,5,none⟩ (F1 e)).heap[w.heap.size + 1]? = some (.cells #[.slice (some ⟨G,0,none⟩) ns.length ns.length,F1 a,F1 b,F1 c,F1 d,F1 e,F1 0,F1 0,.int .i64 0,.int .i64 0,F1 0,F1 0,F1 0,F1 0,F1 0,.int .i64 0] 86 (0,0)):=arr_set hf4 5 (F1 e)
 have hf6:(((((((W4.setCell ⟨w.heap.size + 1,0,none⟩ (.slice (some ⟨G,0,none⟩) ns.length ns.length)).setCell ⟨w.heap.size + 1,1,none⟩ (F1 a)).setCell ⟨w.heap.size + 1,2,none⟩ (F1 b)).setCell ⟨w.heap.size + 1,3,none⟩ (F1 c)).setCell ⟨w.heap.size + 1,4,none⟩ (F1 d)).setCell ⟨w.heap.size + 1,5,none⟩ (F1 e)).setCell ⟨w.heap.size + 1,6,none⟩ (F1 f)).heap[w.heap.size + 1]? = some (.cells #[.slice (some ⟨G,0,none⟩) ns.length ns.length,F1 a,F1 b,F1 c,F1 d,F1 e,F1 f,F1 0,.int .i64 0,.int .i64 0,F1 0,F1 0,F1 0,F1 0,F1 0,.int .i64 0] 86 (0,0)):=arr_set hf5 6 (F1 f)
 have hf7:((((((((W4.setCell ⟨w.heap.size + 1,0,none⟩ (.slice (some ⟨G,0,none⟩) ns.length ns.length)).setCell ⟨w.heap.size + 1,1,none⟩ (F1 a)).setCell ⟨w.heap.size + 1,2,none⟩ (F1 b)).setCell ⟨w.heap.size + 1,3,none⟩ (F1 c)).setCell ⟨w.heap.size + 1,4,none⟩ (F1 d)).setCell ⟨w.heap.size + 1,5,none⟩ (F1 e)).setCell ⟨w.heap.size + 1,6,none⟩ (F1 f)).setCell ⟨w.heap.size + 1,7,none⟩ (F1 wd)).heap[w.heap.size + 1]? = some (.cells #[.slice (some ⟨G,0,none⟩) ns.length ns.length,F1 a,F1 b,F1 c,F1 d,F1 e,F1 f,F1 wd,.int .i64 0,.int .i64 0,F1 0,F1 0,F1 0,F1 0,F1 0,.int .i64 0] 86 (0,0)):=arr_set hf6 7 (F1 wd)
 have hf8:(((((((((W4.setCell ⟨w.heap.size + 1,0,none⟩ (.slice (some ⟨G,0,none⟩) ns.length ns.length)).setCell ⟨w.heap.size + 1,1,none⟩ (F1 a)).setCell ⟨w.heap.size + 1,2,none⟩ (F1 b)).setCell ⟨w.heap.size + 1,3,none⟩ (F1 c)).setCell ⟨w.heap.size + 1,4,none⟩ (F1 d)).setCell ⟨w.heap.size + 1,5,none⟩ (F1 e)).setCell ⟨w.heap.size + 1,6,none⟩ (F1 f)).setCell ⟨w.heap.size + 1,7,none⟩ (F1 wd)).setCell ⟨w.heap.size + 1,8,none⟩ (.int .i64 nx)).heap[w.heap.size + 1]? = some (.cells #[.slice (some ⟨G,0,none⟩) ns.length ns.length,F1 a,F1 b,F1 c,F1 d,F1 e,F1 f,F1 wd,.int .i64 nx,.int .i64 0,F1 0,F1 0,F1 0,F1 0,F1 0,.int .i64 0] 86 (0,0)):=arr_set hf7 8 (.int .i64 nx)
 have hf9:((((((((((W4.setCell ⟨w.heap.size + 1,0,none⟩ (.slice (some ⟨G,0,none⟩) ns.length ns.length)).setCell ⟨w.heap.size + 1,1,none⟩ (F1 a)).setCell ⟨w.heap.size + 1,2,none⟩ (F1 b)).setCell ⟨w.heap.size + 1,3,none⟩ (F1 c)).setCell ⟨w.heap.size + 1,4,none⟩ (F1 d)).setCell ⟨w.heap.size + 1,5,none⟩ (F1 e)).setCell ⟨w.heap.size + 1,6,none⟩ (F1 f)).setCell ⟨w.heap.size + 1,7,none⟩ (F1 wd)).setCell ⟨w.heap.size + 1,8,none⟩ (.int .i64 nx)).setCell ⟨w.heap.size + 1,9,none⟩ (.int .i64 ny)).heap[w.heap.size + 1]? = some (.cells #[.slice (some ⟨G,0,none⟩) ns.length ns.length,F1 a,F1 b,F1 c,F1 d,F1 e,F1 f,F1 wd,.int .i64 nx,.int .i64 ny,F1 0,F1 0,F1 0,F1 0,F1 0,.int .i64 0] 86 (0,0)):=arr_set hf8 9 (.int .i64 ny)
 have hf10:(((((((((((W4.setCell ⟨w.heap.size + 1,0,none⟩ (.slice (some ⟨G,0,none⟩) ns.length ns.length)).setCell ⟨w.heap.size + 1,1,none⟩ (F1 a)).setCell ⟨w.heap.size + 1,2,none⟩ (F1 b)).setCell ⟨w.heap.size + 1,3,none⟩ (F1 c)).setCell ⟨w.heap.size + 1,4,none⟩ (F1 d)).setCell ⟨w.heap.size + 1,5,none⟩ (F1 e)).setCell ⟨w.heap.size + 1,6,none⟩ (F1 f)).setCell ⟨w.heap.size + 1,7,none⟩ (F1 wd)).setCell ⟨w.heap.size + 1,8,none⟩ (.int .i64 nx)).setCell ⟨w.heap.size + 1,9,none⟩ (.int .i64 ny)).setCell ⟨w.heap.size + 1,10,none⟩ (F1 lx)).heap[w.heap.size + 1]? = some (.cells #[.slice (some ⟨G,0,none⟩) ns.length ns.length,F1 a,F1 b,F1 c,F1 d,F1 e,F1 f,F1 wd,.int .i64 nx,.int .i64 ny,F1 lx,F1 0,F1 0,F1 0,F1 0,.int .i64 0] 86 (0,0)):=arr_set hf9 10 (F1 lx)
 have hf11:((((((((((((W4.setCell ⟨w.heap.size + 1,0,none⟩ (.slice (some ⟨G,0,none⟩) ns.length ns.length)).setCell ⟨w.heap.size + 1,1,none⟩ (F1 a)).setCell ⟨w.heap.size + 1,2,none⟩ (F1 b)).setCell ⟨w.heap.size + 1,3,none⟩ (F1 c)).setCell ⟨w.heap.size + 1,4,none⟩ (F1 d)).setCell ⟨w.heap.size + 1,5,none⟩ (F1 e)).setCell ⟨w.heap.size + 1,6,none⟩ (F1 f)).setCell ⟨w.heap.size + 1,7,none⟩ (F1 wd)).setCell ⟨w.heap.size + 1,8,none⟩ (.int .i64 nx)).setCell ⟨w.heap.size + 1,9,none⟩ (.int .i64 ny)).setCell ⟨w.heap.size + 1,10,none⟩ (F1 lx)).setCell ⟨w.heap.size + 1,11,none⟩ (F1 ly)).heap[w.heap.size + 1]? = some (.cells #[.slice (some ⟨G,0,none⟩) ns.length ns.length,F1 a,F1 b,F1 c,F1 d,F1 e,F1 f,F1 wd,.int .i64 nx,.int .i64 ny,F1 lx,F1 ly,F1 0,F1 0,F1 0,.int .i64 0] 86 (0,0)):=arr_set hf10 11 (F1 ly)
 have hf12:(((((((((((((W4.setCell ⟨w.heap.size + 1,0,none⟩ (.slice (some ⟨G,0,none⟩) ns.length ns.length)).setCell ⟨w.heap.size + 1,1,none⟩ (F1 a)).setCell ⟨w.heap.size + 1,2,none⟩ (F1 b)).setCell ⟨w.heap.size + 1,3,none⟩ (F1 c)).setCell ⟨w.heap.size + 1,4,none⟩ (F1 d)).setCell ⟨w.heap.size + 1,5,none⟩ (F1 e)).setCell ⟨w.heap.size + 1,6,none⟩ (F1 f)).setCell ⟨w.heap.size + 1,7,none⟩ (F1 wd)).setCell ⟨w.heap.size + 1,8,none⟩ (.int .i64 nx)).setCell ⟨w.heap.size + 1,9,none⟩ (.int .i64 ny)).setCell ⟨w.heap.size + 1,10,none⟩ (F1 lx)).setCell ⟨w.heap.size + 1,11,none⟩ (F1 ly)).setCell ⟨w.heap.size + 1,12,none⟩ (F1 lz)).heap[w.heap.size + 1]? = some (.cells #[.slice (some ⟨G,0,none⟩) ns.length ns.length,F1 a,F1 b,F1 c,F1 d,F1 e,F1 f,F1 wd,.int .i64 nx,.int .i64 ny,F1 lx,F1 ly,F1 lz,F1 0,F1 0,.int .i64 0] 86 (0,0)):=arr_set hf11 12 (F1 lz)
 have hf13:((((((((((((((W4.setCell ⟨w.heap.size + 1,0,none⟩ (.slice (some ⟨G,0,none⟩) ns.length ns.length)).setCell ⟨w.heap.size + 1,1,none⟩ (F1 a)).setCell ⟨w.heap.size + 1,2,none⟩ (F1 b)).setCell ⟨w.heap.size + 1,3,none⟩ (F1 c)).setCell ⟨w.heap.size + 1,4,none⟩ (F1 d)).setCell ⟨w.heap.size + 1,5,none⟩ (F1 e)).setCell ⟨w.heap.size + 1,6,none⟩ (F1 f)).setCell ⟨w.heap.size + 1,7,none⟩ (F1 wd)).setCell ⟨w.heap.size + 1,8,none⟩ (.int .i64 nx)).setCell ⟨w.heap.size + 1,9,none⟩ (.int .i64 ny)).setCell ⟨w.heap.size + 1,10,none⟩ (F1 lx)).setCell ⟨w.heap.size + 1,11,none⟩ (F1 ly)).setCell ⟨w.heap.size + 1,12,none⟩ (F1 lz)).setCell ⟨w.heap.size + 1,13,none⟩ (F1 near)).heap[w.heap.size + 1]? = some (.cells #[.slice (some ⟨G,0,none⟩) ns.length ns.length,F1 a,F1 b,F1 c,F1 d,F1 e,F1 f,F1 wd,.int .i64 nx,.int .i64 ny,F1 lx,F1 ly,F1 lz,F1 near,F1 0,.int .i64 0] 86 (0,0)):=arr_set hf12 13 (F1 near)
 have hf14:(((((((((((((((W4.setCell ⟨w.heap.size + 1,0,none⟩ (.slice (some ⟨G,0,none⟩) ns.length ns.length)).setCell ⟨w.heap.size + 1,1,none⟩ (F1 a)).setCell ⟨w.heap.size + 1,2,none⟩ (F1 b)).setCell ⟨w.heap.size + 1,3,none⟩ (F1 c)).setCell ⟨w.heap.size + 1,4,none⟩ (F1 d)).setCell ⟨w.heap.size + 1,5,none⟩ (F1 e)).setCell ⟨w.heap.size + 1,6,none⟩ (F1 f)).setCell ⟨w.heap.size + 1,7,none⟩ (F1 wd)).setCell ⟨w.heap.size + 1,8,none⟩ (.int .i64 nx)).setCell ⟨w.heap.size + 1,9,none⟩ (.int .i64 ny)).setCell ⟨w.heap.size + 1,10,none⟩ (F1 lx)).setCell ⟨w.heap.size + 1,11,none⟩ (F1 ly)).setCell ⟨w.heap.size + 1,12,none⟩ (F1 lz)).setCell ⟨w.heap.size + 1,13,none⟩ (F1 near)).setCell ⟨w.heap.size + 1,14,none⟩ (F1 most)).heap[w.heap.size + 1]? = some (.cells #[.slice (some ⟨G,0,none⟩) ns.length ns.length,F1 a,F1 b,F1 c,F1 d,F1 e,F1 f,F1 wd,.int .i64 nx,.int .i64 ny,F1 lx,F1 ly,F1 lz,F1 near,F1 most,.int .i64 0] 86 (0,0)):=arr_set hf13 14 (F1 most)
 have hf15:((((((((((((((((W4.setCell ⟨w.heap.size + 1,0,none⟩ (.slice (some ⟨G,0,none⟩) ns.length ns.length)).setCell ⟨w.heap.size + 1,1,none⟩ (F1 a)).setCell ⟨w.heap.size + 1,2,none⟩ (F1 b)).setCell ⟨w.heap.size + 1,3,none⟩ (F1 c)).setCell ⟨w.heap.size + 1,4,none⟩ (F1 d)).setCell ⟨w.heap.size + 1,5,none⟩ (F1 e)).setCell ⟨w.heap.size + 1,6,none⟩ (F1 f)).setCell ⟨w.heap.size + 1,7,none⟩ (F1 wd)).setCell ⟨w.heap.size + 1,8,none⟩ (.int .i64 nx)).setCell ⟨w.heap.size + 1,9,none⟩ (.int .i64 ny)).setCell ⟨w.heap.size + 1,10,none⟩ (F1 lx)).setCell ⟨w.heap.size + 1,11,none⟩ (F1 ly)).setCell ⟨w.heap.size + 1,12,none⟩ (F1 lz)).setCell ⟨w.heap.size + 1,13,none⟩ (F1 near)).setCell ⟨w.heap.size + 1,14,none⟩ (F1 most)).setCell ⟨w.heap.size + 1,15,none⟩ (.int .i64 n)).heap[w.heap.size + 1]? = some (.cells #[.slice (some ⟨G,0,none⟩) ns.length ns.length,F1 a,F1 b,F1 c,F1 d,F1 e,F1 f,F1 wd,.int .i64 nx,.int .i64 ny,F1 lx,F1 ly,F1 lz,F1 near,F1 most,.int .i64 n] 86 (0,0)):=arr_set hf14 15 (.int .i64 n)
 have hf:=hf15
 clear hf0 hf1 hf2 hf3 hf4 hf5 hf6 hf7 hf8 hf9 hf10 hf11 hf12 hf13 hf14 hf15
 have Wf:Below w.heap.size w ((((((((((((((((W4.setCell ⟨w.heap.size + 1,0,none⟩ (.slice (some ⟨G,0,none⟩) ns.length ns.length)).setCell ⟨w.heap.size + 1,1,none⟩ (F1 a)).setCell ⟨w.heap.size + 1,2,none⟩ (F1 b)).setCell ⟨w.heap.size + 1,3,none⟩ (F1 c)).setCell ⟨w.heap.size + 1,4,none⟩ (F1 d)).setCell ⟨w.heap.size + 1,5,none⟩ (F1 e)).setCell ⟨w.heap.size + 1,6,none⟩ (F1 f)).setCell ⟨w.heap.size + 1,7,none⟩ (F1 wd)).setCell ⟨w.heap.size + 1,8,none⟩ (.int .i64 nx)).setCell ⟨w.heap.size + 1,9,none⟩ (.int .i64 ny)).setCell ⟨w.heap.size + 1,10,none⟩ (F1 lx)).setCell ⟨w.heap.size + 1,11,none⟩ (F1 ly)).setCell ⟨w.heap.size + 1,12,none⟩ (F1 lz)).setCell ⟨w.heap.size + 1,13,none⟩ (F1 near)).setCell ⟨w.heap.size + 1,14,none⟩ (F1 most)).setCell ⟨w.heap.size + 1,15,none⟩ (.int .i64 n)):=((((((((((((((((Wb.setCell (p:=⟨w.heap.size + 1,0,none⟩) (by show w.heap.size ≤ w.heap.size + 1;omega) (.slice (some ⟨G,0,none⟩) ns.length ns.length)).setCell (p:=⟨w.heap.size + 1,1,none⟩) (by show w.heap.size ≤ w.heap.size + 1;omega) (F1 a)).setCell (p:=⟨w.heap.size + 1,2,none⟩) (by show w.heap.size ≤ w.heap.size + 1;omega) (F1 b)).setCell (p:=⟨w.heap.size + 1,3,none⟩) (by show w.heap.size ≤ w.heap.size + 1;omega) (F1 c)).setCell (p:=⟨w.heap.size + 1,4,none⟩) (by show w.heap.size ≤ w.heap.size + 1;omega) (F1 d)).setCell (p:=⟨w.heap.size + 1,5,none⟩) (by show w.heap.size ≤ w.heap.size + 1;omega) (F1 e)).setCell (p:=⟨w.heap.size + 1,6,none⟩) (by show w.heap.size ≤ w.heap.size + 1;omega) (F1 f)).setCell (p:=⟨w.heap.size + 1,7,none⟩) (by show w.heap.size ≤ w.heap.size + 1;omega) (F1 wd)).setCell (p:=⟨w.heap.size + 1,8,none⟩) (by show w.heap.size ≤ w.heap.size + 1;omega) (.int .i64 nx)).setCell (p:=⟨w.heap.size + 1,9,none⟩) (by show w.heap.size ≤ w.heap.size + 1;omega) (.int .i64 ny)).setCell (p:=⟨w.heap.size + 1,10,none⟩) (by show w.heap.size ≤ w.heap.size + 1;omega) (F1 lx)).setCell (p:=⟨w.heap.size + 1,11,none⟩) (by show w.heap.size ≤ w.heap.size + 1;omega) (F1 ly)).setCell (p:=⟨w.heap.size + 1,12,none⟩) (by show w.heap.size ≤ w.heap.size + 1;omega) (F1 lz)).setCell (p:=⟨w.heap.size + 1,13,none⟩) (by show w.heap.size ≤ w.heap.size + 1;omega) (F1 near)).setCell (p:=⟨w.heap.size + 1,14,none⟩) (by show w.heap.size ≤ w.heap.size + 1;omega) (F1 most)).setCell (p:=⟨w.heap.size + 1,15,none⟩) (by show w.heap.size ≤ w.heap.size + 1;omega) (.int .i64 n))
 have hF2:Far G V0 ((((((((((((((((W4.setCell ⟨w.heap.size + 1,0,none⟩ (.slice (some ⟨G,0,none⟩) ns.length ns.length)).setCell ⟨w.heap.size + 1,1,none⟩ (F1 a)).setCell ⟨w.heap.size + 1,2,none⟩ (F1 b)).setCell ⟨w.heap.size + 1,3,none⟩ (F1 c)).setCell ⟨w.heap.size + 1,4,none⟩ (F1 d)).setCell ⟨w.heap.size + 1,5,none⟩ (F1 e)).setCell ⟨w.heap.size + 1,6,none⟩ (F1 f)).setCell ⟨w.heap.size + 1,7,none⟩ (F1 wd)).setCell ⟨w.heap.size + 1,8,none⟩ (.int .i64 nx)).setCell ⟨w.heap.size + 1,9,none⟩ (.int .i64 ny)).setCell ⟨w.heap.size + 1,10,none⟩ (F1 lx)).setCell ⟨w.heap.size + 1,11,none⟩ (F1 ly)).setCell ⟨w.heap.size + 1,12,none⟩ (F1 lz)).setCell ⟨w.heap.size + 1,13,none⟩ (F1 near)).setCell ⟨w.heap.size + 1,14,none⟩ (F1 most)).setCell ⟨w.heap.size + 1,15,none⟩ (.int .i64 n)):=((((((((((((((((hF.set (show w.heap.size + 1 < G by omega) 0 (.slice (some ⟨G,0,none⟩) ns.length ns.length)).set (show w.heap.size + 1 < G by omega) 1 (F1 a)).set (show w.heap.size + 1 < G by omega) 2 (F1 b)).set (show w.heap.size + 1 < G by omega) 3 (F1 c)).set (show w.heap.size + 1 < G by omega) 4 (F1 d)).set (show w.heap.size + 1 < G by omega) 5 (F1 e)).set (show w.heap.size + 1 < G by omega) 6 (F1 f)).set (show w.heap.size + 1 < G by omega) 7 (F1 wd)).set (show w.heap.size + 1 < G by omega) 8 (.int .i64 nx)).set (show w.heap.size + 1 < G by omega) 9 (.int .i64 ny)).set (show w.heap.size + 1 < G by omega) 10 (F1 lx)).set (show w.heap.size + 1 < G by omega) 11 (F1 ly)).set (show w.heap.size + 1 < G by omega) 12 (F1 lz)).set (show w.heap.size + 1 < G by omega) 13 (F1 near)).set (show w.heap.size + 1 < G by omega) 14 (F1 most)).set (show w.heap.size + 1 < G by omega) 15 (.int .i64 n))
 clear o_0 r_0 f_0 o_1 r_1 f_1 o_2 r_2 f_2 o_3 r_3 f_3 o_4 r_4 f_4 o_5 r_5 f_5 o_6 r_6 f_6 o_7 r_7 f_7 o_8 r_8 f_8 o_9 r_9 f_9 o_10 r_10 f_10 o_11 r_11 f_11 o_12 r_12 f_12 o_13 r_13 f_13 o_14 r_14 f_14 o_15 r_15 f_15 hrH
 generalize (((((((((((((((W4.setCell ⟨w.heap.size + 1,0,none⟩ (.slice (some ⟨G,0,none⟩) ns.length ns.length)).setCell ⟨w.heap.size + 1,1,none⟩ (F1 a)).setCell ⟨w.heap.size + 1,2,none⟩ (F1 b)).setCell ⟨w.heap.size + 1,3,none⟩ (F1 c)).setCell ⟨w.heap.size + 1,4,none⟩ (F1 d)).setCell ⟨w.heap.size + 1,5,none⟩ (F1 e)).setCell ⟨w.heap.size + 1,6,none⟩ (F1 f)).setCell ⟨w.heap.size + 1,7,none⟩ (F1 wd)).setCell ⟨w.heap.size + 1,8,none⟩ (.int .i64 nx)).setCell ⟨w.heap.size + 1,9,none⟩ (.int .i64 ny)).setCell ⟨w.heap.size + 1,10,none⟩ (F1 lx)).setCell ⟨w.heap.size + 1,11,none⟩ (F1 ly)).setCell ⟨w.heap.size + 1,12,none⟩ (F1 lz)).setCell ⟨w.heap.size + 1,13,none⟩ (F1 near)).setCell ⟨w.heap.size + 1,14,none⟩ (F1 most)).setCell ⟨w.heap.size + 1,15,none⟩ (.int .i64 n) = WF at *
 have q_0:WF.cell? ⟨w.heap.size + 1,0,none⟩ = some (.slice (some ⟨G,0,none⟩) ns.length ns.length):=(arr_cell hf 0).trans rfl
 have q_1:WF.cell? ⟨w.heap.size + 1,1,none⟩ = some (F1 a):=(arr_cell hf 1).trans rfl
 have q_2:WF.cell? ⟨w.heap.size + 1,2,none⟩ = some (F1 b):=(arr_cell hf 2).trans rfl
 have q_3:WF.cell? ⟨w.heap.size + 1,3,none⟩ = some (F1 c):=(arr_cell hf 3).trans rfl
 have q_4:WF.cell? ⟨w.heap.size + 1,4,none⟩ = some (F1 d):=(arr_cell hf 4).trans rfl
 have q_5:WF.cell? ⟨w.heap.size + 1,5,none⟩ = some (F1 e):=(arr_cell hf 5).trans rfl
 have q_6:WF.cell? ⟨w.heap.size + 1,6,none⟩ = some (F1 f):=(arr_cell hf 6).trans rfl
 have q_7:WF.cell? ⟨w.heap.size + 1,7,none⟩ = some (F1 wd):=(arr_cell hf 7).trans rfl
 have q_8:WF.cell? ⟨w.heap.size + 1,8,none⟩ = some (.int .i64 nx):=(arr_cell hf 8).trans rfl
 have q_9:WF.cell? ⟨w.heap.size + 1,9,none⟩ = some (.int .i64 ny):=(arr_cell hf 9).trans rfl
 have q_10:WF.cell? ⟨w.heap.size + 1,10,none⟩ = some (F1 lx):=(arr_cell hf 10).trans rfl
 have q_11:WF.cell? ⟨w.heap.size + 1,11,none⟩ = some (F1 ly):=(arr_cell hf 11).trans rfl
 have q_12:WF.cell? ⟨w.heap.size + 1,12,none⟩ = some (F1 lz):=(arr_cell hf 12).trans rfl
 have q_13:WF.cell? ⟨w.heap.size + 1,13,none⟩ = some (F1 near):=(arr_cell hf 13).trans rfl
 have q_14:WF.cell? ⟨w.heap.size + 1,14,none⟩ = some (F1 most):=(arr_cell hf 14).trans rfl
 have q_15:WF.cell? ⟨w.heap.size + 1,15,none⟩ = some (.int .i64 n):=(arr_cell hf 15).trans rfl
 exact bodyPost_ret (v:=.agg #[.slice (some ⟨G,0,none⟩) ns.length ns.length,F1 a,F1 b,F1 c,F1 d,F1 e,F1 f,F1 wd,.int .i64 nx,.int .i64 ny,F1 lx,F1 ly,F1 lz,F1 near,F1 most,.int .i64 n]) (by simp [results,Tryz.results45,go_sem,q_0,q_1,q_2,q_3,q_4,q_5,q_6,q_7,q_8,q_9,q_10,q_11,q_12,q_13,q_14,q_15]) rfl ⟨G,rfl,fun i h => (hnew i h).fars hF2,by omega,Wf⟩

end Go.Proofs.YtbiacfkiakddiaaGreat
