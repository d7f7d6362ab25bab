/-
  Lemmas: V31,V35.
-/
import Derived.Test.YtdbpgblhnhdhoaaGreatKcd
set_option linter.unusedVariables false
set_option linter.unusedSimpArgs false
namespace Go.Proofs.YtdbpgblhnhdhoaaGreat
open Go.RowKit Go.Fl
set_option maxRecDepth 100000 in
set_option maxHeartbeats 1000000 in
theorem to_box (a b c d e f:Nat) (w:World) :
    Calls Tryz.prog 41 #[BoxV a b c d e f] w (fun e' w' => e' = .returned (BoxV a b c d e f) ∧ Below w.heap.size w w'):=by
  go_enter Tryz.func41,Tryz.ntmps41
  go_upto_region 2 with fail
  have W1b:Below w.heap.size w (((w.alloc (.cells #[.float .f32 a,.float .f32 b,.float .f32 c,.float .f32 d,.float .f32 e,.float .f32 f] 77)).alloc (.cells #[.float .f32 0,.float .f32 0,.float .f32 0,.float .f32 0,.float .f32 0,.float .f32 0] 83)).alloc (.cells #[.float .f32 0,.float .f32 0,.float .f32 0,.float .f32 0,.float .f32 0,.float .f32 0] 83)):=(by repeat' (first | exact Below.refl _ _ | exact Nat.le_refl _ | refine below_drewN ?_ _ | refine Below.alloc ?_ (by first | (simp;done) | (simp;omega)) _ | refine Below.setCell ?_ (by first | (simp;done) | (simp;omega)) _ | refine below_step ?_ (by assumption)))
  
  have hkept:Kept [(⟨w.heap.size,0,none⟩,.float .f32 a),(⟨w.heap.size,1,none⟩,.float .f32 b),(⟨w.heap.size,2,none⟩,.float .f32 c),(⟨w.heap.size,3,none⟩,.float .f32 d),(⟨w.heap.size,4,none⟩,.float .f32 e),(⟨w.heap.size,5,none⟩,.float .f32 f),(⟨w.heap.size + 1,0,none⟩,.float .f32 0),(⟨w.heap.size + 1,1,none⟩,.float .f32 0),(⟨w.heap.size + 1,2,none⟩,.float .f32 0),(⟨w.heap.size + 1,3,none⟩,.float .f32 0),(⟨w.heap.size + 1,4,none⟩,.float .f32 0),(⟨w.heap.size + 1,5,none⟩,.float .f32 0),(⟨w.heap.size + 1 + 1,0,none⟩,.float .f32 0),(⟨w.heap.size + 1 + 1,1,none⟩,.float .f32 0),(⟨w.heap.size + 1 + 1,2,none⟩,.float .f32 0),(⟨w.heap.size + 1 + 1,3,none⟩,.float .f32 0),(⟨w.heap.size + 1 + 1,4,none⟩,.float .f32 0),(⟨w.heap.size + 1 + 1,5,none⟩,.float .f32 0)] [⟨w.heap.size + 1,0,none⟩,⟨w.heap.size + 1,1,none⟩,⟨w.heap.size + 1,2,none⟩,⟨w.heap.size + 1,3,none⟩,⟨w.heap.size + 1,4,none⟩,⟨w.heap.size + 1,5,none⟩,⟨w.heap.size + 1 + 1,0,none⟩,⟨w.heap.size + 1 + 1,1,none⟩,⟨w.heap.size + 1 + 1,2,none⟩,⟨w.heap.size + 1 + 1,3,none⟩,⟨w.heap.size + 1 + 1,4,none⟩,⟨w.heap.size + 1 + 1,5,none⟩] (((w.alloc (.cells #[.float .f32 a,.float .f32 b,.float .f32 c,.float .f32 d,.float .f32 e,.float .f32 f] 77)).alloc (.cells #[.float .f32 0,.float .f32 0,.float .f32 0,.float .f32 0,.float .f32 0,.float .f32 0] 83)).alloc (.cells #[.float .f32 0,.float .f32 0,.float .f32 0,.float .f32 0,.float .f32 0,.float .f32 0] 83)):=by
    simp only [Kept,List.forall_mem_append,List.forall_mem_cons,List.not_mem_nil,false_implies,implies_true,and_true,true_and];(first | (go_simp;done) | (simp [World.cell?,World.frozen?,World.alloc,Array.getElem?_push];done))
  generalize ((w.alloc (.cells #[.float .f32 a,.float .f32 b,.float .f32 c,.float .f32 d,.float .f32 e,.float .f32 f] 77)).alloc (.cells #[.float .f32 0,.float .f32 0,.float .f32 0,.float .f32 0,.float .f32 0,.float .f32 0] 83)).alloc (.cells #[.float .f32 0,.float .f32 0,.float .f32 0,.float .f32 0,.float .f32 0,.float .f32 0] 83) = W1 at *
  have hK:=hkept;simp only [Kept,List.forall_mem_append,List.forall_mem_cons,List.not_mem_nil,false_implies,implies_true,and_true,true_and] at hK
  go_upto_region 3 with (go_at_call 16;refine (to_vector _ _ _ _).mono ?_;rintro _ w2 ⟨rfl,hb1⟩;have W2b:=below_step W1b hb1;have hkept:=keepT hkept hb1 rfl;clear hK;have hK:=hkept;simp only [Kept,List.forall_mem_append,List.forall_mem_cons,List.not_mem_nil,false_implies,implies_true,and_true,true_and] at hK)
  have W3b:Below w.heap.size w (((w2.setCell ⟨w.heap.size + 1 + 1,0,none⟩ (F1 a)).setCell ⟨w.heap.size + 1 + 1,1,none⟩ (F1 b)).setCell ⟨w.heap.size + 1 + 1,2,none⟩ (F1 c)):=((W2b.setCell (p:=⟨w.heap.size + 1 + 1,0,none⟩) (by show w.heap.size ≤ w.heap.size + 1 + 1;omega) _).setCell (p:=⟨w.heap.size + 1 + 1,1,none⟩) (by show w.heap.size ≤ w.heap.size + 1 + 1;omega) _).setCell (p:=⟨w.heap.size + 1 + 1,2,none⟩) (by show w.heap.size ≤ w.heap.size + 1 + 1;omega) _
  have hkept:Kept [(⟨w.heap.size,0,none⟩,F1 a),(⟨w.heap.size,1,none⟩,F1 b),(⟨w.heap.size,2,none⟩,F1 c),(⟨w.heap.size,3,none⟩,F1 d),(⟨w.heap.size,4,none⟩,F1 e),(⟨w.heap.size,5,none⟩,F1 f),(⟨w.heap.size + 1,0,none⟩,F1 0),(⟨w.heap.size + 1,1,none⟩,F1 0),(⟨w.heap.size + 1,2,none⟩,F1 0),(⟨w.heap.size + 1,3,none⟩,F1 0),(⟨w.heap.size + 1,4,none⟩,F1 0),(⟨w.heap.size + 1,5,none⟩,F1 0),(⟨w.heap.size + 1 + 1,0,none⟩,F1 a),(⟨w.heap.size + 1 + 1,1,none⟩,F1 b),(⟨w.heap.size + 1 + 1,2,none⟩,F1 c),(⟨w.heap.size + 1 + 1,3,none⟩,F1 0),(⟨w.heap.size + 1 + 1,4,none⟩,F1 0),(⟨w.heap.size + 1 + 1,5,none⟩,F1 0)] [⟨w.heap.size + 1,0,none⟩,⟨w.heap.size + 1,1,none⟩,⟨w.heap.size + 1,2,none⟩,⟨w.heap.size + 1,3,none⟩,⟨w.heap.size + 1,4,none⟩,⟨w.heap.size + 1,5,none⟩,⟨w.heap.size + 1 + 1,0,none⟩,⟨w.heap.size + 1 + 1,1,none⟩,⟨w.heap.size + 1 + 1,2,none⟩,⟨w.heap.size + 1 + 1,3,none⟩,⟨w.heap.size + 1 + 1,4,none⟩,⟨w.heap.size + 1 + 1,5,none⟩] (((w2.setCell ⟨w.heap.size + 1 + 1,0,none⟩ (F1 a)).setCell ⟨w.heap.size + 1 + 1,1,none⟩ (F1 b)).setCell ⟨w.heap.size + 1 + 1,2,none⟩ (F1 c)):=by
    simp only [Kept,List.forall_mem_append,List.forall_mem_cons,List.not_mem_nil,false_implies,implies_true,and_true,true_and];simp [hK,World.cell?_setCell_other,World.cell?_setCell_same',World.frozen?_setCell]
  generalize ((w2.setCell ⟨w.heap.size + 1 + 1,0,none⟩ (F1 a)).setCell ⟨w.heap.size + 1 + 1,1,none⟩ (F1 b)).setCell ⟨w.heap.size + 1 + 1,2,none⟩ (F1 c) = w3 at *
  clear hK hb1 W2b W1b
  have hK:=hkept;simp only [Kept,List.forall_mem_append,List.forall_mem_cons,List.not_mem_nil,false_implies,implies_true,and_true,true_and] at hK
  go_upto_region 4 with (go_at_call 16;refine (to_vector _ _ _ _).mono ?_;rintro _ w4 ⟨rfl,hb1⟩;have W4b:=below_step W3b hb1;have hkept:=keepT hkept hb1 rfl;clear hK;have hK:=hkept;simp only [Kept,List.forall_mem_append,List.forall_mem_cons,List.not_mem_nil,false_implies,implies_true,and_true,true_and] at hK)
  have W5b:Below w.heap.size w (((w4.setCell ⟨w.heap.size + 1 + 1,3,none⟩ (F1 d)).setCell ⟨w.heap.size + 1 + 1,4,none⟩ (F1 e)).setCell ⟨w.heap.size + 1 + 1,5,none⟩ (F1 f)):=((W4b.setCell (p:=⟨w.heap.size + 1 + 1,3,none⟩) (by show w.heap.size ≤ w.heap.size + 1 + 1;omega) _).setCell (p:=⟨w.heap.size + 1 + 1,4,none⟩) (by show w.heap.size ≤ w.heap.size + 1 + 1;omega) _).setCell (p:=⟨w.heap.size + 1 + 1,5,none⟩) (by show w.heap.size ≤ w.heap.size + 1 + 1;omega) _
  have hkept:Kept [(⟨w.heap.size + 1,0,none⟩,F1 0),(⟨w.heap.size + 1,1,none⟩,F1 0),(⟨w.heap.size + 1,2,none⟩,F1 0),(⟨w.heap.size + 1,3,none⟩,F1 0),(⟨w.heap.size + 1,4,none⟩,F1 0),(⟨w.heap.size + 1,5,none⟩,F1 0),(⟨w.heap.size + 1 + 1,0,none⟩,F1 a),(⟨w.heap.size + 1 + 1,1,none⟩,F1 b),(⟨w.heap.size + 1 + 1,2,none⟩,F1 c),(⟨w.heap.size + 1 + 1,3,none⟩,F1 d),(⟨w.heap.size + 1 + 1,4,none⟩,F1 e),(⟨w.heap.size + 1 + 1,5,none⟩,F1 f)] [⟨w.heap.size + 1,0,none⟩,⟨w.heap.size + 1,1,none⟩,⟨w.heap.size + 1,2,none⟩,⟨w.heap.size + 1,3,none⟩,⟨w.heap.size + 1,4,none⟩,⟨w.heap.size + 1,5,none⟩] (((w4.setCell ⟨w.heap.size + 1 + 1,3,none⟩ (F1 d)).setCell ⟨w.heap.size + 1 + 1,4,none⟩ (F1 e)).setCell ⟨w.heap.size + 1 + 1,5,none⟩ (F1 f)):=by
    simp only [Kept,List.forall_mem_append,List.forall_mem_cons,List.not_mem_nil,false_implies,implies_true,and_true,true_and];simp [hK,World.cell?_setCell_other,World.cell?_setCell_same',World.frozen?_setCell]
  generalize ((w4.setCell ⟨w.heap.size + 1 + 1,3,none⟩ (F1 d)).setCell ⟨w.heap.size + 1 + 1,4,none⟩ (F1 e)).setCell ⟨w.heap.size + 1 + 1,5,none⟩ (F1 f) = w5 at *
  clear hK hb1 W4b W3b
  have hK:=hkept;simp only [Kept,List.forall_mem_append,List.forall_mem_cons,List.not_mem_nil,false_implies,implies_true,and_true,true_and] at hK
  go_wp2_with fail
  exact bodyPost_ret (v:=BoxV a b c d e f) (by simp [results,Tryz.results41,go_sem,hK,World.cell?_setCell_other,World.cell?_setCell_same']) rfl ⟨rfl,bel6 W5b (by omega) ..⟩

theorem rg_eq {u v a b:Nat} (h1:cn .f64 u = wid (cn .f32 a)) (h2:cn .f64 v = wid (cn .f32 b)) (h:cn .f32 a = cn .f32 b):cn .f64 u = cn .f64 v:=by rw [h1,h2,h]

set_option maxRecDepth 100000 in
set_option maxHeartbeats 1000000 in
theorem eq_range (x y x' y':Nat) (e1:cn .f32 x = cn .f32 x') (e2:cn .f32 y = cn .f32 y') (w:World) :
    Calls Tryz.prog 43 #[RgV x y,RgV x' y'] w (fun e w' => e = .returned (.bool true) ∧ Below w.heap.size w w'):=by
  go_enter Tryz.func43,Tryz.ntmps43
  go_upto_region 1 with fail
  have W1b:Below w.heap.size w ((w.alloc (.cells #[.float .f32 x,.float .f32 y] 79)).alloc (.cells #[.float .f32 x',.float .f32 y'] 79)):=(by repeat' (first | exact Below.refl _ _ | exact Nat.le_refl _ | refine below_drewN ?_ _ | refine Below.alloc ?_ (by first | (simp;done) | (simp;omega)) _ | refine Below.setCell ?_ (by first | (simp;done) | (simp;omega)) _ | refine below_step ?_ (by assumption)))
  
  have hkept:Kept [(⟨w.heap.size,0,none⟩,.float .f32 x),(⟨w.heap.size,1,none⟩,.float .f32 y),(⟨w.heap.size + 1,0,none⟩,.float .f32 x'),(⟨w.heap.size + 1,1,none⟩,.float .f32 y')] [] ((w.alloc (.cells #[.float .f32 x,.float .f32 y] 79)).alloc (.cells #[.float .f32 x',.float .f32 y'] 79)):=by
    simp only [Kept,List.forall_mem_append,List.forall_mem_cons,List.not_mem_nil,false_implies,implies_true,and_true,true_and];(first | (go_simp;done) | (simp [World.cell?,World.frozen?,World.alloc,Array.getElem?_push];done))
  generalize (w.alloc (.cells #[.float .f32 x,.float .f32 y] 79)).alloc (.cells #[.float .f32 x',.float .f32 y'] 79) = W1 at *
  have hK:=hkept;simp only [Kept,List.forall_mem_append,List.forall_mem_cons,List.not_mem_nil,false_implies,implies_true,and_true,true_and] at hK
  go_wp2_with (first
    | (refine wp_wid rfl _ _ _ rfl _ rfl ?_ ?_ fitsW_all ?_;exact some_f32;exact Tryz.underlying38;intro r n hr)
    | (go_at_call 18;refine (same_float _ _ (rg_eq (by assumption) (by assumption) (by first | exact e1 | exact e2)) _).mono ?_;rintro _ w6 ⟨rfl,hb1⟩;have hkept:=keepT hkept hb1 rfl;clear hK;have hK:=hkept;simp only [Kept,List.forall_mem_append,List.forall_mem_cons,List.not_mem_nil,false_implies,implies_true,and_true,true_and] at hK))
  go_ret
  exact ⟨rfl,(by repeat' (first | exact Below.refl _ _ | exact Nat.le_refl _ | refine Below.drew ?_ | refine below_drewN ?_ _ | refine Below.alloc ?_ (by first | (simp;done) | (simp;omega)) _ | refine Below.setCell ?_ (by first | (simp;done) | (simp;omega)) _ | refine below_step ?_ (by assumption)))⟩
end Go.Proofs.YtdbpgblhnhdhoaaGreat

namespace Go.Proofs.YtdbpgblhnhdhoaaGreat
open Go.RowKit Go.Fl
def rangeOk (v:Bool) (l h:Nat × Nat × Nat):Bool:=v && boxP l h
/-- A range and whether it is right come back. -/
def RetRi (ok:Bool) (R:Nat × Nat) (w:World) (e:Ending) (w':World):Prop:=∃ l h,e = .returned (.tuple #[RgV l h,.bool ok]) ∧ (cn .f32 l,cn .f32 h) = (if ok then R else (0,0)) ∧ Below w.heap.size w w'
theorem retRi_no {ok:Bool} {R:Nat × Nat} {w w':World} (h:ok = false) (hb:Below w.heap.size w w'):RetRi ok R w (.returned (.tuple #[RgV 0 0,.bool false])) w':=⟨0,0,by rw [h],by rw [h,cn_zero];rfl,hb⟩
def topR (L:List (Nat × Nat)) (n:Nat):Nat × Nat:=L.getD (n - 1) (0,0)


set_option maxRecDepth 100000 in
set_option maxHeartbeats 4000000 in
theorem rangein_any (ns:List PN) (hnum:∀ n ∈ ns,n.nums.length < 10000000) (nb no cap a b c d e f:Nat) (bp:Option Addr) (w:World) (hbp:ns ≠ [] → bp = some ⟨nb,no,none⟩) (hsh:∀ i (h:i < ns.length),NodeIn ns[i] nb (no + i * 4) w) (hlen:ns.length < 10000000) :
    Calls Tryz.prog 42 #[.agg #[.slice bp ns.length cap],BoxV a b c d e f] w (RetRi (rangeOk (validF ns) (cn .f32 a,cn .f32 b,cn .f32 c) (cn .f32 d,cn .f32 e,cn .f32 f)) (topR (rangesF ns ((cn .f32 a,cn .f32 d),(cn .f32 b,cn .f32 e),(cn .f32 c,cn .f32 f))) ns.length) w):=by
  obtain ⟨ok,hOk⟩:∃ ok,Hid (ok = rangeOk (validF ns) (cn .f32 a,cn .f32 b,cn .f32 c) (cn .f32 d,cn .f32 e,cn .f32 f)):=⟨_,rfl⟩
  rw [← hOk.out]
  go_enter Tryz.func42,Tryz.ntmps42
  go_upto_region 1 with fail
  have W1b:Below w.heap.size w (((w.alloc (.cells #[.slice bp ns.length cap] 33)).alloc (.cells #[.float .f32 a,.float .f32 b,.float .f32 c,.float .f32 d,.float .f32 e,.float .f32 f] 83)).alloc (.cells #[.float .f32 0,.float .f32 0] 79)):=(by repeat' (first | exact Below.refl _ _ | exact Nat.le_refl _ | refine below_drewN ?_ _ | refine Below.alloc ?_ (by first | (simp;done) | (simp;omega)) _ | refine Below.setCell ?_ (by first | (simp;done) | (simp;omega)) _ | refine below_step ?_ (by assumption)))
  
  have hkept:Kept [(⟨w.heap.size,0,none⟩,.slice bp ns.length cap),(⟨w.heap.size + 1,0,none⟩,.float .f32 a),(⟨w.heap.size + 1,1,none⟩,.float .f32 b),(⟨w.heap.size + 1,2,none⟩,.float .f32 c),(⟨w.heap.size + 1,3,none⟩,.float .f32 d),(⟨w.heap.size + 1,4,none⟩,.float .f32 e),(⟨w.heap.size + 1,5,none⟩,.float .f32 f),(⟨w.heap.size + 1 + 1,0,none⟩,.float .f32 0),(⟨w.heap.size + 1 + 1,1,none⟩,.float .f32 0)] [⟨w.heap.size + 1 + 1,0,none⟩,⟨w.heap.size + 1 + 1,1,none⟩] (((w.alloc (.cells #[.slice bp ns.length cap] 33)).alloc (.cells #[.float .f32 a,.float .f32 b,.float .f32 c,.float .f32 d,.float .f32 e,.float .f32 f] 83)).alloc (.cells #[.float .f32 0,.float .f32 0] 79)):=by
    simp only [Kept,List.forall_mem_append,List.forall_mem_cons,List.not_mem_nil,false_implies,implies_true,and_true,true_and];(first | (go_simp;done) | (simp [World.cell?,World.frozen?,World.alloc,Array.getElem?_push];done))
  generalize ((w.alloc (.cells #[.slice bp ns.length cap] 33)).alloc (.cells #[.float .f32 a,.float .f32 b,.float .f32 c,.float .f32 d,.float .f32 e,.float .f32 f] 83)).alloc (.cells #[.float .f32 0,.float .f32 0] 79) = W1 at *
  have hv:=valid_any ns hnum nb no cap bp W1 hbp (fun i h => (hsh i h).keep W1b) hlen
  have hK:=hkept;simp only [Kept,List.forall_mem_append,List.forall_mem_cons,List.not_mem_nil,false_implies,implies_true,and_true,true_and] at hK
  cases hval:validF ns
  · have hno:Hid (ok = false):=by unfold Hid;rw [hOk.out,hval];rfl
    go_wp2_with (go_at_call 65;refine hv.mono ?_;rintro _ w2 ⟨rfl,hb1⟩;have W1b:=below_step W1b hb1;have hkept:=keepT hkept hb1 rfl;clear hK;have hK:=hkept;simp only [Kept,List.forall_mem_append,List.forall_mem_cons,List.not_mem_nil,false_implies,implies_true,and_true,true_and] at hK;rw [hval])
    exact bodyPost_ret (v:=.tuple #[RgV 0 0,.bool false]) (by simp [results,Tryz.results42,go_sem,hK,World.cell?_setCell_other,World.cell?_setCell_same'];first | done | exact ⟨rfl,rfl⟩) rfl (retRi_no hno.out (bel2 W1b (by omega) ..))
  cases hbx:boxP (cn .f32 a,cn .f32 b,cn .f32 c) (cn .f32 d,cn .f32 e,cn .f32 f)
  · have hno:Hid (ok = false):=by unfold Hid;rw [hOk.out,hval];unfold rangeOk;rw [hbx];rfl
    go_wp2_with (first | (go_at_call 65;refine hv.mono ?_;rintro _ w2 ⟨rfl,hb1⟩;have W1b:=below_step W1b hb1;have hkept:=keepT hkept hb1 rfl;clear hK;have hK:=hkept;simp only [Kept,List.forall_mem_append,List.forall_mem_cons,List.not_mem_nil,false_implies,implies_true,and_true,true_and] at hK;rw [hval]) | (go_at_call 91;refine (box_any _ _ _ _ _ _ _).mono ?_;rintro _ w3 ⟨rfl,hb1⟩;have W1b:=below_step W1b hb1;have hkept:=keepT hkept hb1 rfl;clear hK;have hK:=hkept;simp only [Kept,List.forall_mem_append,List.forall_mem_cons,List.not_mem_nil,false_implies,implies_true,and_true,true_and] at hK;rw [hbx]))
    exact bodyPost_ret (v:=.tuple #[RgV 0 0,.bool false]) (by simp [results,Tryz.results42,go_sem,hK,World.cell?_setCell_other,World.cell?_setCell_same'];first | done | exact ⟨rfl,rfl⟩) rfl (retRi_no hno.out (bel2 W1b (by omega) ..))
  have hyes:Hid (ok = true):=by unfold Hid;rw [hOk.out,hval];unfold rangeOk;rw [hbx];rfl
  obtain ⟨hl,hok⟩:=valid_ok hval
  have hne:ns ≠ []:=by intro h;rw [h] at hl;simp at hl
  have hb:=hbp hne
  subst hb
  go_upto_region 3 with (first | (go_at_call 65;refine hv.mono ?_;rintro _ w2 ⟨rfl,hb1⟩;have W1b:=below_step W1b hb1;have hkept:=keepT hkept hb1 rfl;clear hK;have hK:=hkept;simp only [Kept,List.forall_mem_append,List.forall_mem_cons,List.not_mem_nil,false_implies,implies_true,and_true,true_and] at hK;rw [hval]) | (go_at_call 91;refine (box_any _ _ _ _ _ _ _).mono ?_;rintro _ w3 ⟨rfl,hb1⟩;have W1b:=below_step W1b hb1;have hkept:=keepT hkept hb1 rfl;clear hK;have hK:=hkept;simp only [Kept,List.forall_mem_append,List.forall_mem_cons,List.not_mem_nil,false_implies,implies_true,and_true,true_and] at hK;rw [hbx]))
  have hr0:(0:Int) ≤ (ns.length:Int) - 1:=by omega
  have hr3:((ns.length:Int) - 1).toNat = ns.length - 1:=by omega
  have hr4:(ns.length:Int) - 1 < (ns.length:Int):=by omega
  have hsh2:ShapeIn ns w.heap.size 0 nb no cap w3:=⟨by simp [hK],fun i h => (hsh i h).keep W1b⟩
  have hra:=ranges_any ns hok hl w.heap.size 0 nb no cap a b c d e f w3 hsh2
  clear hv hsh hbp
  go_wp2_with (first
    | (go_at_call 92;refine hra.mono ?_;rintro _ w4 ⟨g,O,rfl,hpb,hO,hg,hb1⟩;have hgw:w.heap.size ≤ g:=Nat.le_trans W1b.size hg;have W1b:=below_step W1b hb1;have hsh2:=hsh2.keep hb1;have hkept:=keepT hkept hb1 rfl;clear hK;have hK:=hkept;simp only [Kept,List.forall_mem_append,List.forall_mem_cons,List.not_mem_nil,false_implies,implies_true,and_true,true_and] at hK;obtain ⟨q0,q1⟩:=vec2_at hpb (ns.length - 1) (by omega))
    | (go_at_call 93;refine (last_any w.heap.size 0 _ _ _ _ hsh2.list).mono ?_;rintro _ _ ⟨rfl,rfl⟩;rw [last_len ⟨hl.1,by omega⟩]))
  exact bodyPost_ret (v:=.tuple #[RgV (O (ns.length - 1)).1 (O (ns.length - 1)).2,.bool true]) (by simp [results,Tryz.results42,go_sem,hK,World.cell?_setCell_other,World.cell?_setCell_same'];first | done | exact ⟨rfl,rfl⟩) rfl ⟨_,_,by rw [hyes.out],by rw [hyes.out];exact hO (ns.length - 1) (by omega),bel2 W1b (by omega) ..⟩
end Go.Proofs.YtdbpgblhnhdhoaaGreat
