/-
 Lemmas: V31,U2,U3,U5.
-/
import Derived.Test.YtbiacfkiakddiaaGreatKcc
set_option linter.unusedVariables false
set_option linter.unusedSimpArgs false
namespace Go.Proofs.YtbiacfkiakddiaaGreat
open Go.RowKit Go.Fl
set_option maxRecDepth 100000 in
set_option maxHeartbeats 1000000 in
theorem to_box (a b c d e f:Nat) (w:World) :
  Calls Tryz.prog 16 #[BoxV a b c d e f] w (fun e' w' => e' = .returned (BoxV a b c d e f) ∧ Below w.heap.size w w'):=by
 go_enter Tryz.func16,Tryz.ntmps16
 go_upto_region 2 with fail
 have W1b:Below w.heap.size w (((w.alloc (.cells #[.float .f32 a,.float .f32 b,.float .f32 c,.float .f32 d,.float .f32 e,.float .f32 f] 29)).alloc (.cells #[.float .f32 0,.float .f32 0,.float .f32 0,.float .f32 0,.float .f32 0,.float .f32 0] 40)).alloc (.cells #[.float .f32 0,.float .f32 0,.float .f32 0,.float .f32 0,.float .f32 0,.float .f32 0] 40)):=(by repeat' (first | exact Below.refl _ _ | exact Nat.le_refl _ | refine below_drewN ?_ _ | refine Below.alloc ?_ (by first | (simp;done) | (simp;omega)) _ | refine Below.setCell ?_ (by first | (simp;done) | (simp;omega)) _ | refine below_step ?_ (by assumption)))
 
 have hkept:Kept [(⟨w.heap.size,0,none⟩,.float .f32 a),(⟨w.heap.size,1,none⟩,.float .f32 b),(⟨w.heap.size,2,none⟩,.float .f32 c),(⟨w.heap.size,3,none⟩,.float .f32 d),(⟨w.heap.size,4,none⟩,.float .f32 e),(⟨w.heap.size,5,none⟩,.float .f32 f),(⟨w.heap.size + 1,0,none⟩,.float .f32 0),(⟨w.heap.size + 1,1,none⟩,.float .f32 0),(⟨w.heap.size + 1,2,none⟩,.float .f32 0),(⟨w.heap.size + 1,3,none⟩,.float .f32 0),(⟨w.heap.size + 1,4,none⟩,.float .f32 0),(⟨w.heap.size + 1,5,none⟩,.float .f32 0),(⟨w.heap.size + 1 + 1,0,none⟩,.float .f32 0),(⟨w.heap.size + 1 + 1,1,none⟩,.float .f32 0),(⟨w.heap.size + 1 + 1,2,none⟩,.float .f32 0),(⟨w.heap.size + 1 + 1,3,none⟩,.float .f32 0),(⟨w.heap.size + 1 + 1,4,none⟩,.float .f32 0),(⟨w.heap.size + 1 + 1,5,none⟩,.float .f32 0)] [⟨w.heap.size + 1,0,none⟩,⟨w.heap.size + 1,1,none⟩,⟨w.heap.size + 1,2,none⟩,⟨w.heap.size + 1,3,none⟩,⟨w.heap.size + 1,4,none⟩,⟨w.heap.size + 1,5,none⟩,⟨w.heap.size + 1 + 1,0,none⟩,⟨w.heap.size + 1 + 1,1,none⟩,⟨w.heap.size + 1 + 1,2,none⟩,⟨w.heap.size + 1 + 1,3,none⟩,⟨w.heap.size + 1 + 1,4,none⟩,⟨w.heap.size + 1 + 1,5,none⟩] (((w.alloc (.cells #[.float .f32 a,.float .f32 b,.float .f32 c,.float .f32 d,.float .f32 e,.float .f32 f] 29)).alloc (.cells #[.float .f32 0,.float .f32 0,.float .f32 0,.float .f32 0,.float .f32 0,.float .f32 0] 40)).alloc (.cells #[.float .f32 0,.float .f32 0,.float .f32 0,.float .f32 0,.float .f32 0,.float .f32 0] 40)):=by
  simp only [Kept,ka,kb,kc,kd,ke,and_true,true_and];(first | (go_simp;done) | (simp [World.cell?,World.frozen?,World.alloc,Array.getElem?_push];done))
 generalize ((w.alloc (.cells #[.float .f32 a,.float .f32 b,.float .f32 c,.float .f32 d,.float .f32 e,.float .f32 f] 29)).alloc (.cells #[.float .f32 0,.float .f32 0,.float .f32 0,.float .f32 0,.float .f32 0,.float .f32 0] 40)).alloc (.cells #[.float .f32 0,.float .f32 0,.float .f32 0,.float .f32 0,.float .f32 0,.float .f32 0] 40) = W1 at *
 have hK:=hkept;simp only [Kept,ka,kb,kc,kd,ke,and_true,true_and] at hK
 go_upto_region 3 with (go_at_call 64;refine (to_vector _ _ _ _).mono ?_;rintro _ w2 ⟨rfl,hb1⟩;have W2b:=below_step W1b hb1;have hkept:=keepT hkept hb1 rfl;clear hK;have hK:=hkept;simp only [Kept,ka,kb,kc,kd,ke,and_true,true_and] at hK)
 have W3b:Below w.heap.size w (((w2.setCell ⟨w.heap.size + 1 + 1,0,none⟩ (F1 a)).setCell ⟨w.heap.size + 1 + 1,1,none⟩ (F1 b)).setCell ⟨w.heap.size + 1 + 1,2,none⟩ (F1 c)):=((W2b.setCell (p:=⟨w.heap.size + 1 + 1,0,none⟩) (by show w.heap.size ≤ w.heap.size + 1 + 1;omega) _).setCell (p:=⟨w.heap.size + 1 + 1,1,none⟩) (by show w.heap.size ≤ w.heap.size + 1 + 1;omega) _).setCell (p:=⟨w.heap.size + 1 + 1,2,none⟩) (by show w.heap.size ≤ w.heap.size + 1 + 1;omega) _
 have hkept:Kept [(⟨w.heap.size,0,none⟩,F1 a),(⟨w.heap.size,1,none⟩,F1 b),(⟨w.heap.size,2,none⟩,F1 c),(⟨w.heap.size,3,none⟩,F1 d),(⟨w.heap.size,4,none⟩,F1 e),(⟨w.heap.size,5,none⟩,F1 f),(⟨w.heap.size + 1,0,none⟩,F1 0),(⟨w.heap.size + 1,1,none⟩,F1 0),(⟨w.heap.size + 1,2,none⟩,F1 0),(⟨w.heap.size + 1,3,none⟩,F1 0),(⟨w.heap.size + 1,4,none⟩,F1 0),(⟨w.heap.size + 1,5,none⟩,F1 0),(⟨w.heap.size + 1 + 1,0,none⟩,F1 a),(⟨w.heap.size + 1 + 1,1,none⟩,F1 b),(⟨w.heap.size + 1 + 1,2,none⟩,F1 c),(⟨w.heap.size + 1 + 1,3,none⟩,F1 0),(⟨w.heap.size + 1 + 1,4,none⟩,F1 0),(⟨w.heap.size + 1 + 1,5,none⟩,F1 0)] [⟨w.heap.size + 1,0,none⟩,⟨w.heap.size + 1,1,none⟩,⟨w.heap.size + 1,2,none⟩,⟨w.heap.size + 1,3,none⟩,⟨w.heap.size + 1,4,none⟩,⟨w.heap.size + 1,5,none⟩,⟨w.heap.size + 1 + 1,0,none⟩,⟨w.heap.size + 1 + 1,1,none⟩,⟨w.heap.size + 1 + 1,2,none⟩,⟨w.heap.size + 1 + 1,3,none⟩,⟨w.heap.size + 1 + 1,4,none⟩,⟨w.heap.size + 1 + 1,5,none⟩] (((w2.setCell ⟨w.heap.size + 1 + 1,0,none⟩ (F1 a)).setCell ⟨w.heap.size + 1 + 1,1,none⟩ (F1 b)).setCell ⟨w.heap.size + 1 + 1,2,none⟩ (F1 c)):=by
  simp only [Kept,ka,kb,kc,kd,ke,and_true,true_and];simp [hK,World.cell?_setCell_other,World.cell?_setCell_same',World.frozen?_setCell]
 generalize ((w2.setCell ⟨w.heap.size + 1 + 1,0,none⟩ (F1 a)).setCell ⟨w.heap.size + 1 + 1,1,none⟩ (F1 b)).setCell ⟨w.heap.size + 1 + 1,2,none⟩ (F1 c) = w3 at *
 clear hK hb1 W2b W1b
 have hK:=hkept;simp only [Kept,ka,kb,kc,kd,ke,and_true,true_and] at hK
 go_upto_region 4 with (go_at_call 64;refine (to_vector _ _ _ _).mono ?_;rintro _ w4 ⟨rfl,hb1⟩;have W4b:=below_step W3b hb1;have hkept:=keepT hkept hb1 rfl;clear hK;have hK:=hkept;simp only [Kept,ka,kb,kc,kd,ke,and_true,true_and] at hK)
 have W5b:Below w.heap.size w (((w4.setCell ⟨w.heap.size + 1 + 1,3,none⟩ (F1 d)).setCell ⟨w.heap.size + 1 + 1,4,none⟩ (F1 e)).setCell ⟨w.heap.size + 1 + 1,5,none⟩ (F1 f)):=((W4b.setCell (p:=⟨w.heap.size + 1 + 1,3,none⟩) (by show w.heap.size ≤ w.heap.size + 1 + 1;omega) _).setCell (p:=⟨w.heap.size + 1 + 1,4,none⟩) (by show w.heap.size ≤ w.heap.size + 1 + 1;omega) _).setCell (p:=⟨w.heap.size + 1 + 1,5,none⟩) (by show w.heap.size ≤ w.heap.size + 1 + 1;omega) _
 have hkept:Kept [(⟨w.heap.size + 1,0,none⟩,F1 0),(⟨w.heap.size + 1,1,none⟩,F1 0),(⟨w.heap.size + 1,2,none⟩,F1 0),(⟨w.heap.size + 1,3,none⟩,F1 0),(⟨w.heap.size + 1,4,none⟩,F1 0),(⟨w.heap.size + 1,5,none⟩,F1 0),(⟨w.heap.size + 1 + 1,0,none⟩,F1 a),(⟨w.heap.size + 1 + 1,1,none⟩,F1 b),(⟨w.heap.size + 1 + 1,2,none⟩,F1 c),(⟨w.heap.size + 1 + 1,3,none⟩,F1 d),(⟨w.heap.size + 1 + 1,4,none⟩,F1 e),(⟨w.heap.size + 1 + 1,5,none⟩,F1 f)] [⟨w.heap.size + 1,0,none⟩,⟨w.heap.size + 1,1,none⟩,⟨w.heap.size + 1,2,none⟩,⟨w.heap.size + 1,3,none⟩,⟨w.heap.size + 1,4,none⟩,⟨w.heap.size + 1,5,none⟩] (((w4.setCell ⟨w.heap.size + 1 + 1,3,none⟩ (F1 d)).setCell ⟨w.heap.size + 1 + 1,4,none⟩ (F1 e)).setCell ⟨w.heap.size + 1 + 1,5,none⟩ (F1 f)):=by
  simp only [Kept,ka,kb,kc,kd,ke,and_true,true_and];simp [hK,World.cell?_setCell_other,World.cell?_setCell_same',World.frozen?_setCell]
 generalize ((w4.setCell ⟨w.heap.size + 1 + 1,3,none⟩ (F1 d)).setCell ⟨w.heap.size + 1 + 1,4,none⟩ (F1 e)).setCell ⟨w.heap.size + 1 + 1,5,none⟩ (F1 f) = w5 at *
 clear hK hb1 W4b W3b
 have hK:=hkept;simp only [Kept,ka,kb,kc,kd,ke,and_true,true_and] at hK
 go_wp2_with fail
 exact bodyPost_ret (v:=BoxV a b c d e f) (by simp [results,Tryz.results16,go_sem,hK,World.cell?_setCell_other,World.cell?_setCell_same']) rfl ⟨rfl,bel6 W5b (by omega) ..⟩

theorem rg_eq {u v a b:Nat} (h1:cn .f64 u = wid (cn .f32 a)) (h2:cn .f64 v = wid (cn .f32 b)) (h:cn .f32 a = cn .f32 b):cn .f64 u = cn .f64 v:=by rw [h1,h2,h]

set_option maxRecDepth 100000 in
set_option maxHeartbeats 1000000 in
theorem eq_range (x y x' y':Nat) (e1:cn .f32 x = cn .f32 x') (e2:cn .f32 y = cn .f32 y') (w:World) :
  Calls Tryz.prog 68 #[RgV x y,RgV x' y'] w (fun e w' => e = .returned (.bool true) ∧ Below w.heap.size w w'):=by
 go_enter Tryz.func68,Tryz.ntmps68
 go_upto_region 1 with fail
 have W1b:Below w.heap.size w ((w.alloc (.cells #[.float .f32 x,.float .f32 y] 118)).alloc (.cells #[.float .f32 x',.float .f32 y'] 118)):=(by repeat' (first | exact Below.refl _ _ | exact Nat.le_refl _ | refine below_drewN ?_ _ | refine Below.alloc ?_ (by first | (simp;done) | (simp;omega)) _ | refine Below.setCell ?_ (by first | (simp;done) | (simp;omega)) _ | refine below_step ?_ (by assumption)))
 
 have hkept:Kept [(⟨w.heap.size,0,none⟩,.float .f32 x),(⟨w.heap.size,1,none⟩,.float .f32 y),(⟨w.heap.size + 1,0,none⟩,.float .f32 x'),(⟨w.heap.size + 1,1,none⟩,.float .f32 y')] [] ((w.alloc (.cells #[.float .f32 x,.float .f32 y] 118)).alloc (.cells #[.float .f32 x',.float .f32 y'] 118)):=by
  simp only [Kept,ka,kb,kc,kd,ke,and_true,true_and];(first | (go_simp;done) | (simp [World.cell?,World.frozen?,World.alloc,Array.getElem?_push];done))
 generalize (w.alloc (.cells #[.float .f32 x,.float .f32 y] 118)).alloc (.cells #[.float .f32 x',.float .f32 y'] 118) = W1 at *
 have hK:=hkept;simp only [Kept,ka,kb,kc,kd,ke,and_true,true_and] at hK
 go_wp2_with (first
  | (refine wp_wid rfl _ _ _ rfl _ rfl ?_ ?_ fitsW_all ?_;exact some_f32;exact Tryz.underlying89;intro r n hr)
  | (go_at_call 47;refine (same_float _ _ (rg_eq (by assumption) (by assumption) (by first | exact e1 | exact e2)) _).mono ?_;rintro _ w6 ⟨rfl,hb1⟩;have hkept:=keepT hkept hb1 rfl;clear hK;have hK:=hkept;simp only [Kept,ka,kb,kc,kd,ke,and_true,true_and] at hK))
 go_ret
 exact ⟨rfl,(by repeat' (first | exact Below.refl _ _ | exact Nat.le_refl _ | refine Below.drew ?_ | refine below_drewN ?_ _ | refine Below.alloc ?_ (by first | (simp;done) | (simp;omega)) _ | refine Below.setCell ?_ (by first | (simp;done) | (simp;omega)) _ | refine below_step ?_ (by assumption)))⟩
end Go.Proofs.YtbiacfkiakddiaaGreat

namespace Go.Proofs.YtbiacfkiakddiaaGreat
open Go.RowKit Go.Fl
/-- Ranges in memory,two cells each. -/
def RgAt (n:Nat) (g:Nat) (A:Nat → Nat × Nat) (w:World):Prop:=∀ i,i < n → w.cell? ⟨g,i * 2,none⟩ = some (F1 (A i).1) ∧ w.cell? ⟨g,i * 2 + 1,none⟩ = some (F1 (A i).2)
theorem RgAt.keep {n g:Nat} {A:Nat → Nat × Nat} {w w':World} (h:RgAt n g A w) (hb:Below w.heap.size w w'):RgAt n g A w':=fun i hi => by
 obtain ⟨h1,h2⟩:=h i hi
 exact ⟨by rw [lift hb _ (by rw [h1];rfl)];exact h1,by rw [lift hb _ (by rw [h2];rfl)];exact h2⟩


set_option maxRecDepth 100000 in
set_option maxHeartbeats 2000000 in
theorem eq_ranges (n:Nat) (hn:n ≤ 1000000) (G H gc hc:Nat) (A B:Nat → Nat × Nat) (hAB:∀ i,i < n → cn2 (A i) = cn2 (B i)) (w:World) (h1:RgAt n G A w) (h2:RgAt n H B w) :
  Calls Tryz.prog 18 #[.slice (some ⟨G,0,none⟩) n gc,.slice (some ⟨H,0,none⟩) n hc] w (fun e w' => e = .returned (.bool true) ∧ Below w.heap.size w w'):=by
 have hnI:(n:Int) ≤ 9223372036854775807:=by omega
 go_enter Tryz.func18,Tryz.ntmps18
 go_wp2_with fail
 go_loopw [5] (fun i wr => ∃ (m:Nat),m ≤ n ∧ i = .int .i64 (m:Int) ∧ Below w.heap.size w wr) (fun i _ => n - (intOf i).toNat)
 case atStart => exact ⟨0,by omega,rfl,Below.refl _ _⟩
 case round =>
  obtain ⟨m,hm,rfl,Wb⟩:=hrel
  by_cases hlt:m < n
  ·have hlt':(m:Int) < (n:Int):=by omega
   have h0:(0:Int) ≤ (m:Int):=by omega
   obtain ⟨a0,a1⟩:=(h1.keep Wb) m hlt
   obtain ⟨b0,b1⟩:=(h2.keep Wb) m hlt
   have hab:=hAB m hlt
   obtain ⟨e0,e1⟩:=Prod.mk.injEq .. ▸ hab
   have hkept:Kept [(⟨G,m * 2,none⟩,F1 (A m).1),(⟨G,m * 2 + 1,none⟩,F1 (A m).2),(⟨H,m * 2,none⟩,F1 (B m).1),(⟨H,m * 2 + 1,none⟩,F1 (B m).2)] [] wr:=kcons a0 (kcons a1 (kcons b0 (kcons b1 knil)))
   clear h1 h2 a0 a1 b0 b1 hab hAB
   generalize (A m).1 = x at *
   generalize (A m).2 = y at *
   generalize (B m).1 = x' at *
   generalize (B m).2 = y' at *
   have hcall:∀ w',Below wr.heap.size wr w' → Calls Tryz.prog 68 #[RgV x y,RgV x' y'] w' (fun e w'' => e = .returned (.bool true) ∧ Below w'.heap.size w' w''):=fun w' _ => eq_range x y x' y' e0 e1 w'
   clear e0 e1
   go_upto_region 6 with fail
   refine Qr.wp_below_all (by kernel_rfl) (by kernel_rfl) PhiE ?_
   repeat (first | (refine Qr.walk_plain rfl fun K hK => ?_;apply Qr.one_det;(focus (intro w' hw';have HK:=keep hkept hw';simp only [Kept,ka,kb,kc,kd,ke,and_true,true_and] at HK;go_simp;first | done | rfl));go_simp;refine hK _ ?_;clear hK K) | (refine Qr.walk_plain rfl fun K hK => ?_;apply Qr.one_call;(focus (intro w' hw';go_simp;first | done | exact ⟨rfl,rfl⟩));(focus (intro w' hw'; go_at_call 68;refine (hcall _ hw').mono ?_;rintro _ w2 ⟨rfl,hb1⟩;exact ⟨_,rfl,PhiE.yes _ _,below_step hw' (by assumption),by assumption⟩));intro v hv;cases hv;go_simp;refine hK _ ?_;clear hK K))
   refine Qr.walk_nil fun w6 hw6 => ?_
   go_wp2_with fail
   exact ⟨⟨m + 1,by omega,by simp,below_step Wb hw6⟩,by simp [intOf];omega⟩
  ·obtain rfl:m = n:=by omega
   clear h1 h2
   go_wp2_with fail
   go_ret
   exact ⟨rfl,Wb⟩
end Go.Proofs.YtbiacfkiakddiaaGreat

namespace Go.Proofs.YtbiacfkiakddiaaGreat
open Go.RowKit Go.Fl
/-- A list of ranges of one's own: no block,or a whole block from lo on. -/
def RgOwn (lo n:Nat) (v:Value) (A:Nat → Nat × Nat) (w:World):Prop:=(n = 0 ∧ v = .slice none 0 0) ∨ ∃ g,v = .slice (some ⟨g,0,none⟩) n n ∧ lo ≤ g ∧ w.heap[g]? = some (.cells (vec2 n A) 118 (0,0))
/-- A list of ranges that can be read. -/
def RgRead (n:Nat) (v:Value) (A:Nat → Nat × Nat) (w:World):Prop:=(n = 0 ∧ v = .slice none 0 0) ∨ ∃ g cap,v = .slice (some ⟨g,0,none⟩) n cap ∧ RgAt n g A w
theorem RgOwn.read {lo n:Nat} {v:Value} {A:Nat → Nat × Nat} {w:World} (h:RgOwn lo n v A w):RgRead n v A w:=by
 rcases h with h | ⟨g,rfl,_,h⟩
 ·exact .inl h
 ·exact .inr ⟨g,n,rfl,fun i hi => vec2_at h i hi⟩
theorem RgRead.keep {n:Nat} {v:Value} {A:Nat → Nat × Nat} {w w':World} (h:RgRead n v A w) (hb:Below w.heap.size w w'):RgRead n v A w':=by
 rcases h with h | ⟨g,cap,rfl,h⟩
 ·exact .inl h
 ·exact .inr ⟨g,cap,rfl,h.keep hb⟩
theorem RgOwn.keep {lo n:Nat} {v:Value} {A:Nat → Nat × Nat} {w w':World} (h:RgOwn lo n v A w) (hb:Below w.heap.size w w'):RgOwn lo n v A w':=by
 rcases h with h | ⟨g,rfl,hg,h⟩
 ·exact .inl h
 ·exact .inr ⟨g,rfl,hg,by rw [hb.block g (Array.getElem?_eq_some_iff.1 h).1];exact h⟩

/-- A list of ranges and whether it is right come back. -/
def RetRl (ok:Bool) (L:List (Nat × Nat)) (n:Nat) (w:World) (e:Ending) (w':World):Prop:=∃ v A,e = .returned (.tuple #[v,.bool ok]) ∧ RgOwn w.heap.size (if ok then n else 0) v A w' ∧ (∀ i,i < (if ok then n else 0) → cn2 (A i) = L.getD i (0,0)) ∧ Below w.heap.size w w'
theorem retRl_no {ok:Bool} {L:List (Nat × Nat)} {n:Nat} {w w':World} (h:ok = false) (hb:Below w.heap.size w w'):RetRl ok L n w (.returned (.tuple #[.slice none 0 0,.bool false])) w':=by
 subst h
 exact ⟨_,fun _ => (0,0),rfl,.inl ⟨rfl,rfl⟩,fun i hi => absurd hi (Nat.not_lt_zero _),hb⟩
theorem retRl_yes {ok:Bool} {L:List (Nat × Nat)} {n:Nat} {v:Value} {A:Nat → Nat × Nat} {w w':World} (h:ok = true) (hv:RgOwn w.heap.size n v A w') (hA:∀ i,i < n → cn2 (A i) = L.getD i (0,0)) (hb:Below w.heap.size w w'):RetRl ok L n w (.returned (.tuple #[v,.bool true])) w':=by
 subst h
 exact ⟨v,A,rfl,hv,hA,hb⟩
/-- The same of a list that can be read only. -/
def RetRd (ok:Bool) (L:List (Nat × Nat)) (n:Nat) (w:World) (e:Ending) (w':World):Prop:=∃ v A,e = .returned (.tuple #[v,.bool ok]) ∧ RgRead (if ok then n else 0) v A w' ∧ (∀ i,i < (if ok then n else 0) → cn2 (A i) = L.getD i (0,0)) ∧ Below w.heap.size w w'
theorem retRd_no {ok:Bool} {L:List (Nat × Nat)} {n:Nat} {w w':World} (h:ok = false) (hb:Below w.heap.size w w'):RetRd ok L n w (.returned (.tuple #[.slice none 0 0,.bool false])) w':=by
 subst h
 exact ⟨_,fun _ => (0,0),rfl,.inl ⟨rfl,rfl⟩,fun i hi => absurd hi (Nat.not_lt_zero _),hb⟩
theorem retRd_yes {ok:Bool} {L:List (Nat × Nat)} {n:Nat} {v:Value} {A:Nat → Nat × Nat} {w w':World} (h:ok = true) (hv:RgRead n v A w') (hA:∀ i,i < n → cn2 (A i) = L.getD i (0,0)) (hb:Below w.heap.size w w'):RetRd ok L n w (.returned (.tuple #[v,.bool true])) w':=by
 subst h
 exact ⟨v,A,rfl,hv,hA,hb⟩


set_option maxRecDepth 100000 in
set_option maxHeartbeats 4000000 in
theorem rangesin_any (ns:List PN) (hnum:∀ n ∈ ns,n.nums.length < 10000000) (nb no cap a b c d e f:Nat) (bp:Option Addr) (w:World) (hbp:ns ≠ [] → bp = some ⟨nb,no,none⟩) (hsh:∀ i (h:i < ns.length),NodeIn ns[i] nb (no + i * 4) w) (hlen:ns.length < 10000000) :
  Calls Tryz.prog 17 #[.agg #[.slice bp ns.length cap],BoxV a b c d e f] w (RetRl (rangeOk (validF ns) (cn .f32 a,cn .f32 b,cn .f32 c) (cn .f32 d,cn .f32 e,cn .f32 f)) (rangesF ns ((cn .f32 a,cn .f32 d),(cn .f32 b,cn .f32 e),(cn .f32 c,cn .f32 f))) ns.length w):=by
 obtain ⟨ok,hOk⟩:∃ ok,Hid (ok = rangeOk (validF ns) (cn .f32 a,cn .f32 b,cn .f32 c) (cn .f32 d,cn .f32 e,cn .f32 f)):=⟨_,rfl⟩
 rw [← hOk.out]
 go_enter Tryz.func17,Tryz.ntmps17
 go_upto_region 1 with fail
 have W1b:Below w.heap.size w ((w.alloc (.cells #[.slice bp ns.length cap] 36)).alloc (.cells #[.float .f32 a,.float .f32 b,.float .f32 c,.float .f32 d,.float .f32 e,.float .f32 f] 40)):=(by repeat' (first | exact Below.refl _ _ | exact Nat.le_refl _ | refine below_drewN ?_ _ | refine Below.alloc ?_ (by first | (simp;done) | (simp;omega)) _ | refine Below.setCell ?_ (by first | (simp;done) | (simp;omega)) _ | refine below_step ?_ (by assumption)))
 
 have hkept:Kept [(⟨w.heap.size,0,none⟩,.slice bp ns.length cap),(⟨w.heap.size + 1,0,none⟩,.float .f32 a),(⟨w.heap.size + 1,1,none⟩,.float .f32 b),(⟨w.heap.size + 1,2,none⟩,.float .f32 c),(⟨w.heap.size + 1,3,none⟩,.float .f32 d),(⟨w.heap.size + 1,4,none⟩,.float .f32 e),(⟨w.heap.size + 1,5,none⟩,.float .f32 f)] [] ((w.alloc (.cells #[.slice bp ns.length cap] 36)).alloc (.cells #[.float .f32 a,.float .f32 b,.float .f32 c,.float .f32 d,.float .f32 e,.float .f32 f] 40)):=by
  simp only [Kept,ka,kb,kc,kd,ke,and_true,true_and];(first | (go_simp;done) | (simp [World.cell?,World.frozen?,World.alloc,Array.getElem?_push];done))
 generalize (w.alloc (.cells #[.slice bp ns.length cap] 36)).alloc (.cells #[.float .f32 a,.float .f32 b,.float .f32 c,.float .f32 d,.float .f32 e,.float .f32 f] 40) = W1 at *
 have hv:=valid_any ns hnum nb no cap bp W1 hbp (fun i h => (hsh i h).keep W1b) hlen
 have hK:=hkept;simp only [Kept,ka,kb,kc,kd,ke,and_true,true_and] at hK
 cases hval:validF ns
 ·have hno:Hid (ok = false):=by unfold Hid;rw [hOk.out,hval];rfl
  go_wp2_with (go_at_call 65;refine hv.mono ?_;rintro _ w2 ⟨rfl,hb1⟩;have W1b:=below_step W1b hb1;have hkept:=keepT hkept hb1 rfl;clear hK;have hK:=hkept;simp only [Kept,ka,kb,kc,kd,ke,and_true,true_and] at hK;rw [hval])
  exact bodyPost_ret (v:=.tuple #[.slice none 0 0,.bool false]) (by simp [results,Tryz.results17,go_sem,hK,World.cell?_setCell_other,World.cell?_setCell_same'];first | done | exact ⟨rfl,rfl⟩) rfl (retRl_no hno.out W1b)
 cases hbx:boxP (cn .f32 a,cn .f32 b,cn .f32 c) (cn .f32 d,cn .f32 e,cn .f32 f)
 ·have hno:Hid (ok = false):=by unfold Hid;rw [hOk.out,hval];unfold rangeOk;rw [hbx];rfl
  go_wp2_with (first | (go_at_call 65;refine hv.mono ?_;rintro _ w2 ⟨rfl,hb1⟩;have W1b:=below_step W1b hb1;have hkept:=keepT hkept hb1 rfl;clear hK;have hK:=hkept;simp only [Kept,ka,kb,kc,kd,ke,and_true,true_and] at hK;rw [hval]) | (go_at_call 66;refine (box_any _ _ _ _ _ _ _).mono ?_;rintro _ w3 ⟨rfl,hb1⟩;have W1b:=below_step W1b hb1;have hkept:=keepT hkept hb1 rfl;clear hK;have hK:=hkept;simp only [Kept,ka,kb,kc,kd,ke,and_true,true_and] at hK;rw [hbx]))
  exact bodyPost_ret (v:=.tuple #[.slice none 0 0,.bool false]) (by simp [results,Tryz.results17,go_sem,hK,World.cell?_setCell_other,World.cell?_setCell_same'];first | done | exact ⟨rfl,rfl⟩) rfl (retRl_no hno.out W1b)
 have hyes:Hid (ok = true):=by unfold Hid;rw [hOk.out,hval];unfold rangeOk;rw [hbx];rfl
 obtain ⟨hl,hok⟩:=valid_ok hval
 have hne:ns ≠ []:=by intro h;rw [h] at hl;simp at hl
 have hb:=hbp hne
 subst hb
 go_upto_region 3 with (first | (go_at_call 65;refine hv.mono ?_;rintro _ w2 ⟨rfl,hb1⟩;have W1b:=below_step W1b hb1;have hkept:=keepT hkept hb1 rfl;clear hK;have hK:=hkept;simp only [Kept,ka,kb,kc,kd,ke,and_true,true_and] at hK;rw [hval]) | (go_at_call 66;refine (box_any _ _ _ _ _ _ _).mono ?_;rintro _ w3 ⟨rfl,hb1⟩;have W1b:=below_step W1b hb1;have hkept:=keepT hkept hb1 rfl;clear hK;have hK:=hkept;simp only [Kept,ka,kb,kc,kd,ke,and_true,true_and] at hK;rw [hbx]))
 have hsh2:ShapeIn ns w.heap.size 0 nb no cap w3:=⟨by simp [hK],fun i h => (hsh i h).keep W1b⟩
 have hra:=ranges_any ns hok hl w.heap.size 0 nb no cap a b c d e f w3 hsh2
 clear hv hsh hbp hsh2
 go_wp2_with (go_at_call 67;refine hra.mono ?_;rintro _ w4 ⟨g,O,rfl,hpb,hO,hg,hb1⟩;have hgw:w.heap.size ≤ g:=Nat.le_trans W1b.size hg;have W1b:=below_step W1b hb1;have hkept:=keepT hkept hb1 rfl;clear hK;have hK:=hkept;simp only [Kept,ka,kb,kc,kd,ke,and_true,true_and] at hK)
 exact bodyPost_ret (v:=.tuple #[.slice (some ⟨g,0,none⟩) ns.length ns.length,.bool true]) (by simp [results,Tryz.results17,go_sem,hK,World.cell?_setCell_other,World.cell?_setCell_same'];first | done | exact ⟨rfl,rfl⟩) rfl (retRl_yes hyes.out (.inr ⟨g,rfl,hgw,hpb⟩) hO W1b)
end Go.Proofs.YtbiacfkiakddiaaGreat

namespace Go.Proofs.YtbiacfkiakddiaaGreat
open Go.RowKit Go.Fl
set_option maxRecDepth 100000 in
theorem eq_rangesV {n:Nat} (hn:n ≤ 1000000) {v u:Value} {A B:Nat → Nat × Nat} (hAB:∀ i,i < n → cn2 (A i) = cn2 (B i)) {w:World} (h1:RgRead n v A w) (h2:RgRead n u B w) :
  Calls Tryz.prog 18 #[v,u] w (fun e w' => e = .returned (.bool true) ∧ Below w.heap.size w w'):=by
 rcases h1 with ⟨rfl,rfl⟩ | ⟨G,gc,rfl,h1⟩ <;> rcases h2 with ⟨h0,rfl⟩ | ⟨H,hc,rfl,h2⟩
 ·go_enter Tryz.func18,Tryz.ntmps18
  go_wp2_with fail
  go_loopw [5] (fun i wr => i = .int .i64 0 ∧ Below w.heap.size w wr) (fun _ _ => 0)
  case atStart => exact ⟨rfl,Below.refl _ _⟩
  case round =>
   obtain ⟨rfl,Wb⟩:=hrel
   go_wp2_with fail
   go_ret
   exact ⟨rfl,Wb⟩
 ·go_enter Tryz.func18,Tryz.ntmps18
  go_wp2_with fail
  go_loopw [5] (fun i wr => i = .int .i64 0 ∧ Below w.heap.size w wr) (fun _ _ => 0)
  case atStart => exact ⟨rfl,Below.refl _ _⟩
  case round =>
   obtain ⟨rfl,Wb⟩:=hrel
   go_wp2_with fail
   go_ret
   exact ⟨rfl,Wb⟩
 ·subst h0
  go_enter Tryz.func18,Tryz.ntmps18
  go_wp2_with fail
  go_loopw [5] (fun i wr => i = .int .i64 0 ∧ Below w.heap.size w wr) (fun _ _ => 0)
  case atStart => exact ⟨rfl,Below.refl _ _⟩
  case round =>
   obtain ⟨rfl,Wb⟩:=hrel
   go_wp2_with fail
   go_ret
   exact ⟨rfl,Wb⟩
 ·exact eq_ranges n hn G H gc hc A B hAB w h1 h2

/-- Marks turn nothing but the list's own block. -/
theorem mark_rangesV {lo n:Nat} (hn:n ≤ 1000000) {v:Value} {A:Nat → Nat × Nat} {k:Int} (hk:0 ≤ k ∧ k ≤ 1000000000) {w:World} (h:RgOwn lo n v A w) (hlo:lo ≤ w.heap.size) :
  Calls Tryz.prog 21 #[v,.int .i64 k] w (fun e w' => e = .returned (.int .i64 (k + 2 * (n:Int))) ∧ RgOwn lo n v (mkO A k n) w' ∧ Below lo w w'):=by
 rcases h with ⟨rfl,rfl⟩ | ⟨g,rfl,hg,h⟩
 ·go_enter Tryz.func21,Tryz.ntmps21
  go_wp2_with fail
  go_loopw [1,5] (fun q i wr => i = .int .i64 0 ∧ q = .int .i64 k ∧ Below lo w wr) (fun _ _ _ => 0)
  case atStart => exact ⟨rfl,rfl,Below.refl _ _⟩
  case round =>
   obtain ⟨rfl,rfl,Wb⟩:=hrel
   go_wp2_with fail
   go_ret
   exact ⟨by simp,.inl ⟨rfl,rfl⟩,Wb⟩
 ·exact (mark_ranges n hn g A k hk w h).mono fun e w' ⟨h1,h2,h3⟩ => ⟨h1,.inr ⟨g,rfl,hg,h2⟩,h3.low.mono hg⟩

theorem held_rangesV {lo n:Nat} (hn:n ≤ 1000000) {v:Value} {A:Nat → Nat × Nat} {k:Int} (hk:0 ≤ k ∧ k ≤ 1000000000) {w:World} (h:RgOwn lo n v (mkO A k n) w) :
  Calls Tryz.prog 22 #[v,.int .i64 k] w (fun e w' => e = .returned (.int .i64 (k + 2 * (n:Int))) ∧ w' = w):=by
 rcases h with ⟨rfl,rfl⟩ | ⟨g,rfl,hg,h⟩
 ·go_enter Tryz.func22,Tryz.ntmps22
  go_wp2_with fail
  go_loopw [1,5] (fun q i wr => i = .int .i64 0 ∧ q = .int .i64 k ∧ wr = w) (fun _ _ _ => 0)
  case atStart => exact ⟨rfl,rfl,rfl⟩
  case round =>
   obtain ⟨rfl,rfl,rfl⟩:=hrel
   go_wp2_with fail
   go_ret
   exact ⟨by simp,rfl⟩
 ·exact held_ranges n hn g A k hk w h
end Go.Proofs.YtbiacfkiakddiaaGreat
