/-
 Lemmas: W9,S5,W10,Y1.
-/
import Derived.Test.YtbiacfkiakddiaaGreatJae
set_option linter.unusedVariables false
set_option linter.unusedSimpArgs false
namespace Go.Proofs.YtbiacfkiakddiaaGreat
open Go.RowKit Go.Fl
/-- Numbers,children,axis,sign of a kind. -/
def ruleT:Nat → Nat × Nat × Bool × Nat
 | 0 => (1,0,false,1) | 1 => (3,0,false,1) | 2 => (2,0,false,1) | 3 => (2,0,false,1) | 4 => (4,0,false,0)
 | 5 => (0,2,false,0) | 6 => (0,2,false,0) | 7 => (0,2,false,0) | 8 => (1,2,false,2)
 | 9 => (3,1,false,0) | 10 => (1,1,false,2) | 11 => (3,1,false,2) | 12 => (1,1,true,0) | 13 => (0,1,true,0) | 14 => (1,1,true,2) | 15 => (1,1,false,0) | 16 => (1,1,false,1)
 | _ => (0,0,false,0)
def kindOk (k:Int):Bool:=decide (0 ≤ k) && decide (k ≤ 16)
def ruleF (k:Int):Nat × Nat × Bool × Nat:=if kindOk k then ruleT k.toNat else (0,0,false,0)
abbrev I64 (n:Nat):Value:=.int .i64 (n:Int)
def ruleV (k:Int):Value:=.agg #[I64 (ruleF k).1,I64 (ruleF k).2.1,.bool (ruleF k).2.2.1,I64 (ruleF k).2.2.2]

set_option maxRecDepth 100000 in
set_option maxHeartbeats 4000000 in
theorem rule_any (k:Int) (w:World):Calls Tryz.prog 155 #[.int .i64 k] w (fun e w' => e = .returned (.tuple #[ruleV k,.bool (kindOk k)]) ∧ Below w.heap.size w w'):=by
 by_cases hk:0 ≤ k ∧ k ≤ 16
 ·have:k = 0 ∨ k = 1 ∨ k = 2 ∨ k = 3 ∨ k = 4 ∨ k = 5 ∨ k = 6 ∨ k = 7 ∨ k = 8 ∨ k = 9 ∨ k = 10 ∨ k = 11 ∨ k = 12 ∨ k = 13 ∨ k = 14 ∨ k = 15 ∨ k = 16:=by omega
  rcases this with h | h | h | h | h | h | h | h | h | h | h | h | h | h | h | h | h
  all_goals
   subst h
   clear hk
   go_enter Tryz.func155,Tryz.ntmps155
   go_wp2_with fail
   refine ⟨rfl,.tuple #[ruleV _,.bool true],?_,rfl,(by repeat' (first | exact Below.refl _ _ | exact Nat.le_refl _ | refine below_drewN ?_ _ | refine Below.alloc ?_ (by first | (simp;done) | (simp;omega)) _ | refine Below.setCell ?_ (by first | (simp;done) | (simp;omega)) _ | refine below_step ?_ (by assumption)))
⟩
   ·simp [results,Tryz.results155,go_sem,List.mapM_cons,Array.mapM_eq_mapM_toList,ruleV,ruleF,kindOk,ruleT,I64];try rfl
 ·have hk':kindOk k = false:=by
   simp only [kindOk,Bool.and_eq_false_iff,decide_eq_false_iff_not];omega
  have hr:ruleV k = .agg #[I64 0,I64 0,.bool false,I64 0]:=by simp only [ruleV,ruleF,hk'];rfl
  rw [hr,hk']
  have hn:∀ c:Nat,c ≤ 16 → k ≠ (c:Int):=fun c hc h => hk (by omega)
  have h0:=hn 0 (by omega);have h1:=hn 1 (by omega);have h2:=hn 2 (by omega);have h3:=hn 3 (by omega);have h4:=hn 4 (by omega);have h5:=hn 5 (by omega);have h6:=hn 6 (by omega);have h7:=hn 7 (by omega);have h8:=hn 8 (by omega);have h9:=hn 9 (by omega);have h10:=hn 10 (by omega);have h11:=hn 11 (by omega);have h12:=hn 12 (by omega);have h13:=hn 13 (by omega);have h14:=hn 14 (by omega);have h15:=hn 15 (by omega);have h16:=hn 16 (by omega)
  clear hn hk hk' hr
  simp only [Int.natCast_zero,Int.natCast_one,Int.cast_ofNat_Int] at h0 h1 h2 h3 h4 h5 h6 h7 h8 h9 h10 h11 h12 h13 h14 h15 h16
  go_enter Tryz.func155,Tryz.ntmps155
  go_wp2_with fail
  exact bodyPost_ret (v:=.tuple #[.agg #[I64 0,I64 0,.bool false,I64 0],.bool false]) (by simp [results,Tryz.results155,go_sem];first | done | rfl) rfl ⟨rfl,(by repeat' (first | exact Below.refl _ _ | exact Nat.le_refl _ | refine below_drewN ?_ _ | refine Below.alloc ?_ (by first | (simp;done) | (simp;omega)) _ | refine Below.setCell ?_ (by first | (simp;done) | (simp;omega)) _ | refine below_step ?_ (by assumption)))⟩

end Go.Proofs.YtbiacfkiakddiaaGreat

namespace Go.Proofs.YtbiacfkiakddiaaGreat
open Go.RowKit Go.Fl
set_option maxHeartbeats 400000 in
theorem s_in_any (a b c:Int) (w:World) :
  Calls Tryz.prog 71 #[.int .i64 a,.int .i64 b,.int .i64 c] w (fun e w' => e = .returned (.bool (decide (b ≤ a) && decide (a ≤ c))) ∧ w = w'):=by
 by_cases h1:b ≤ a
 ·by_cases h2:a ≤ c
  all_goals
   go_enter Tryz.func71,Tryz.ntmps71
   go_wp2_with fail
   go_ret
   exact ⟨by simp [h1,h2],rfl⟩
 ·go_enter Tryz.func71,Tryz.ntmps71
  go_wp2_with fail
  go_ret
  exact ⟨by rw [decide_eq_false (by omega:¬ b ≤ a)];rfl,rfl⟩

theorem s_leaf_any (k:Int) (w:World):Calls Tryz.prog 119 #[.int .i64 k] w (fun e w' => e = .returned (.bool (decide (0 ≤ k) && decide (k ≤ 4))) ∧ w = w'):=by
 go_enter Tryz.func119,Tryz.ntmps119
 go_wp2_with (go_at_call 71;refine (s_in_any _ _ _ _).mono ?_;rintro _ w2 ⟨rfl,rfl⟩)
 go_ret
 exact ⟨rfl,rfl⟩

theorem s_two_any (k:Int) (w:World):Calls Tryz.prog 120 #[.int .i64 k] w (fun e w' => e = .returned (.bool (decide (5 ≤ k) && decide (k ≤ 8))) ∧ w = w'):=by
 go_enter Tryz.func120,Tryz.ntmps120
 go_wp2_with (go_at_call 71;refine (s_in_any _ _ _ _).mono ?_;rintro _ w2 ⟨rfl,rfl⟩)
 go_ret
 exact ⟨rfl,rfl⟩

theorem s_axis_any (k:Int) (w:World):Calls Tryz.prog 186 #[.int .i64 k] w (fun e w' => e = .returned (.bool (decide (12 ≤ k) && decide (k ≤ 14))) ∧ w = w'):=by
 go_enter Tryz.func186,Tryz.ntmps186
 go_wp2_with (go_at_call 71;refine (s_in_any _ _ _ _).mono ?_;rintro _ w2 ⟨rfl,rfl⟩)
 go_ret
 exact ⟨rfl,rfl⟩

set_option maxRecDepth 100000 in
set_option maxHeartbeats 4000000 in
theorem s_count_any (k:Int) (w:World):Calls Tryz.prog 252 #[.int .i64 k] w (fun e w' => e = .returned (I64 (ruleF k).1) ∧ w = w'):=by
 by_cases hk:0 ≤ k ∧ k ≤ 16
 ·have:k = 0 ∨ k = 1 ∨ k = 2 ∨ k = 3 ∨ k = 4 ∨ k = 5 ∨ k = 6 ∨ k = 7 ∨ k = 8 ∨ k = 9 ∨ k = 10 ∨ k = 11 ∨ k = 12 ∨ k = 13 ∨ k = 14 ∨ k = 15 ∨ k = 16:=by omega
  rcases this with h | h | h | h | h | h | h | h | h | h | h | h | h | h | h | h | h
  all_goals
   subst h
   clear hk
   go_enter Tryz.func252,Tryz.ntmps252
   go_wp2_with fail
   go_ret
   exact ⟨rfl,rfl⟩
 ·have hk':kindOk k = false:=by
   simp only [kindOk,Bool.and_eq_false_iff,decide_eq_false_iff_not];omega
  have hr:I64 (ruleF k).1 = .int .i64 0:=by simp only [ruleF,hk'];rfl
  rw [hr]
  have hn:∀ c:Nat,c ≤ 16 → k ≠ (c:Int):=fun c hc h => hk (by omega)
  have h0:=hn 0 (by omega);have h1:=hn 1 (by omega);have h2:=hn 2 (by omega);have h3:=hn 3 (by omega);have h4:=hn 4 (by omega);have h5:=hn 5 (by omega);have h6:=hn 6 (by omega);have h7:=hn 7 (by omega);have h8:=hn 8 (by omega);have h9:=hn 9 (by omega);have h10:=hn 10 (by omega);have h11:=hn 11 (by omega);have h12:=hn 12 (by omega);have h13:=hn 13 (by omega);have h14:=hn 14 (by omega);have h15:=hn 15 (by omega);have h16:=hn 16 (by omega)
  clear hn hk hk' hr
  simp only [Int.natCast_zero,Int.natCast_one,Int.cast_ofNat_Int] at h0 h1 h2 h3 h4 h5 h6 h7 h8 h9 h10 h11 h12 h13 h14 h15 h16
  go_enter Tryz.func252,Tryz.ntmps252
  go_wp2_with fail
  go_ret
  exact ⟨rfl,rfl⟩
end Go.Proofs.YtbiacfkiakddiaaGreat

namespace Go.Proofs.YtbiacfkiakddiaaGreat
open Go.RowKit Go.Fl
set_option maxRecDepth 100000 in
set_option maxHeartbeats 4000000 in
theorem children_any (b o:Nat) (k x y:Int) (w:World) (h0:w.cell? ⟨b,o,none⟩ = some (.int .i64 k)) (h1:w.cell? ⟨b,o + 1,none⟩ = some (.int .i64 x)) (h2:w.cell? ⟨b,o + 2,none⟩ = some (.int .i64 y)) :
  Calls Tryz.prog 93 #[.pointer (some ⟨b,o,none⟩)] w (fun e w' => ∃ g,e = .returned (.slice (some ⟨g,0,none⟩) (ruleF k).2.1 2) ∧ w'.cell? ⟨g,0,none⟩ = some (.int .i64 x) ∧ w'.cell? ⟨g,1,none⟩ = some (.int .i64 y) ∧ w.heap.size ≤ g ∧ Below w.heap.size w w'):=by
 have hc:(ruleF k).2.1 ≤ 2:=by
  unfold ruleF;split
  ·unfold ruleT;split <;> simp
  ·simp
 have hb:b < w.heap.size:=some_lt (a:=⟨b,o,none⟩) (by rw [h0];rfl)
 go_enter Tryz.func93,Tryz.ntmps93
 go_wp2_with (go_at_call 155;refine (rule_any _ _).mono ?_;rintro _ w2 ⟨rfl,hb1⟩;have HL:=lift hb1;simp only [ruleV])
 have W3b:Below w.heap.size w (w2.alloc (.cells #[I64 (ruleF k).1,I64 (ruleF k).2.1,.bool (ruleF k).2.2.1,I64 (ruleF k).2.2.2] 217)):=hb1.alloc hb1.size _
 have hk1:(w2.alloc (.cells #[I64 (ruleF k).1,I64 (ruleF k).2.1,.bool (ruleF k).2.2.1,I64 (ruleF k).2.2.2] 217)).cell? ⟨b,o + 1,none⟩ = some (.int .i64 x):=by rw [lift W3b _ (by rw [h1];rfl)];exact h1
 have hk2:(w2.alloc (.cells #[I64 (ruleF k).1,I64 (ruleF k).2.1,.bool (ruleF k).2.2.1,I64 (ruleF k).2.2.2] 217)).cell? ⟨b,o + 2,none⟩ = some (.int .i64 y):=by rw [lift W3b _ (by rw [h2];rfl)];exact h2
 have hk3:(w2.alloc (.cells #[I64 (ruleF k).1,I64 (ruleF k).2.1,.bool (ruleF k).2.2.1,I64 (ruleF k).2.2.2] 217)).cell? ⟨w2.heap.size,1,none⟩ = some (I64 (ruleF k).2.1):=by simp
 clear hb1 HL
 generalize w2.alloc (.cells #[I64 (ruleF k).1,I64 (ruleF k).2.1,.bool (ruleF k).2.2.1,I64 (ruleF k).2.2.2] 217) = w3 at *
 clear h0 h1 h2
 generalize hnc:(ruleF k).2.1 = nc at *
 have hc':(nc:Int) ≤ 2:=by omega
 have hc0:(0:Int) ≤ nc:=by omega
 have hs3:w2.heap.size < w3.heap.size:=some_lt (a:=⟨w2.heap.size,1,none⟩) (by rw [hk3];rfl)
 have hk4:(w3.alloc (.cells #[.int .i64 x,.int .i64 y] 2)).cell? ⟨w2.heap.size,1,none⟩ = some (I64 nc):=by rw [lift ((Below.refl w3.heap.size w3).alloc (Nat.le_refl _) _) _ (by rw [hk3];rfl)];exact hk3
 go_region
 go_wp2_with fail
 go_ret
 exact ⟨w3.heap.size,by rw [hnc];rfl,by simp,by simp,W3b.size,((W3b.alloc W3b.size _)).drew⟩

theorem last_any (sb so:Nat) (bp:Option Addr) (len cap:Nat) (w:World) (h0:w.cell? ⟨sb,so,none⟩ = some (.slice bp len cap)) :
  Calls Tryz.prog 83 #[.pointer (some ⟨sb,so,none⟩)] w (fun e w' => e = .returned (.int .i64 (wrap64 ((len:Int) - 1))) ∧ w' = w):=by
 go_enter Tryz.func83,Tryz.ntmps83
 go_wp2_with fail
 go_ret
 exact ⟨rfl,rfl⟩
end Go.Proofs.YtbiacfkiakddiaaGreat

namespace Go.Proofs.YtbiacfkiakddiaaGreat
open Go.RowKit Go.Fl
theorem keptT {cs:List (Addr × Value)} {fs:List Addr} {W W':World} (h:Kept cs fs W) (e:W'.heap = W.heap):Kept cs fs W':=by
 obtain ⟨h1,h2⟩:=h
 have hc:∀ a,W'.cell? a = W.cell? a:=fun a => by unfold World.cell?;rw [e]
 have hf:∀ a,W'.frozen? a = W.frozen? a:=fun a => by unfold World.frozen?;rw [e]
 exact ⟨fun p hp => by rw [hc];exact h1 p hp,fun a ha => by rw [hc,hf];exact h2 a ha⟩
theorem keepT {cs:List (Addr × Value)} {fs:List Addr} {W X w:World} (h:Kept cs fs W) (hb:Below X.heap.size X w) (e:X.heap = W.heap):Kept cs fs w:=keep (keptT h e) hb

/-- A ray lies here. -/
structure RayIn (a b c d e f rb ro:Nat) (w:World):Prop where
 kept:Kept [(⟨rb,ro,none⟩,F1 a),(⟨rb,ro + 1,none⟩,F1 b),(⟨rb,ro + 2,none⟩,F1 c),(⟨rb,ro + 3,none⟩,F1 d),(⟨rb,ro + 4,none⟩,F1 e),(⟨rb,ro + 5,none⟩,F1 f)] [] w
theorem RayIn.keep {a b c d e f rb ro:Nat} {w w':World} (h:RayIn a b c d e f rb ro w) (hb:Below w.heap.size w w'):RayIn a b c d e f rb ro w':=⟨Go.Fl.keep h.kept hb⟩
theorem RayIn.lt {a b c d e f rb ro:Nat} {w:World} (h:RayIn a b c d e f rb ro w):rb < w.heap.size:=some_lt (a:=⟨rb,ro,none⟩) (by rw [h.kept.1 (⟨rb,ro,none⟩,F1 a) (by simp)];rfl)

end Go.Proofs.YtbiacfkiakddiaaGreat
